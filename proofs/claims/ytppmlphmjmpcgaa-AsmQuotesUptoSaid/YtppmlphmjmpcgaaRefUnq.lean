/-
  The reference's Unquote: it answers as asm's.
-/
import Derived.Test.YtppmlphmjmpcgaaRefQuote
import Derived.Test.YtppmlphmjmpcgaaOneStep
import Derived.Test.YtppmlphmjmpcgaaUnq
import Derived.Test.YtppmlphmjmpcgaaQuoted
import Derived.Outline
namespace Go.Proofs.Ytppmlphmjmpcgaa
set_option linter.unusedVariables false
open Go.RowKit
open Go.Proofs.YtppmlphmjmpcgaaW.PrintWords Go.Proofs.YtppmlphmjmpcgaaW.PrintLast Go.Proofs.YtppmlphmjmpcgaaW.PrintMore

theorem step_drop {l r : List UInt8} {c : UInt8} (h : step l = some (c, r)) : l.drop (l.length - r.length) = r := by
  have key : ∀ (a r : List UInt8), (a ++ r).drop ((a ++ r).length - r.length) = r := by
    intro a r
    rw [List.length_append, Nat.add_sub_cancel, List.drop_left]
  unfold step at h
  split at h
  · cases h
  · split at h
    · cases h
    · split at h
      · injection h with h; injection h with h1 h2; subst h2; exact key [_] _
      · split at h
        · cases h
        · split at h
          · injection h with h; injection h with h1 h2; subst h2; exact key [_, _] _
          · split at h
            · injection h with h; injection h with h1 h2; subst h2; exact key [_, _] _
            · split at h
              · cases h
              · split at h
                · split at h
                  · injection h with h; injection h with h1 h2; subst h2; exact key [_, _, _, _] _
                  · cases h
                · cases h
theorem unq_form {l x : List UInt8} (h : unq l = some x) : ∃ m, l = [34] ++ m ++ [34] := by
  unfold unq at h
  split at h
  · rename_i hp
    split at h
    · rename_i hq
      unfold Lib.hasPrefix at hp
      obtain ⟨t, ht⟩ := List.isPrefixOf_iff_prefix.1 hp
      have e : Lib.trimPrefix l [34] = t := by
        unfold Lib.trimPrefix Lib.hasPrefix
        rw [if_pos hp, ← ht]
        rfl
      rw [e] at hq
      unfold Lib.hasSuffix at hq
      obtain ⟨m, hm⟩ := List.isSuffixOf_iff_suffix.1 hq
      exact ⟨m, by rw [← ht, ← hm, List.append_assoc]⟩
    · cases h
  · cases h
theorem unq_no {l : List UInt8} (h : ∀ m, l ≠ [34] ++ m ++ [34]) : unq l = none := by
  cases e : unq l with
  | none => rfl
  | some x => obtain ⟨m, hm⟩ := unq_form e; exact absurd hm (h m)
theorem unq_short (s : ByteArray) (h : s.size < 2) : unq s.data.toList = none := by
  refine unq_no fun m hm => ?_
  have : s.data.toList.length = s.size := by simp
  rw [hm] at this
  simp at this
  omega
theorem unq_head (s : ByteArray) (h : bt s 0 ≠ 34) : unq s.data.toList = none := by
  refine unq_no fun m hm => h ?_
  rw [show (0 : Int) = ((0 : Nat) : Int) from rfl, bt_of, hm]
  rfl
theorem unq_last (s : ByteArray) (e : Nat) (he : s.size = e + 1) (h : bt s (e : Int) ≠ 34) : unq s.data.toList = none := by
  refine unq_no fun m hm => h ?_
  have hl : s.data.toList.length = s.size := by simp
  rw [bt_of, hm]
  rw [hm, he] at hl
  simp at hl
  subst hl
  simp
theorem unq_inner (s : ByteArray) (e : Nat) (he : s.size = e + 1) (h1 : 1 ≤ e) (h0 : bt s 0 = 34) (h : bt s (e : Int) = 34) : unq s.data.toList = un (part s 1 e) := by
  have hl : s.data.toList.length = s.size := by simp
  rw [show (0 : Int) = ((0 : Nat) : Int) from rfl, bt_of] at h0
  rw [bt_of] at h
  rw [← unq_between]
  congr 1
  unfold part
  obtain ⟨l, hll⟩ : ∃ l, l = s.data.toList := ⟨_, rfl⟩
  rw [← hll] at h0 h hl ⊢
  rw [he] at hl
  match l, hl with
  | a :: r, hl =>
    rw [List.length_cons] at hl
    have ha : a = 34 := by
      apply UInt8.toNat_inj.1
      have : (a.toNat : Int) = 34 := h0
      show a.toNat = 34
      omega
    match e, h1 with
    | e + 1, _ =>
      have hr : r.length = e + 1 := by omega
      have hlast : r.getD e 0 = 34 := by
        apply UInt8.toNat_inj.1
        have : ((r.getD e 0).toNat : Int) = 34 := h
        show (r.getD e 0).toNat = 34
        omega
      have hd : r.drop e = [34] := by
        rw [List.drop_eq_getElem_cons (by omega), List.drop_of_length_le (by omega)]
        rw [List.getD_eq_getElem?_getD, List.getElem?_eq_getElem (by omega)] at hlast
        have : r[e] = 34 := hlast
        rw [this]
      have : r.take e ++ r.drop e = r := List.take_append_drop e r
      rw [hd] at this
      rw [ha]
      show 34 :: r = 34 :: (r.take e ++ [34])
      rw [this]

set_option maxRecDepth 100000 in
set_option maxHeartbeats 8000000 in
theorem ref_unquote (s : ByteArray) (w : World) (ss : s.size ≤ 140737488351232) :
    Calls Try.prog 5 #[.string s] w (UnqPost s.data.toList w) := by
  have HS := Aside0.mk ss
  by_cases h2 : s.size < 2
  · have d1 : decide ((s.size : Int) < 2) = true := decide_eq_true (by omega)
    have d2 : decide (s.size < 2) = true := decide_eq_true h2
    have HU := Aside0.mk (unq_short s h2)
    obtain ⟨e, he⟩ : ∃ e, e = (s.size : Int) - 1 := ⟨_, rfl⟩
    have we : IntKind.i64.wrap ((s.size : Int) - 1) = e := by rw [he]; exact wrap_i64_id _ (by omega) (by omega)
    clear h2 he ss
    go_enter Try.func5, Try.ntmps5
    go_wp2_with fail
    go_ret2
    refine ⟨?_, Below.refl _ _⟩
    rw [HU.out]
    rfl
  · obtain ⟨e, he⟩ : ∃ e : Nat, s.size = e + 1 := ⟨s.size - 1, by omega⟩
    have d1 : decide ((s.size : Int) < 2) = false := decide_eq_false (by omega)
    have d2 : decide (s.size < 2) = false := decide_eq_false h2
    have we : IntKind.i64.wrap ((s.size : Int) - 1) = (e : Int) := by rw [wrap_i64_id _ (by omega) (by omega)]; omega
    have p0 := eq_true (show (0 : Int) < (s.size : Int) by omega)
    have q0 := eq_true (show 0 < s.size by omega)
    have x0 : ∀ h : 0 < s.size, ((s[0]'h).toNat : Int) = bt s 0 := bt_at s 0
    have HE := Aside0.mk he
    have HE1 := Aside0.mk (show 1 ≤ e by omega)
    by_cases h34 : bt s 0 = 34
    · have e0 : (bt s 0 != 34) = false := by unfold bne; rw [beq_iff_eq.2 h34]; rfl
      have p1 := eq_true (show (e : Int) < (s.size : Int) by omega)
      have q1 := eq_true (show e < s.size by omega)
      have x1 : ∀ h : e < s.size, ((s[e]'h).toNat : Int) = bt s (e : Int) := bt_at s (e : Int)
      by_cases l34 : bt s (e : Int) = 34
      · have e1 : (bt s (e : Int) != 34) = false := by unfold bne; rw [beq_iff_eq.2 l34]; rfl
        have HU := Aside0.mk (unq_inner s e he (by omega) h34 l34)
        clear h2 h34 l34 ss he
        go_enter Try.func5, Try.ntmps5
        go_wp2_with fail
        clear p0 q0 x0 e0 p1 q1 x1 e1 d1 d2 we
        go_loopw [5, 6] (fun v5 v6 wr => ∃ (k : Nat) (d : List UInt8), v6 = .int .i64 (k : Int) ∧ 1 ≤ k ∧ k ≤ e ∧ Aside0 (un (part s 1 e) = (un (part s k e)).map (d ++ ·)) ∧ Aside0 (d.length ≤ k) ∧ Aside0 (Kd.R (Kd.int .u8) 5 wr w.heap.size (fun _ => True) v5 (ns d)) ∧ Aside0 (Below w.heap.size w wr)) (fun _ i _ => e - (intOf i).toNat)
        case atStart => exact ⟨1, [], rfl, Nat.le_refl _, HE1.out, ⟨by cases un (part s 1 e) <;> rfl⟩, ⟨by simp⟩, ⟨Kd.R_nil _ _ _ _ _⟩, ⟨Below.refl _ _⟩⟩
        case round =>
          obtain ⟨k, d, rfl, hk1, hk2, HR, HL, HO, HB⟩ := hrel
          obtain ⟨x5, hx5⟩ : ∃ x, x = ns d := ⟨_, rfl⟩
          rw [← hx5] at HO
          have HX := Aside0.mk hx5
          have HLEN := Aside0.mk (show x5.length < 140737488355328 by
            rw [hx5, ns_length]
            have := HL.out
            have := HS.out
            have := HE.out
            omega)
          have HK := Aside0.mk hk2
          clear hx5
          by_cases hlt : k < e
          · have d0 : decide ((k : Int) < (e : Int)) = true := decide_eq_true (by omega)
            have d0n : decide (k < e) = true := decide_eq_true hlt
            have HT := Aside0.mk hlt
            have HPL := Aside0.mk (part_length s k e (by rw [HE.out]; omega))
            clear hlt
            go_wp2_with fail
            refine (one_step s k e _ HT.out (by rw [HE.out]; omega) (by have := HS.out; omega)).mono ?_
            intro e' w2 hpost
            unfold OnePost at hpost
            cases hst : step (part s k e) with
            | none =>
              rw [hst] at hpost
              obtain ⟨rfl, ⟨nd, rfl⟩⟩ := hpost
              have HU2 := Aside0.mk (show unq s.data.toList = none by
                rw [HU.out, HR.out, un_none (fun h => ?_) hst]
                · rfl
                · have := HPL.out
                  rw [h] at this
                  have := HT.out
                  simp at *
                  omega)
              clear hst
              go_wp2_with fail
              go_ret2
              refine ⟨?_, pw_below_drewN HB.out _⟩
              rw [HU2.out]
              rfl
            | some cz =>
              obtain ⟨c, z⟩ := cz
              rw [hst] at hpost
              obtain ⟨rfl, ⟨nd, rfl⟩⟩ := hpost
              have hshort := step_short hst
              have hdrop := step_drop hst
              rw [part_drop] at hdrop
              obtain ⟨n, hn⟩ : ∃ n : Nat, n = (part s k e).length - z.length := ⟨_, rfl⟩
              have HRN := Aside0.mk (show un (part s 1 e) = (un (part s (k + n) e)).map ((d ++ [c]) ++ ·) by
                rw [HR.out, un_some hst, hn, hdrop, Option.map_map]
                congr 1
                funext x
                simp)
              have HN1 := Aside0.mk (show 1 ≤ n by omega)
              have HN2 := Aside0.mk (show k + n ≤ e by have := HPL.out; have := HT.out; omega)
              rw [← hn]
              obtain ⟨b, hb⟩ : ∃ b : Int, b = (c.toNat : Int) := ⟨_, rfl⟩
              rw [← hb]
              have HBb := Aside0.mk hb
              have n0 : ((n : Int) == 0) = false := beq_eq_false_iff_ne.2 (by omega)
              obtain ⟨z5, hz5⟩ : ∃ z5 : List Int, z5 = x5 ++ [b] := ⟨_, rfl⟩
              have Nz := Aside0.mk hz5
              have HZ := Aside0.mk (show ns (d ++ [c]) = z5 by rw [hz5, HX.out, hb, ns_append]; rfl)
              have HLz := Aside0.mk (show (d ++ [c]).length ≤ k + n by have := HL.out; have := HN1.out; rw [List.length_append, List.length_singleton]; omega)
              obtain ⟨kn, hkn⟩ : ∃ kn : Int, kn = (k : Int) + (n : Int) := ⟨_, rfl⟩
              have wk : IntKind.i64.wrap ((k : Int) + (n : Int)) = kn := by rw [hkn]; exact wrap_i64_id _ (by omega) (by have := HN2.out; have := HE.out; have := HS.out; omega)
              have HKN := Aside0.mk hkn
              clear hst hshort hdrop hn hb hz5 hkn
              go_wp2_with (first | ((with_reducible refine gate_builtin (b := .append) (xs := #[.tmp 38, .tmp 40]) rfl ?_); at_builtin; refine Kd.R_append (Kd.int .u8) (w0 := w) w.heap.size rfl (.tmp 38) (.tmp 40) 26 5 (.int .u8 0) 1 rfl Try.underlying26 info5 rfl (by decide) (by omega) u5 x5 (b) [.int .u8 (b)] (fun _ => True) (fun _ => False) rfl rfl ?aP (fun _ hk => hk.elim) ?aF ?aO ?aB ?aS ?aL ?_; (case aP => exact rfl); (case aB => exact (by repeat (first | (with_reducible first | exact HB.out | apply below_alloc | apply pw_below_drewN | apply below_drew1) | exact HB.out))); (case aF => exact (fun _ _ => trivial)); (case aO => exact (by (with_reducible repeat (first | apply Kd.R_alloc | apply Kd.R_drewN | apply Kd.R_drew)); exact HO.out)); (case aS => exact (below_size (by repeat (first | (with_reducible first | exact HB.out | apply below_alloc | apply pw_below_drewN | apply below_drew1) | exact HB.out)))); (case aL => have := HLEN.out; omega); intro v2_ w2_ ho hb hg hat; rw [← Nz.out] at ho; have n0_ := Aside0.mk (hb); have n1_ := Aside0.mk (ho); clear HB; clear HO; have HB := n0_; have HOz := n1_; clear n0_ n1_; clear ho hb hg hat))
              go_roundw
              case rel => exact ⟨k + n, d ++ [c], by rw [HKN.out]; rfl, by omega, HN2.out, HRN, HLz, ⟨by rw [HZ.out]; exact HOz.out⟩, HB⟩
              case measure =>
                have := HN1.out
                have := HN2.out
                have := HKN.out
                first | (simp [intOf]; done) | (simp [intOf]; omega)
          · have d0 : decide ((k : Int) < (e : Int)) = false := decide_eq_false (by omega)
            have d0n : decide (k < e) = false := decide_eq_false hlt
            have HU2 := Aside0.mk (show unq s.data.toList = some d by
              rw [HU.out, HR.out, show part s k e = [] by
                apply List.eq_nil_of_length_eq_zero
                rw [part_length s k e (by rw [HE.out]; omega)]
                omega, un_nil]
              simp)
            have hcv := own_string (P := Try.prog) Try.underlying26 Try.underlying5 Try.underlying9 (Kd.own_of_R HO.out)
            rw [HX.out, str_ns] at hcv
            clear hlt
            go_wp2_with fail
            go_ret2
            refine ⟨?_, HB.out⟩
            rw [HU2.out]
            rfl
      · have e1 : (bt s (e : Int) != 34) = true := by unfold bne; rw [beq_eq_false_iff_ne.2 l34]; rfl
        have HU := Aside0.mk (unq_last s e he l34)
        clear h2 h34 l34 ss he
        go_enter Try.func5, Try.ntmps5
        go_wp2_with fail
        go_ret2
        refine ⟨?_, Below.refl _ _⟩
        rw [HU.out]
        rfl
    · have e0 : (bt s 0 != 34) = true := by unfold bne; rw [beq_eq_false_iff_ne.2 h34]; rfl
      have HU := Aside0.mk (unq_head s h34)
      clear h2 h34 ss he
      go_enter Try.func5, Try.ntmps5
      go_wp2_with fail
      go_ret2
      refine ⟨?_, Below.refl _ _⟩
      rw [HU.out]
      rfl
end Go.Proofs.Ytppmlphmjmpcgaa
