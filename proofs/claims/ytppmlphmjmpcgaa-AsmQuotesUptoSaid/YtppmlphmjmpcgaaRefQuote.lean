/-
  The reference's Quote: it answers as asm's.
-/
import Derived.Test.YtppmlphmjmpcgaaRefHex
import Derived.Outline
import Derived.Test.YtppmlphmjmpcgaaWRepsOne
namespace Go.Proofs.Ytppmlphmjmpcgaa
set_option linter.unusedVariables false
open Go.RowKit
open Go.Proofs.YtppmlphmjmpcgaaW.PrintWords Go.Proofs.YtppmlphmjmpcgaaW.PrintLast Go.Proofs.YtppmlphmjmpcgaaW.PrintMore

theorem info5 : (Try.prog.info? 5).map (fun i => (i.zero, i.size, i.bytes)) = some (some (.int .u8 0), 1, 1) := by kernel_rfl
/-- bytes as numbers -/
def ns (l : List UInt8) : List Int := l.map (fun c => (c.toNat : Int))
theorem ns_append (a b : List UInt8) : ns (a ++ b) = ns a ++ ns b := List.map_append
theorem ns_length (a : List UInt8) : (ns a).length = a.length := List.length_map _
theorem str_ns (l : List UInt8) : strOfNums (ns l) = ofL l := by
  unfold strOfNums ns ofL
  congr 1
  simp [List.map_map, Function.comp_def]
theorem fresh_reads (W : World) (ys : List Int) (h : ys.length ≤ 9223372036854775807) : ReadsRow (fun (x : Int) cs => cs = [.int .u8 x]) 1 (W.alloc (.cells (ys.map (Value.int .u8 ·)).toArray 5)) (some ⟨W.heap.size, 0, none⟩) ys.length ys := by
  refine ⟨rfl, h, fun _ => ⟨_, rfl, fun j p hp => ⟨[.int .u8 p], rfl, rfl, fun i u hu => ?_⟩⟩⟩
  cases i with
  | succ i => simp at hu
  | zero =>
    simp only [List.getElem?_cons_zero, Option.some.injEq] at hu
    subst hu
    have e : (⟨W.heap.size, 0, none⟩ : Addr).add (j * 1 + 0) = ⟨W.heap.size, j, none⟩ := by simp [Addr.add, Eq.comm]
    rw [e, Lib.cell_of_heap (heap_alloc_new W _)]
    simp [hp]
theorem fresh_own (W : World) : Kd.R (Kd.int .u8) 5 (W.alloc (.cells #[.int .u8 34] 5)) W.heap.size (fun _ => True) (.slice (some ⟨W.heap.size, 0, none⟩) 1 1) [34] := by
  refine ⟨fun _ _ => trivial, [.int .u8 34], ?_, Reps.one (show Kd.M (Kd.int .u8) _ _ _ (34) [.int .u8 34] from rfl) (Reps.none _ _)⟩
  have h2 := World.ownsRow_lit (base := W.heap.size) (e := 5) (size := 1) W #[.int .u8 34] 1 (Nat.le_refl _) (by simp [maxLen]) (by simp)
  exact h2
theorem div16 (c : Int) (h0 : 0 ≤ c) (h1 : c ≤ 255) : Int.tdiv c 16 = c / 16 := Int.tdiv_eq_ediv_of_nonneg h0
theorem mod16 (c : Int) (h0 : 0 ≤ c) (h1 : c ≤ 255) : Int.tmod c 16 = c % 16 := Int.tmod_eq_emod_of_nonneg h0

set_option maxRecDepth 100000 in
set_option maxHeartbeats 8000000 in
theorem ref_quote (s : ByteArray) (w : World) (hs : s.size ≤ 1048576) :
    Calls Try.prog 8 #[.string s] w fun e w' => e = .returned (.string (ofL (quoteL s.data.toList))) ∧ Below w.heap.size w w' := by
  have HLN := Aside0.mk (show s.data.toList.length = s.size by simp)
  have HB := Aside0.mk (Below.refl w.heap.size w)
  have HO0 := Aside0.mk (fresh_own w)
  go_enter Try.func8, Try.ntmps8
  go_wp2_with fail
  go_loopw [3, 4] (fun v3 v4 wr => ∃ k : Nat, v4 = .int .i64 (k : Int) ∧ k ≤ s.size ∧ Aside0 (Kd.R (Kd.int .u8) 5 wr w.heap.size (fun _ => True) v3 (ns ([34] ++ (s.data.toList.take k).flatMap qb))) ∧ Aside0 (Below w.heap.size w wr)) (fun _ i _ => s.size - (intOf i).toNat)
  case atStart => exact ⟨0, rfl, Nat.zero_le _, HO0, ⟨by repeat (first | (with_reducible first | exact HB.out | apply below_alloc | apply pw_below_drewN | apply below_drew1) | exact HB.out)⟩⟩
  case round =>
    clear HB HO0
    obtain ⟨k, rfl, hk, HO, HB⟩ := hrel
    obtain ⟨x3, hx3⟩ : ∃ x, x = ns ([34] ++ (s.data.toList.take k).flatMap qb) := ⟨_, rfl⟩
    have HX3 := Aside0.mk hx3
    rw [← hx3] at HO
    have HLEN := Aside0.mk (show x3.length + 4 < 140737488355328 by
        rw [hx3, ns_length, List.length_append]
        have := flat_length (s.data.toList.take k)
        have h2 := List.length_take_le k s.data.toList
        rw [List.length_singleton]
        omega)
    clear hx3
    by_cases hlt : k < s.size
    · obtain ⟨u, hu⟩ : ∃ u, s.data.toList[k]? = some u := ⟨_, List.getElem?_eq_getElem (by rw [HLN.out]; exact hlt)⟩
      have hl2 : (k : Int) < (s.size : Int) := by omega
      have q0 := eq_true hlt
      have huc : ∀ h : k < s.size, ((s[k]'h).toNat : Int) = (u.toNat : Int) := fun h => by
        have : s[k]'h = u := by
          rw [List.getElem?_eq_getElem (by rw [HLN.out]; exact h)] at hu
          injection hu
        rw [this]
      have HFT := Aside0.mk (flat_take hu)
      have hr := u.toNat_lt
      have HQ := Aside0.mk (qb_cases u)
      obtain ⟨c, hc⟩ : ∃ c : Int, c = (u.toNat : Int) := ⟨_, rfl⟩
      rw [← hc] at huc
      have hc0 : 0 ≤ c := by omega
      have hc1 : c ≤ 255 := by omega
      have HC := Aside0.mk hc
      clear hu hc hr

      by_cases a : c = 34 ∨ c = 92
      · have ha : ((c == 34) = true) ∨ ((c == 34) = false ∧ (c == 92) = true) := by
          rcases a with a | a
          · exact .inl (beq_iff_eq.2 a)
          · exact .inr ⟨beq_eq_false_iff_ne.2 (by omega), beq_iff_eq.2 a⟩
        have HX := Aside0.mk (HQ.out.1 (by have := HC.out; omega))
        obtain ⟨z, hz⟩ : ∃ z : List Int, z = x3 ++ ([92, c] : List Int) := ⟨_, rfl⟩
        have Nz := Aside0.mk hz
        have HZ := Aside0.mk (show ns ([34] ++ (s.data.toList.take (k + 1)).flatMap qb) = z by
            rw [hz, HX3.out, HFT.out, HX.out, ← List.append_assoc, ns_append ([34] ++ (s.data.toList.take k).flatMap qb)]
            congr 1
            all_goals (rw [HC.out]; rfl))
        clear hz
        clear a
        rcases ha with ha | ⟨ha, ha2⟩
        all_goals
          go_wp2_with (first | ((with_reducible refine gate_builtin (b := .append) (xs := #[.tmp 22, .tmp 24]) rfl ?_); at_builtin; refine Kd.R_append_rows (Kd.int .u8) (Rr := fun (x : Int) cs => cs = [.int .u8 x]) (w0 := w) w.heap.size rfl (.tmp 22) (.tmp 24) 26 5 (.int .u8 0) 1 rfl Try.underlying26 info5 rfl (by decide) (by omega) u3 x3 ([92, c] : List Int) (some ⟨_, 0, none⟩) 2 2 (fun _ => True) (fun _ => False) rfl rfl ?aO ?aR (fun _ _ h => h) (fun _ h => h.elim) (fun _ _ => trivial) ?aB ?aS ?aL ?_; (case aR => exact fresh_reads _ ([92, c] : List Int) (by simp)); (case aB => exact (by repeat (first | (with_reducible first | exact HB.out | apply below_alloc | apply pw_below_drewN | apply below_drew1) | exact HB.out))); (case aO => exact (by (with_reducible repeat (first | apply Kd.R_alloc | apply Kd.R_drewN | apply Kd.R_drew)); exact HO.out)); (case aS => exact (below_size (by repeat (first | (with_reducible first | exact HB.out | apply below_alloc | apply pw_below_drewN | apply below_drew1) | exact HB.out)))); (case aL => have := HLEN.out; omega); intro v2_ w2_ ho hb hg hat; rw [← Nz.out] at ho; have n1_ := Aside0.mk (hb); have n2_ := Aside0.mk (ho); clear HB; clear HO; have HB := n1_; have HOz := n2_; clear n1_ n2_; clear ho hb hg hat))
          go_roundw
          case rel => exact ⟨k + 1, by go_num, by omega, ⟨by rw [HZ.out]; exact HOz.out⟩, HB⟩
          case measure => first | (simp [intOf]; done) | (simp [intOf]; omega)
      · have a1 : (c == 34) = false := beq_eq_false_iff_ne.2 (by omega)
        have a2 : (c == 92) = false := beq_eq_false_iff_ne.2 (by omega)
        by_cases b : c = 10
        · have b1 : (c == 10) = true := beq_iff_eq.2 b
          have HX := Aside0.mk (HQ.out.2.1 (by have := HC.out; omega))
          obtain ⟨z, hz⟩ : ∃ z : List Int, z = x3 ++ ([92, 110] : List Int) := ⟨_, rfl⟩
          have Nz := Aside0.mk hz
          have HZ := Aside0.mk (show ns ([34] ++ (s.data.toList.take (k + 1)).flatMap qb) = z by
              rw [hz, HX3.out, HFT.out, HX.out, ← List.append_assoc, ns_append ([34] ++ (s.data.toList.take k).flatMap qb)]
              congr 1
              all_goals (rfl))
          clear hz
          clear a b
          go_wp2_with (first | ((with_reducible refine gate_builtin (b := .append) (xs := #[.tmp 28, .tmp 29]) rfl ?_); at_builtin; refine Kd.R_append_rows (Kd.int .u8) (Rr := fun (x : Int) cs => cs = [.int .u8 x]) (w0 := w) w.heap.size rfl (.tmp 28) (.tmp 29) 26 5 (.int .u8 0) 1 rfl Try.underlying26 info5 rfl (by decide) (by omega) u3 x3 ([92, 110] : List Int) (some ⟨_, 0, none⟩) 2 2 (fun _ => True) (fun _ => False) rfl rfl ?aO ?aR (fun _ _ h => h) (fun _ h => h.elim) (fun _ _ => trivial) ?aB ?aS ?aL ?_; (case aR => exact fresh_reads _ ([92, 110] : List Int) (by simp)); (case aB => exact (by repeat (first | (with_reducible first | exact HB.out | apply below_alloc | apply pw_below_drewN | apply below_drew1) | exact HB.out))); (case aO => exact (by (with_reducible repeat (first | apply Kd.R_alloc | apply Kd.R_drewN | apply Kd.R_drew)); exact HO.out)); (case aS => exact (below_size (by repeat (first | (with_reducible first | exact HB.out | apply below_alloc | apply pw_below_drewN | apply below_drew1) | exact HB.out)))); (case aL => have := HLEN.out; omega); intro v2_ w2_ ho hb hg hat; rw [← Nz.out] at ho; have n1_ := Aside0.mk (hb); have n2_ := Aside0.mk (ho); clear HB; clear HO; have HB := n1_; have HOz := n2_; clear n1_ n2_; clear ho hb hg hat))
          go_roundw
          case rel => exact ⟨k + 1, by go_num, by omega, ⟨by rw [HZ.out]; exact HOz.out⟩, HB⟩
          case measure => first | (simp [intOf]; done) | (simp [intOf]; omega)
        · have b1 : (c == 10) = false := beq_eq_false_iff_ne.2 b
          by_cases d : c < 32 ∨ 126 < c
          · have hd : (decide (32 ≤ c) = false) ∨ (decide (32 ≤ c) = true ∧ decide (c ≤ 126) = false) := by
              by_cases h : c < 32
              · exact .inl (decide_eq_false (by omega))
              · exact .inr ⟨decide_eq_true (by omega), decide_eq_false (by omega)⟩
            have HX := Aside0.mk (HQ.out.2.2.1 (by have := HC.out; omega))
            have i0 : (0 : Int) ≤ c / 16 := by omega
            have i1 : c / 16 < 16 := by omega
            have j0 : (0 : Int) ≤ c % 16 := by omega
            have j1 : c % 16 < 16 := by omega
            have g1 := fun u : World => digit_calls (c / 16) u i0 i1
            have g2 := fun u : World => digit_calls (c % 16) u j0 j1
            obtain ⟨d1, hd1⟩ : ∃ d1, d1 = ((Ytppmlphmjmpcgaa.hd (c / 16).toNat).toNat : Int) := ⟨_, rfl⟩
            obtain ⟨d2, hd2'⟩ : ∃ d2, d2 = ((Ytppmlphmjmpcgaa.hd (c % 16).toNat).toNat : Int) := ⟨_, rfl⟩
            simp only [← hd1] at g1
            simp only [← hd2'] at g2
            obtain ⟨z, hz⟩ : ∃ z : List Int, z = x3 ++ ([92, 120, d1, d2] : List Int) := ⟨_, rfl⟩
            have Nz := Aside0.mk hz
            have HZ := Aside0.mk (show ns ([34] ++ (s.data.toList.take (k + 1)).flatMap qb) = z by
                rw [hz, HX3.out, HFT.out, HX.out, ← List.append_assoc, ns_append ([34] ++ (s.data.toList.take k).flatMap qb)]
                congr 1
                all_goals (rw [hd1, hd2', show (c / 16).toNat = u.toNat / 16 by have := HC.out; omega, show (c % 16).toNat = u.toNat % 16 by have := HC.out; omega]; rfl))
            clear hz
            have T1 := div16 c hc0 hc1
            have T2 := mod16 c hc0 hc1
            have T3 : c / 16 % 256 = c / 16 := by omega
            have G1 := Aside0.mk g1
            have G2 := Aside0.mk g2
            clear a b d g1 g2 hd1 hd2' i0 i1 j0 j1
            rcases hd with hd | ⟨hd, hd2⟩
            all_goals
              go_wp2_with fail
              refine (G1.out _).mono ?_
              rintro e w4 ⟨rfl, rfl⟩
              go_wp2_with fail
              refine (G2.out _).mono ?_
              rintro e w4 ⟨rfl, rfl⟩
              go_wp2_with (first | ((with_reducible refine gate_builtin (b := .append) (xs := #[.tmp 41, .tmp 48]) rfl ?_); at_builtin; refine Kd.R_append_rows (Kd.int .u8) (Rr := fun (x : Int) cs => cs = [.int .u8 x]) (w0 := w) w.heap.size rfl (.tmp 41) (.tmp 48) 26 5 (.int .u8 0) 1 rfl Try.underlying26 info5 rfl (by decide) (by omega) u3 x3 ([92, 120, d1, d2] : List Int) (some ⟨_, 0, none⟩) 4 4 (fun _ => True) (fun _ => False) rfl rfl ?aO ?aR (fun _ _ h => h) (fun _ h => h.elim) (fun _ _ => trivial) ?aB ?aS ?aL ?_; (case aR => exact fresh_reads _ ([92, 120, d1, d2] : List Int) (by simp)); (case aB => exact (by repeat (first | (with_reducible first | exact HB.out | apply below_alloc | apply pw_below_drewN | apply below_drew1) | exact HB.out))); (case aO => exact (by (with_reducible repeat (first | apply Kd.R_alloc | apply Kd.R_drewN | apply Kd.R_drew)); exact HO.out)); (case aS => exact (below_size (by repeat (first | (with_reducible first | exact HB.out | apply below_alloc | apply pw_below_drewN | apply below_drew1) | exact HB.out)))); (case aL => have := HLEN.out; omega); intro v2_ w2_ ho hb hg hat; rw [← Nz.out] at ho; have n1_ := Aside0.mk (hb); have n2_ := Aside0.mk (ho); clear HB; clear HO; have HB := n1_; have HOz := n2_; clear n1_ n2_; clear ho hb hg hat))
              go_roundw
              case rel => exact ⟨k + 1, by go_num, by omega, ⟨by rw [HZ.out]; exact HOz.out⟩, HB⟩
              case measure => first | (simp [intOf]; done) | (simp [intOf]; omega)
          · have d1 : decide (32 ≤ c) = true := decide_eq_true (by omega)
            have d2 : decide (c ≤ 126) = true := decide_eq_true (by omega)
            have HX := Aside0.mk (HQ.out.2.2.2 (by have := HC.out; omega))
            obtain ⟨z, hz⟩ : ∃ z : List Int, z = x3 ++ ([c] : List Int) := ⟨_, rfl⟩
            have Nz := Aside0.mk hz
            have HZ := Aside0.mk (show ns ([34] ++ (s.data.toList.take (k + 1)).flatMap qb) = z by
                rw [hz, HX3.out, HFT.out, HX.out, ← List.append_assoc, ns_append ([34] ++ (s.data.toList.take k).flatMap qb)]
                congr 1
                all_goals (rw [HC.out]; rfl))
            clear hz
            clear a b d
            go_wp2_with (first | ((with_reducible refine gate_builtin (b := .append) (xs := #[.tmp 37, .tmp 39]) rfl ?_); at_builtin; refine Kd.R_append (Kd.int .u8) (w0 := w) w.heap.size rfl (.tmp 37) (.tmp 39) 26 5 (.int .u8 0) 1 rfl Try.underlying26 info5 rfl (by decide) (by omega) u3 x3 (c) [.int .u8 (c)] (fun _ => True) (fun _ => False) rfl rfl ?aP (fun _ hk => hk.elim) ?aF ?aO ?aB ?aS ?aL ?_; (case aP => exact rfl); (case aB => exact (by repeat (first | (with_reducible first | exact HB.out | apply below_alloc | apply pw_below_drewN | apply below_drew1) | exact HB.out))); (case aF => exact (fun _ _ => trivial)); (case aO => exact (by (with_reducible repeat (first | apply Kd.R_alloc | apply Kd.R_drewN | apply Kd.R_drew)); exact HO.out)); (case aS => exact (below_size (by repeat (first | (with_reducible first | exact HB.out | apply below_alloc | apply pw_below_drewN | apply below_drew1) | exact HB.out)))); (case aL => have := HLEN.out; omega); intro v2_ w2_ ho hb hg hat; rw [← Nz.out] at ho; have n0_ := Aside0.mk (hb); have n1_ := Aside0.mk (ho); clear HB; clear HO; have HB := n0_; have HOz := n1_; clear n0_ n1_; clear ho hb hg hat))
            go_roundw
            case rel => exact ⟨k + 1, by go_num, by omega, ⟨by rw [HZ.out]; exact HOz.out⟩, HB⟩
            case measure => first | (simp [intOf]; done) | (simp [intOf]; omega)
    · have hl2 : ¬ (k : Int) < (s.size : Int) := by omega
      obtain ⟨z, hz⟩ : ∃ z : List Int, z = x3 ++ [34] := ⟨_, rfl⟩
      have Nz1 := Aside0.mk hz
      have LM1 := Aside0.mk (show x3.length < 140737488355328 by have := HLEN.out; omega)
      have HZ := Aside0.mk (show strOfNums z = ofL (quoteL s.data.toList) by
          rw [hz, HX3.out, show s.data.toList.take k = s.data.toList by rw [List.take_of_length_le (by rw [HLN.out]; omega)], show ([34] : List Int) = ns [34] from rfl, ← ns_append, str_ns]
          rfl)
      clear hz
      go_wp2_with (first | ((with_reducible refine gate_builtin (b := .append) (xs := #[.tmp 50, .tmp 51]) rfl ?_); at_builtin; refine Kd.R_append (Kd.int .u8) (w0 := w) w.heap.size rfl (.tmp 50) (.tmp 51) 26 5 (.int .u8 0) 1 rfl Try.underlying26 info5 rfl (by decide) (by omega) u3 x3 (34) [.int .u8 (34)] (fun _ => True) (fun _ => False) rfl rfl ?aP (fun _ hk => hk.elim) ?aF ?aO ?aB ?aS ?aL ?_; (case aP => exact rfl); (case aB => exact (by repeat (first | (with_reducible first | exact HB.out | apply below_alloc | apply pw_below_drewN | apply below_drew1) | exact HB.out))); (case aF => exact (fun _ _ => trivial)); (case aO => exact (by (with_reducible repeat (first | apply Kd.R_alloc | apply Kd.R_drewN | apply Kd.R_drew)); exact HO.out)); (case aS => exact (below_size (by repeat (first | (with_reducible first | exact HB.out | apply below_alloc | apply pw_below_drewN | apply below_drew1) | exact HB.out)))); (case aL => have := LM1.out; omega); intro v2_ w2_ ho hb hg hat; rw [← Nz1.out] at ho; have n0_ := Aside0.mk (hb); have n1_ := Aside0.mk (ho); clear HB; clear HO; have HB := n0_; have HOz := n1_; clear n0_ n1_; clear ho hb hg hat; have hcv := own_string (P := Try.prog) Try.underlying26 Try.underlying5 Try.underlying9 (Kd.own_of_R HOz.out)))
      go_ret
      exact ⟨by rw [HZ.out]; rfl, HB.out⟩
end Go.Proofs.Ytppmlphmjmpcgaa
