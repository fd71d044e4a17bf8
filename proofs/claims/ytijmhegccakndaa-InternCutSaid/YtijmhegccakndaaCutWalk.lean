/-
  The walk of InternCut, out of its callees' contracts.
-/
import Derived.Test.YtijmhegccakndaaCut
import Derived.Test.YtijmhegccakndaaBack
namespace Go.Proofs.Ytijmhegccakndaa
open Go.RowKit Go.Maps Go.WideMaps
open Go.Proofs.YtijmhegccakndaaW.PrintWords Go.Proofs.YtijmhegccakndaaW.PrintMore

/-- a list of the call's own that lies outside of S lives on -/
theorem list_kept {w w' : World} {base : Nat} {ok S : Nat → Prop} {v : Value} {row : List ByteArray} (h : Kd.string.R 9 w base ok v row) (hk : Kp w w' S) (hS : ∀ k, ok k → ¬ S k) : Kd.string.R 9 w' base ok v row :=
  Kd.R_step h (fun k hk' hlt => hk.block k hlt (hS k hk'))
/-- where an index may lie that is not in the blocks from m to n -/
def Sx (a m n k : Nat) : Prop := a ≤ k ∧ ¬ (m ≤ k ∧ k < n)

theorem AtS.grow {w w' : World} {a m n b : Nat} {row : List ByteArray} (h : AtS w' (fun k => Sx a m n k ∨ w.heap.size ≤ k) b row) (h1 : a ≤ w.heap.size) (h2 : n ≤ w.heap.size) : AtS w' (Sx a m n) b row :=
  h.mono (fun k hk => by
    rcases hk with hk | hk
    · exact hk
    · exact ⟨by omega, by omega⟩)

theorem down_length (r : List ByteArray) (m p : Nat) (hm : m ≤ p) (hp : p ≤ r.length) : (r.take m ++ (r.drop p).reverse).length = m + (r.length - p) := by
  simp; omega
theorem down_step {r : List ByteArray} (hn : r.Nodup) {m q : Nat} (hm : m ≤ q) {t : ByteArray} (ht : r[q]? = some t) :
    ¬ t ∈ (r.take m ++ (r.drop (q + 1)).reverse) ∧ rowAdd (r.take m ++ (r.drop (q + 1)).reverse) t = r.take m ++ (r.drop q).reverse := by
  have hlt := (List.getElem?_eq_some_iff.1 ht).1
  have hno : ¬ t ∈ (r.take m ++ (r.drop (q + 1)).reverse) := by
    intro h
    rcases List.mem_append.1 h with h | h
    · obtain ⟨i, hi⟩ := List.mem_iff_getElem?.1 h
      have h2 := (List.getElem?_eq_some_iff.1 hi).1
      rw [List.length_take] at h2
      rw [List.getElem?_take_of_lt (by omega)] at hi
      have := place_unique hn hi ht
      omega
    · rw [List.mem_reverse] at h
      obtain ⟨i, hi⟩ := List.mem_iff_getElem?.1 h
      rw [List.getElem?_drop] at hi
      have := place_unique hn hi ht
      omega
  refine ⟨hno, ?_⟩
  unfold rowAdd
  rw [if_neg hno, List.append_assoc]
  congr 1
  have : r.drop q = t :: r.drop (q + 1) := by
    rw [List.drop_eq_getElem_cons hlt]
    congr 1
    rw [List.getElem?_eq_getElem hlt] at ht
    exact Option.some.inj ht
  rw [this, List.reverse_cons]

set_option maxRecDepth 100000 in
set_option maxHeartbeats 8000000 in
theorem cut_walk (A : Option Addr) (c : Nat) (l : List ByteArray) (n : Int) (w : World) (HR : Kd.string.C w A l.length l) (hn : l.length * 16 ≤ 140737488351232) (hs : ∀ t, t ∈ l → t.size ≤ maxLen) :
    Calls Try.prog 6 #[.slice A l.length c, .int .i64 n] w fun e w' => e = .returned (.bool true) ∧ Below w.heap.size w w' := by
  have HR0 := Aside0.mk HR
  have HN := Aside0.mk hn
  have HS := Aside0.mk hs
  have hm : l.length ≤ 8796093022208 := by omega
  clear HR hn hs
  go_enter Try.func6, Try.ntmps6
  go_wp2_with fail
  refine (new_at w).mono ?_
  rintro e w1 ⟨b, rfl, hat1, hbel1⟩
  have HA1 := Aside0.mk hat1
  have HB1 := Aside0.mk hbel1
  clear hat1 hbel1
  go_wp2_with fail
  refine (lives_any w1).mono ?_
  rintro e w2 ⟨rfl, hb2⟩
  have HA2 := Aside0.mk (HA1.out.below hb2)
  have HB2 := Aside0.mk (HB1.out.trans (hb2.mono HB1.out.size))
  clear hb2 HA1 HB1
  go_wp2_with fail
  go_loopw [6] (fun i wr => ∃ k : Nat, i = .int .i64 (k : Int) ∧ k ≤ l.length ∧ Aside0 (At wr w.heap.size b (rowOf (l.take k))) ∧ Aside0 (Below w.heap.size w wr)) (fun i _ => l.length - (intOf i).toNat)
  case atStart => exact ⟨0, rfl, Nat.zero_le _, HA2, HB2⟩
  case round =>
    obtain ⟨k, rfl, hk, HA, HB⟩ := hrel
    by_cases hlt : k < l.length
    · obtain ⟨u, hu⟩ : ∃ u, l[k]? = some u := ⟨_, List.getElem?_eq_getElem hlt⟩
      have HRr := Aside0.mk (Kd.C_below HR0.out HB.out)
      obtain ⟨ad, e, hxu⟩ := cell_str HRr.out hu
      subst e
      have hl2 : (k : Int) < (l.length : Int) := by omega
      have HU := Aside0.mk hu
      clear hu
      go_wp2_with fail
      refine (add_at _ w.heap.size b (rowOf (l.take k)) u HA.out HB.out.size (HS.out u (List.mem_of_getElem? HU.out)) (by have := length_rowOf (l.take k); have := HN.out; rw [List.length_take] at *; omega)).mono ?_
      rintro e w3 ⟨rfl, hat3, hb3⟩
      have HA3 := Aside0.mk (show At w3 w.heap.size b (rowOf (l.take (k + 1))) by rw [rowOf_take_succ HU.out]; exact hat3)
      have HB3 := Aside0.mk (show Below w.heap.size w w3 from HB.out.trans hb3)
      clear hat3 hb3
      go_wp2_with fail
      go_roundw
      case rel => exact ⟨k + 1, by go_num, by omega, HA3, HB3⟩
      case measure => first | (simp [intOf]; done) | (simp [intOf]; omega)
    · obtain ⟨wo, rfl⟩ : ∃ wo : World, wo = wr := ⟨_, rfl⟩
      have hl2 : ¬ (k : Int) < (l.length : Int) := by omega
      have HA9 := Aside0.mk (show At wo w.heap.size b (rowOf l) by have := HA.out; rwa [List.take_of_length_le (by omega)] at this)
      have HLR := Aside0.mk (length_rowOf l)
      have HND := Aside0.mk (nodup_rowOf l)
      have HSM := Aside0.mk (show ∀ t, t ∈ rowOf l → t.size ≤ maxLen from fun t ht => HS.out t ((mem_rowOf l t).1 ht))
      clear HA HA2 HB2
      obtain ⟨r0, hr0⟩ : ∃ r, r = rowOf l := ⟨_, rfl⟩
      rw [← hr0] at HA9 HLR HND HSM
      clear hr0
      have hrl : r0.length ≤ 8796093022208 := by have := HLR.out; omega
      go_wp2_with fail
      refine (items_at _ w.heap.size b r0 HA9.out (by omega)).mono ?_
      rintro e w3 ⟨v3, rfl, hR3, hb3⟩
      have HR3 := Aside0.mk (Kd.R_bound hR3)
      have HA3 := Aside0.mk (show AtS w3 (Sx w.heap.size wo.heap.size w3.heap.size) b r0 from (AtS.of HA9.out |>.kept (fun k _ hk => hb3.block k hk)).mono (fun k hk => ⟨hk.1, by omega⟩))
      have HB3 := Aside0.mk (show Below w.heap.size w w3 from HB.out.trans (hb3.mono HB.out.size))
      clear hR3 hb3
      obtain ⟨A3, c3, rfl, hc3, _⟩ := Kd.R_reads HR3.out
      by_cases hc1 : n < (r0.length : Int)
      · by_cases hc2 : n < 0
        · have HM := Aside0.mk (show n.toNat = 0 by omega)
          have hlt2 : (0 : Int) ≤ (r0.length : Int) := by omega
          go_wp2_with fail
          refine (cut_S _ _ b r0 _ HA3.out).mono ?_
          rintro e w4 ⟨rfl, hat4, hk4⟩
          have hat5 : AtS w4 (Sx w.heap.size wo.heap.size w3.heap.size) b (r0.take 0) := by
            have h1 := hat4
            unfold cutRow at h1
            rw [HM.out] at h1
            exact h1
          have HA4 := Aside0.mk hat5
          have HB4 := Aside0.mk (show Below w.heap.size w w4 from HB3.out.trans (hk4.below (fun j hj => hj.1) HB3.out.size))
          have HZ4 := Aside0.mk hk4.size
          have HR4 := Aside0.mk (list_kept HR3.out hk4 (fun k hk hS => hS.2 ⟨hk.2.1, hk.2.2.1⟩))
          have hlen : (r0.take 0).length = 0 := by rw [List.length_take]; omega
          have hne : (((0 : Nat) : Int) != (0 : Int)) = false := by simp
          have HC4 := Aside0.mk (Kd.R_reads' HR4.out).2.2
          have HLEN := Aside0.mk hlen
          clear hat4 hat5 hk4 HA3 HR3 hlen
          go_wp2_with fail
          refine (len_at _ w.heap.size b (r0.take 0) (HA4.out.at (fun k hk => hk.1))).mono ?_
          rintro e w6 ⟨he, rfl⟩
          rw [HLEN.out] at he
          subst he
          go_wp2_with fail
          go_loopw [9] (fun i wr2 => ∃ j : Nat, i = .int .i64 (j : Int) ∧ j ≤ r0.length ∧ w4 = wr2) (fun i _ => r0.length - (intOf i).toNat)
          case atStart => exact ⟨0, rfl, Nat.zero_le _, rfl⟩
          case round =>
            obtain ⟨j, rfl, hj, rfl⟩ := hrel
            by_cases hjl : j < r0.length
            · obtain ⟨u, hu⟩ : ∃ u, r0[j]? = some u := ⟨_, List.getElem?_eq_getElem hjl⟩
              have hl3 : (j : Int) < (r0.length : Int) := by omega
              obtain ⟨ad3, e3, hx3⟩ := cell_str HC4.out hu
              subst e3
              have HSU := Aside0.mk (HSM.out u (List.mem_of_getElem? hu))
              by_cases hjm : j < 0
              · have hin : (r0.take 0)[j]? = some u := by rw [List.getElem?_take_of_lt hjm]; exact hu
                have hfb := Aside0.mk (fB_yes (List.mem_of_getElem? hin))
                have hfn := Aside0.mk (show fN (r0.take 0) u = (j : Int) by rw [fN_yes (List.mem_of_getElem? hin), show posOf (r0.take 0) u = j from idxOf_unique (HND.out.sublist (List.take_sublist _ _)) hin])
                have hd : decide ((j : Int) < (0 : Int)) = true := decide_eq_true (by omega)
                have hd2 : decide (j < 0) = true := decide_eq_true hjm
                clear hin hu
                go_wp2_with fail
                refine (find_at _ w.heap.size b (r0.take 0) u (HA4.out.at (fun k hk => hk.1)) HSU.out).mono ?_
                rintro e w8 ⟨he, rfl⟩
                rw [hfb.out, hfn.out] at he
                subst he
                go_wp2_with fail
                repeat (go_quiet (fail); try go_wp2_with fail)
                go_roundw
                case rel => first | exact ⟨j + 1, by go_num, by omega, trivial⟩ | ((repeat apply Exists.intro); exact ⟨⟨j + 1, by go_num, by omega, trivial⟩, rfl⟩)
                case measure => first | (simp [intOf]; done) | (simp [intOf]; omega)
              · have hin : ¬ u ∈ r0.take 0 := not_mem_take (fun q hq e => by have := place_unique HND.out e hu; omega)
                have hfb := Aside0.mk (fB_no hin)
                have hfn := Aside0.mk (fN_no hin)
                have hd : decide ((j : Int) < (0 : Int)) = false := decide_eq_false (by omega)
                have hd2 : decide (j < 0) = false := decide_eq_false hjm
                clear hin hu
                go_wp2_with fail
                refine (find_at _ w.heap.size b (r0.take 0) u (HA4.out.at (fun k hk => hk.1)) HSU.out).mono ?_
                rintro e w8 ⟨he, rfl⟩
                rw [hfb.out, hfn.out] at he
                subst he
                go_wp2_with fail
                repeat (go_quiet (fail); try go_wp2_with fail)
                go_roundw
                case rel => first | exact ⟨j + 1, by go_num, by omega, trivial⟩ | ((repeat apply Exists.intro); exact ⟨⟨j + 1, by go_num, by omega, trivial⟩, rfl⟩)
                case measure => first | (simp [intOf]; done) | (simp [intOf]; omega)
            · have hl3 : ¬ (j : Int) < (r0.length : Int) := by omega
              go_wp2_with fail
              go_loopw [12] (fun i wr3 => ∃ (p : Nat) (x : Int), i = .int .i64 x ∧ x = (p : Int) - 1 ∧ 0 ≤ p ∧ p ≤ r0.length ∧ Aside0 (AtS wr3 (Sx w.heap.size wo.heap.size w3.heap.size) b (r0.take 0 ++ (r0.drop p).reverse)) ∧ Aside0 (Below w.heap.size w wr3) ∧ Aside0 (w3.heap.size ≤ wr3.heap.size) ∧ Aside0 (Kd.string.R 9 wr3 wo.heap.size (fun k => True ∧ wo.heap.size ≤ k ∧ k < w3.heap.size ∧ ∃ q, q ∈ 9 :: Kd.string.E ∧ ∃ cells, w3.heap[k]? = some (.cells cells q (0, 0))) (.slice A3 r0.length c3) r0)) (fun i _ => ((intOf i) + 1).toNat)
              case atStart => exact ⟨r0.length, (r0.length : Int) - 1, rfl, rfl, by omega, Nat.le_refl _, ⟨by rw [List.drop_length, List.reverse_nil, List.append_nil]; exact HA4.out⟩, HB4, HZ4, HR4⟩
              case round =>
                obtain ⟨p, x, rfl, hx, hp1, hp2, HA, HBq, HZ, HRq⟩ := hrel
                by_cases hpm : 0 < p
                · obtain ⟨q, rfl⟩ : ∃ q, p = q + 1 := ⟨p - 1, by omega⟩
                  obtain rfl : x = (q : Int) := by omega
                  obtain ⟨u, hu⟩ : ∃ u, r0[q]? = some u := ⟨_, List.getElem?_eq_getElem (by omega)⟩
                  obtain ⟨ad4, e4, hx4⟩ := cell_str (Kd.R_reads' HRq.out).2.2 hu
                  subst e4
                  have HSU := Aside0.mk (HSM.out u (List.mem_of_getElem? hu))
                  have hds := down_step HND.out (show 0 ≤ q by omega) hu
                  have hdl := down_length r0 0 (q + 1) (by omega) hp2
                  have hd1 : decide ((0 : Int) ≤ (q : Int)) = true := decide_eq_true (by omega)
                  have hd2 : decide (0 ≤ q) = true := decide_eq_true (by omega)
                  have hq3 : (q : Int) < (r0.length : Int) := by omega
                  have hpos : (posOf (r0.take 0 ++ (r0.drop (q + 1)).reverse) u : Int) = (0 : Int) + (r0.length : Int) - 1 - (q : Int) := by rw [idxOf_not_mem hds.1, hdl]; omega
                  have HDS := Aside0.mk hds
                  have HDL := Aside0.mk hdl
                  have HPOS := Aside0.mk hpos
                  clear hu hx hds hdl hpos
                  go_wp2_with fail
                  refine (add_S _ _ b _ u HA.out HSU.out (by rw [HDL.out]; have := HLR.out; have := HN.out; omega)).mono ?_
                  rintro e w9 ⟨he, hat9, hk9⟩
                  rw [HPOS.out] at he
                  subst he
                  have HA9b := Aside0.mk (show AtS w9 (Sx w.heap.size wo.heap.size w3.heap.size) b (r0.take 0 ++ (r0.drop q).reverse) by rw [← HDS.out.2]; exact hat9.grow HBq.out.size HZ.out)
                  have HB9b := Aside0.mk (show Below w.heap.size w w9 from HBq.out.trans (hk9.below (fun j hj => hj.1) HBq.out.size))
                  have HZ9 := Aside0.mk (Nat.le_trans HZ.out hk9.size)
                  have HR9 := Aside0.mk (list_kept HRq.out hk9 (fun k hk hS => hS.2 ⟨hk.2.1, hk.2.2.1⟩))
                  clear hat9 hk9
                  go_wp2_with fail
                  go_roundw
                  case rel => exact ⟨q, (q : Int) - 1, by go_num, rfl, by omega, by omega, HA9b, HB9b, HZ9, HR9⟩
                  case measure => first | (simp [intOf]; done) | (simp [intOf]; omega)
                · obtain rfl : 0 = p := by omega
                  subst hx
                  have hd1 : decide ((0 : Int) ≤ (0 : Int) - 1) = false := decide_eq_false (by omega)
                  have HLL := Aside0.mk (show (r0.take 0 ++ (r0.drop 0).reverse).length = r0.length by rw [down_length r0 0 0 (Nat.le_refl _) (by omega)]; omega)
                  go_wp2_with fail
                  refine (len_at _ w.heap.size b _ (HA.out.at (fun k hk => hk.1))).mono ?_
                  rintro e w9 ⟨he, rfl⟩
                  rw [HLL.out] at he
                  subst he
                  go_wp2_with fail
                  go_ret
                  exact ⟨rfl, HBq.out⟩
        · obtain ⟨m, rfl⟩ := Int.eq_ofNat_of_zero_le (show 0 ≤ n by omega)
          have HM := Aside0.mk (show ((m : Int)).toNat = m by omega)
          have hlt2 : (m : Int) ≤ (r0.length : Int) := by omega
          have hm0 : decide ((m : Int) < 0) = false := decide_eq_false (by omega)
          clear hc2
          go_wp2_with fail
          refine (cut_S _ _ b r0 _ HA3.out).mono ?_
          rintro e w4 ⟨rfl, hat4, hk4⟩
          have hat5 : AtS w4 (Sx w.heap.size wo.heap.size w3.heap.size) b (r0.take m) := by
            have h1 := hat4
            unfold cutRow at h1
            rw [HM.out] at h1
            exact h1
          have HA4 := Aside0.mk hat5
          have HB4 := Aside0.mk (show Below w.heap.size w w4 from HB3.out.trans (hk4.below (fun j hj => hj.1) HB3.out.size))
          have HZ4 := Aside0.mk hk4.size
          have HR4 := Aside0.mk (list_kept HR3.out hk4 (fun k hk hS => hS.2 ⟨hk.2.1, hk.2.2.1⟩))
          have hlen : (r0.take m).length = m := by rw [List.length_take]; omega
          have hne : (((m : Nat) : Int) != (m : Int)) = false := by simp
          have HC4 := Aside0.mk (Kd.R_reads' HR4.out).2.2
          have HLEN := Aside0.mk hlen
          clear hat4 hat5 hk4 HA3 HR3 hlen
          go_wp2_with fail
          refine (len_at _ w.heap.size b (r0.take m) (HA4.out.at (fun k hk => hk.1))).mono ?_
          rintro e w6 ⟨he, rfl⟩
          rw [HLEN.out] at he
          subst he
          go_wp2_with fail
          go_loopw [9] (fun i wr2 => ∃ j : Nat, i = .int .i64 (j : Int) ∧ j ≤ r0.length ∧ w4 = wr2) (fun i _ => r0.length - (intOf i).toNat)
          case atStart => exact ⟨0, rfl, Nat.zero_le _, rfl⟩
          case round =>
            obtain ⟨j, rfl, hj, rfl⟩ := hrel
            by_cases hjl : j < r0.length
            · obtain ⟨u, hu⟩ : ∃ u, r0[j]? = some u := ⟨_, List.getElem?_eq_getElem hjl⟩
              have hl3 : (j : Int) < (r0.length : Int) := by omega
              obtain ⟨ad3, e3, hx3⟩ := cell_str HC4.out hu
              subst e3
              have HSU := Aside0.mk (HSM.out u (List.mem_of_getElem? hu))
              by_cases hjm : j < m
              · have hin : (r0.take m)[j]? = some u := by rw [List.getElem?_take_of_lt hjm]; exact hu
                have hfb := Aside0.mk (fB_yes (List.mem_of_getElem? hin))
                have hfn := Aside0.mk (show fN (r0.take m) u = (j : Int) by rw [fN_yes (List.mem_of_getElem? hin), show posOf (r0.take m) u = j from idxOf_unique (HND.out.sublist (List.take_sublist _ _)) hin])
                have hd : decide ((j : Int) < (m : Int)) = true := decide_eq_true (by omega)
                have hd2 : decide (j < m) = true := decide_eq_true hjm
                clear hin hu
                go_wp2_with fail
                refine (find_at _ w.heap.size b (r0.take m) u (HA4.out.at (fun k hk => hk.1)) HSU.out).mono ?_
                rintro e w8 ⟨he, rfl⟩
                rw [hfb.out, hfn.out] at he
                subst he
                go_wp2_with fail
                repeat (go_quiet (fail); try go_wp2_with fail)
                go_roundw
                case rel => first | exact ⟨j + 1, by go_num, by omega, trivial⟩ | ((repeat apply Exists.intro); exact ⟨⟨j + 1, by go_num, by omega, trivial⟩, rfl⟩)
                case measure => first | (simp [intOf]; done) | (simp [intOf]; omega)
              · have hin : ¬ u ∈ r0.take m := not_mem_take (fun q hq e => by have := place_unique HND.out e hu; omega)
                have hfb := Aside0.mk (fB_no hin)
                have hfn := Aside0.mk (fN_no hin)
                have hd : decide ((j : Int) < (m : Int)) = false := decide_eq_false (by omega)
                have hd2 : decide (j < m) = false := decide_eq_false hjm
                clear hin hu
                go_wp2_with fail
                refine (find_at _ w.heap.size b (r0.take m) u (HA4.out.at (fun k hk => hk.1)) HSU.out).mono ?_
                rintro e w8 ⟨he, rfl⟩
                rw [hfb.out, hfn.out] at he
                subst he
                go_wp2_with fail
                repeat (go_quiet (fail); try go_wp2_with fail)
                go_roundw
                case rel => first | exact ⟨j + 1, by go_num, by omega, trivial⟩ | ((repeat apply Exists.intro); exact ⟨⟨j + 1, by go_num, by omega, trivial⟩, rfl⟩)
                case measure => first | (simp [intOf]; done) | (simp [intOf]; omega)
            · have hl3 : ¬ (j : Int) < (r0.length : Int) := by omega
              go_wp2_with fail
              go_loopw [12] (fun i wr3 => ∃ (p : Nat) (x : Int), i = .int .i64 x ∧ x = (p : Int) - 1 ∧ m ≤ p ∧ p ≤ r0.length ∧ Aside0 (AtS wr3 (Sx w.heap.size wo.heap.size w3.heap.size) b (r0.take m ++ (r0.drop p).reverse)) ∧ Aside0 (Below w.heap.size w wr3) ∧ Aside0 (w3.heap.size ≤ wr3.heap.size) ∧ Aside0 (Kd.string.R 9 wr3 wo.heap.size (fun k => True ∧ wo.heap.size ≤ k ∧ k < w3.heap.size ∧ ∃ q, q ∈ 9 :: Kd.string.E ∧ ∃ cells, w3.heap[k]? = some (.cells cells q (0, 0))) (.slice A3 r0.length c3) r0)) (fun i _ => ((intOf i) + 1).toNat)
              case atStart => exact ⟨r0.length, (r0.length : Int) - 1, rfl, rfl, by omega, Nat.le_refl _, ⟨by rw [List.drop_length, List.reverse_nil, List.append_nil]; exact HA4.out⟩, HB4, HZ4, HR4⟩
              case round =>
                obtain ⟨p, x, rfl, hx, hp1, hp2, HA, HBq, HZ, HRq⟩ := hrel
                by_cases hpm : m < p
                · obtain ⟨q, rfl⟩ : ∃ q, p = q + 1 := ⟨p - 1, by omega⟩
                  obtain rfl : x = (q : Int) := by omega
                  obtain ⟨u, hu⟩ : ∃ u, r0[q]? = some u := ⟨_, List.getElem?_eq_getElem (by omega)⟩
                  obtain ⟨ad4, e4, hx4⟩ := cell_str (Kd.R_reads' HRq.out).2.2 hu
                  subst e4
                  have HSU := Aside0.mk (HSM.out u (List.mem_of_getElem? hu))
                  have hds := down_step HND.out (show m ≤ q by omega) hu
                  have hdl := down_length r0 m (q + 1) (by omega) hp2
                  have hd1 : decide ((m : Int) ≤ (q : Int)) = true := decide_eq_true (by omega)
                  have hd2 : decide (m ≤ q) = true := decide_eq_true (by omega)
                  have hq3 : (q : Int) < (r0.length : Int) := by omega
                  have hpos : (posOf (r0.take m ++ (r0.drop (q + 1)).reverse) u : Int) = (m : Int) + (r0.length : Int) - 1 - (q : Int) := by rw [idxOf_not_mem hds.1, hdl]; omega
                  have HDS := Aside0.mk hds
                  have HDL := Aside0.mk hdl
                  have HPOS := Aside0.mk hpos
                  clear hu hx hds hdl hpos
                  go_wp2_with fail
                  refine (add_S _ _ b _ u HA.out HSU.out (by rw [HDL.out]; have := HLR.out; have := HN.out; omega)).mono ?_
                  rintro e w9 ⟨he, hat9, hk9⟩
                  rw [HPOS.out] at he
                  subst he
                  have HA9b := Aside0.mk (show AtS w9 (Sx w.heap.size wo.heap.size w3.heap.size) b (r0.take m ++ (r0.drop q).reverse) by rw [← HDS.out.2]; exact hat9.grow HBq.out.size HZ.out)
                  have HB9b := Aside0.mk (show Below w.heap.size w w9 from HBq.out.trans (hk9.below (fun j hj => hj.1) HBq.out.size))
                  have HZ9 := Aside0.mk (Nat.le_trans HZ.out hk9.size)
                  have HR9 := Aside0.mk (list_kept HRq.out hk9 (fun k hk hS => hS.2 ⟨hk.2.1, hk.2.2.1⟩))
                  clear hat9 hk9
                  go_wp2_with fail
                  go_roundw
                  case rel => exact ⟨q, (q : Int) - 1, by go_num, rfl, by omega, by omega, HA9b, HB9b, HZ9, HR9⟩
                  case measure => first | (simp [intOf]; done) | (simp [intOf]; omega)
                · obtain rfl : m = p := by omega
                  subst hx
                  have hd1 : decide ((m : Int) ≤ (m : Int) - 1) = false := decide_eq_false (by omega)
                  have HLL := Aside0.mk (show (r0.take m ++ (r0.drop m).reverse).length = r0.length by rw [down_length r0 m m (Nat.le_refl _) (by omega)]; omega)
                  go_wp2_with fail
                  refine (len_at _ w.heap.size b _ (HA.out.at (fun k hk => hk.1))).mono ?_
                  rintro e w9 ⟨he, rfl⟩
                  rw [HLL.out] at he
                  subst he
                  go_wp2_with fail
                  go_ret
                  exact ⟨rfl, HBq.out⟩
      · have HM := Aside0.mk (show r0.take n.toNat = r0.take r0.length by rw [List.take_of_length_le (by omega), List.take_length])
        have hlt2 : (r0.length : Int) ≤ (r0.length : Int) := by omega
        have hm0 : decide ((r0.length : Int) < 0) = false := decide_eq_false (by omega)
        go_wp2_with fail
        refine (cut_S _ _ b r0 _ HA3.out).mono ?_
        rintro e w4 ⟨rfl, hat4, hk4⟩
        have hat5 : AtS w4 (Sx w.heap.size wo.heap.size w3.heap.size) b (r0.take r0.length) := by
          have h1 := hat4
          unfold cutRow at h1
          rw [HM.out] at h1
          exact h1
        have HA4 := Aside0.mk hat5
        have HB4 := Aside0.mk (show Below w.heap.size w w4 from HB3.out.trans (hk4.below (fun j hj => hj.1) HB3.out.size))
        have HZ4 := Aside0.mk hk4.size
        have HR4 := Aside0.mk (list_kept HR3.out hk4 (fun k hk hS => hS.2 ⟨hk.2.1, hk.2.2.1⟩))
        have hlen : (r0.take r0.length).length = r0.length := by rw [List.length_take]; omega
        have hne : (((r0.length : Nat) : Int) != (r0.length : Int)) = false := by simp
        have HC4 := Aside0.mk (Kd.R_reads' HR4.out).2.2
        have HLEN := Aside0.mk hlen
        clear hat4 hat5 hk4 HA3 HR3 hlen
        go_wp2_with fail
        refine (len_at _ w.heap.size b (r0.take r0.length) (HA4.out.at (fun k hk => hk.1))).mono ?_
        rintro e w6 ⟨he, rfl⟩
        rw [HLEN.out] at he
        subst he
        go_wp2_with fail
        go_loopw [9] (fun i wr2 => ∃ j : Nat, i = .int .i64 (j : Int) ∧ j ≤ r0.length ∧ w4 = wr2) (fun i _ => r0.length - (intOf i).toNat)
        case atStart => exact ⟨0, rfl, Nat.zero_le _, rfl⟩
        case round =>
          obtain ⟨j, rfl, hj, rfl⟩ := hrel
          by_cases hjl : j < r0.length
          · obtain ⟨u, hu⟩ : ∃ u, r0[j]? = some u := ⟨_, List.getElem?_eq_getElem hjl⟩
            have hl3 : (j : Int) < (r0.length : Int) := by omega
            obtain ⟨ad3, e3, hx3⟩ := cell_str HC4.out hu
            subst e3
            have HSU := Aside0.mk (HSM.out u (List.mem_of_getElem? hu))
            by_cases hjm : j < r0.length
            · have hin : (r0.take r0.length)[j]? = some u := by rw [List.getElem?_take_of_lt hjm]; exact hu
              have hfb := Aside0.mk (fB_yes (List.mem_of_getElem? hin))
              have hfn := Aside0.mk (show fN (r0.take r0.length) u = (j : Int) by rw [fN_yes (List.mem_of_getElem? hin), show posOf (r0.take r0.length) u = j from idxOf_unique (HND.out.sublist (List.take_sublist _ _)) hin])
              have hd : decide ((j : Int) < (r0.length : Int)) = true := decide_eq_true (by omega)
              have hd2 : decide (j < r0.length) = true := decide_eq_true hjm
              clear hin hu
              go_wp2_with fail
              refine (find_at _ w.heap.size b (r0.take r0.length) u (HA4.out.at (fun k hk => hk.1)) HSU.out).mono ?_
              rintro e w8 ⟨he, rfl⟩
              rw [hfb.out, hfn.out] at he
              subst he
              go_wp2_with fail
              repeat (go_quiet (fail); try go_wp2_with fail)
              go_roundw
              case rel => first | exact ⟨j + 1, by go_num, by omega, trivial⟩ | ((repeat apply Exists.intro); exact ⟨⟨j + 1, by go_num, by omega, trivial⟩, rfl⟩)
              case measure => first | (simp [intOf]; done) | (simp [intOf]; omega)
            · exact absurd hjl hjm
          · have hl3 : ¬ (j : Int) < (r0.length : Int) := by omega
            go_wp2_with fail
            go_loopw [12] (fun i wr3 => ∃ (p : Nat) (x : Int), i = .int .i64 x ∧ x = (p : Int) - 1 ∧ r0.length ≤ p ∧ p ≤ r0.length ∧ Aside0 (AtS wr3 (Sx w.heap.size wo.heap.size w3.heap.size) b (r0.take r0.length ++ (r0.drop p).reverse)) ∧ Aside0 (Below w.heap.size w wr3) ∧ Aside0 (w3.heap.size ≤ wr3.heap.size) ∧ Aside0 (Kd.string.R 9 wr3 wo.heap.size (fun k => True ∧ wo.heap.size ≤ k ∧ k < w3.heap.size ∧ ∃ q, q ∈ 9 :: Kd.string.E ∧ ∃ cells, w3.heap[k]? = some (.cells cells q (0, 0))) (.slice A3 r0.length c3) r0)) (fun i _ => ((intOf i) + 1).toNat)
            case atStart => exact ⟨r0.length, (r0.length : Int) - 1, rfl, rfl, by omega, Nat.le_refl _, ⟨by rw [List.drop_length, List.reverse_nil, List.append_nil]; exact HA4.out⟩, HB4, HZ4, HR4⟩
            case round =>
              obtain ⟨p, x, rfl, hx, hp1, hp2, HA, HBq, HZ, HRq⟩ := hrel
              by_cases hpm : r0.length < p
              · exact absurd hpm (by omega)
              · obtain rfl : r0.length = p := by omega
                subst hx
                have hd1 : decide ((r0.length : Int) ≤ (r0.length : Int) - 1) = false := decide_eq_false (by omega)
                have HLL := Aside0.mk (show (r0.take r0.length ++ (r0.drop r0.length).reverse).length = r0.length by rw [down_length r0 r0.length r0.length (Nat.le_refl _) (by omega)]; omega)
                go_wp2_with fail
                refine (len_at _ w.heap.size b _ (HA.out.at (fun k hk => hk.1))).mono ?_
                rintro e w9 ⟨he, rfl⟩
                rw [HLL.out] at he
                subst he
                go_wp2_with fail
                go_ret
                exact ⟨rfl, HBq.out⟩
end Go.Proofs.Ytijmhegccakndaa
