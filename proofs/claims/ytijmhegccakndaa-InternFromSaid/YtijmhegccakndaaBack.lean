/-
  The walk of InternBack, out of its callees' contracts.
-/
import Derived.Test.YtijmhegccakndaaTwo
import Derived.Test.YtijmhegccakndaaOrder
namespace Go.Proofs.Ytijmhegccakndaa
open Go.RowKit Go.Maps Go.WideMaps
open Go.Proofs.YtijmhegccakndaaW.PrintWords Go.Proofs.YtijmhegccakndaaW.PrintMore

theorem rowAdd_get {row : List ByteArray} {t : ByteArray} : (rowAdd row t)[posOf row t]? = some t := by
  unfold rowAdd
  by_cases h : t ∈ row
  · rw [if_pos h]; exact idxOf_get h
  · rw [if_neg h, idxOf_not_mem h]; simp
theorem rowAdd_old {row : List ByteArray} {t u : ByteArray} {i : Nat} (h : row[i]? = some u) : (rowAdd row t)[i]? = some u := by
  have hlt := (List.getElem?_eq_some_iff.1 h).1
  unfold rowAdd
  by_cases hm : t ∈ row
  · rw [if_pos hm]; exact h
  · rw [if_neg hm, List.getElem?_append_left hlt]; exact h
theorem eq_iff_place {row : List ByteArray} (hn : row.Nodup) {t u : ByteArray} {i n : Nat} (hi : row[i]? = some u) (hn' : row[n]? = some t) : decide (u = t) = decide (i = n) := by
  have h1 := idxOf_unique hn hi
  have h2 := idxOf_unique hn hn'
  by_cases e : u = t
  · subst e; rw [decide_eq_true rfl, decide_eq_true (by omega)]
  · rw [decide_eq_false e, decide_eq_false]
    intro e2
    subst e2
    rw [hi] at hn'
    exact e (Option.some.inj hn')

set_option maxRecDepth 100000 in
set_option maxHeartbeats 4000000 in
theorem back_walk (A : Option Addr) (c : Nat) (l : List ByteArray) (t : ByteArray) (w : World) (HR : Kd.string.C w A l.length l) (hn : l.length * 16 ≤ 140737488351232) (hs : ∀ t, t ∈ l → t.size ≤ maxLen) (ht : t.size ≤ maxLen) :
    Calls Try.prog 4 #[.slice A l.length c, .string t] w fun e w' => e = .returned (.bool true) ∧ Below w.heap.size w w' := by
  have HR0 := Aside0.mk HR
  have HN := Aside0.mk hn
  have HS := Aside0.mk hs
  have HT := Aside0.mk ht
  have hm : l.length ≤ 8796093022208 := by omega
  have hcase : (fB (rowOf l) t = true ∧ (rowAdd (rowOf l) t).length = (rowOf l).length) ∨ (fB (rowOf l) t = false ∧ (rowAdd (rowOf l) t).length = (rowOf l).length + 1) := by
    by_cases h : t ∈ rowOf l
    · exact .inl ⟨fB_yes h, by unfold rowAdd; rw [if_pos h]⟩
    · exact .inr ⟨fB_no h, by unfold rowAdd; rw [if_neg h]; simp⟩
  have HCASE := Aside0.mk hcase
  clear HR hn hs ht hcase
  go_enter Try.func4, Try.ntmps4
  go_wp2_with fail
  refine (new_at w).mono ?_
  rintro e w1 ⟨b, rfl, hat1, hbel1⟩
  have HA1 := Aside0.mk hat1
  have HB1 := Aside0.mk hbel1
  clear hat1 hbel1
  go_wp2_with fail
  refine (lives_any w1).mono ?_
  rintro e w2 ⟨rfl, hb2⟩
  have HA2 := Aside0.mk (HA1.out.below hb2)
  have HB2 := Aside0.mk (HB1.out.trans (hb2.mono HB1.out.size))
  clear hb2 HA1 HB1
  go_wp2_with fail
  go_loopw [6] (fun i wr => ∃ k : Nat, i = .int .i64 (k : Int) ∧ k ≤ l.length ∧ Aside0 (At wr w.heap.size b (rowOf (l.take k))) ∧ Aside0 (Below w.heap.size w wr)) (fun i _ => l.length - (intOf i).toNat)
  case atStart => exact ⟨0, rfl, Nat.zero_le _, HA2, HB2⟩
  case round =>
    obtain ⟨k, rfl, hk, HA, HB⟩ := hrel
    by_cases hlt : k < l.length
    · obtain ⟨u, hu⟩ : ∃ u, l[k]? = some u := ⟨_, List.getElem?_eq_getElem hlt⟩
      have HRr := Aside0.mk (Kd.C_below HR0.out HB.out)
      obtain ⟨ad, e, hxu⟩ := cell_str HRr.out hu
      subst e
      have hl2 : (k : Int) < (l.length : Int) := by omega
      have HU := Aside0.mk hu
      clear hu
      go_wp2_with fail
      refine (add_at _ w.heap.size b (rowOf (l.take k)) u HA.out HB.out.size (HS.out u (List.mem_of_getElem? HU.out)) (by have := length_rowOf (l.take k); have := HN.out; rw [List.length_take] at *; omega)).mono ?_
      rintro e w3 ⟨rfl, hat3, hb3⟩
      have HA3 := Aside0.mk (show At w3 w.heap.size b (rowOf (l.take (k + 1))) by rw [rowOf_take_succ HU.out]; exact hat3)
      have HB3 := Aside0.mk (show Below w.heap.size w w3 from HB.out.trans hb3)
      clear hat3 hb3
      go_wp2_with fail
      go_roundw
      case rel => exact ⟨k + 1, by go_num, by omega, HA3, HB3⟩
      case measure => simp [intOf]; omega
    · have hl2 : ¬ (k : Int) < (l.length : Int) := by omega
      have HA9 := Aside0.mk (show At wr w.heap.size b (rowOf l) by have := HA.out; rwa [List.take_of_length_le (by omega)] at this)
      have HLR := Aside0.mk (length_rowOf l)
      clear HA HA2 HB2
      obtain ⟨r0, hr0⟩ : ∃ r, r = rowOf l := ⟨_, rfl⟩
      rw [← hr0] at HA9 HLR HCASE
      clear hr0
      go_wp2_with fail
      refine (items_at _ w.heap.size b r0 HA9.out (by have := HLR.out; have := HN.out; omega)).mono ?_
      rintro e w3 ⟨v3, rfl, hR3, hb3⟩
      have HR3 := Aside0.mk (Kd.R_bound hR3)
      have HA3 := Aside0.mk (AtS.of HA9.out |>.kept (fun k _ hk => hb3.block k hk))
      have HB3 := Aside0.mk (show Below w.heap.size w w3 from HB.out.trans (hb3.mono HB.out.size))
      have HSZ3 := Aside0.mk hb3.size
      clear hR3 hb3
      obtain ⟨A3, c3, rfl, hc3, _⟩ := Kd.R_reads HR3.out
      go_wp2_with fail
      refine (find_at _ w.heap.size b r0 t (HA3.out.at (fun k hk => hk.1)) HT.out).mono ?_
      rintro e w4 ⟨he, rfl⟩
      have HX := Aside0.mk HLR.out
      have hrl : r0.length ≤ 8796093022208 := by have := HLR.out; omega
      obtain ⟨r1, hr1⟩ : ∃ r, r = rowAdd r0 t := ⟨_, rfl⟩
      obtain ⟨n, hnn⟩ : ∃ n, n = posOf r0 t := ⟨_, rfl⟩
      have hget := rowAdd_get (row := r0) (t := t)
      rw [← hr1, ← hnn] at hget
      have hold : ∀ (i : Nat) (u : ByteArray), r0[i]? = some u → r1[i]? = some u := fun i u h => by rw [hr1]; exact rowAdd_old h
      have HGET := Aside0.mk hget
      have HOLD := Aside0.mk hold
      have hn1 := (List.getElem?_eq_some_iff.1 hget).1
      have HR1 := Aside0.mk hr1
      have HNN := Aside0.mk hnn
      have hcase := HCASE.out
      rw [← hr1] at hcase
      clear hget hold hr1 hnn HCASE
      rcases hcase with ⟨hfb, hlen⟩ | ⟨hfb, hlen⟩
      · rw [hfb] at he
        subst he
        have hne : ((r1.length : Int) != (r0.length : Int)) = false := by rw [hlen]; simp
        have hle : r0.length ≤ r1.length := by omega
        have hle2 : r1.length ≤ r0.length + 1 := by omega
        clear hfb hlen
        go_wp2_with fail
        refine (add_S _ _ b r0 t HA3.out HT.out (by have := HX.out; have := HN.out; omega)).mono ?_
        rintro e w5 ⟨he, hat5, hk5⟩
        rw [← HNN.out] at he
        subst he
        have HB5 := Aside0.mk (show Below w.heap.size w w5 from HB3.out.trans (hk5.below (fun j hj => hj.1) HB3.out.size))
        have HA5 := Aside0.mk (show At w5 w.heap.size b r1 by rw [HR1.out]; exact hat5.at (fun k hk => by rcases hk with hk | hk; exact hk.1; exact Nat.le_trans HB3.out.size hk))
        have HR5 := Aside0.mk (Kd.R_reads' (Kd.R_step HR3.out (fun k hk hlt => hk5.block k hlt (fun hS => by have := hS.2; have := hk.2.1; omega)))).2.2
        clear hat5 hk5 HA3
        go_wp2_with fail
        refine (len_at _ w.heap.size b r1 HA5.out).mono ?_
        rintro e w6 ⟨rfl, rfl⟩
        go_wp2_with fail
        refine (at_at _ w.heap.size b r1 (n : Int) HA5.out).mono ?_
        rintro e w6 ⟨he, rfl⟩
        rw [aT_get HGET.out, aB_get HGET.out] at he
        subst he
        go_wp2_with fail
        refine (find_at _ w.heap.size b r1 t HA5.out HT.out).mono ?_
        rintro e w6 ⟨he, rfl⟩
        rw [fN_yes (List.mem_of_getElem? HGET.out), fB_yes (List.mem_of_getElem? HGET.out), show posOf r1 t = n from idxOf_unique HA5.out.apart HGET.out] at he
        subst he
        have htt : (t.toList != t.toList) = false := by simp
        go_wp2_with fail
        repeat (go_quiet (fail); try go_wp2_with fail)
        go_loopw [16] (fun i wr2 => ∃ j : Nat, i = .int .i64 (j : Int) ∧ j ≤ r1.length ∧ w5 = wr2) (fun i _ => r1.length - (intOf i).toNat)
        case atStart => exact ⟨0, rfl, Nat.zero_le _, rfl⟩
        case round =>
          obtain ⟨j, rfl, hj, rfl⟩ := hrel
          go_wp2_with fail
          refine (len_at _ w.heap.size b r1 HA5.out).mono ?_
          rintro e w7 ⟨rfl, rfl⟩
          by_cases hjl : j < r1.length
          · obtain ⟨u, hu⟩ : ∃ u, r1[j]? = some u := ⟨_, List.getElem?_eq_getElem hjl⟩
            have hl3 : (j : Int) < (r1.length : Int) := by omega
            have HU := Aside0.mk hu
            have hpl := eq_iff_place HA5.out.apart hu HGET.out
            have e1 : (u.toList == t.toList) = decide (j = n) := by rw [toList_eq, hpl]
            have e2 : ((j : Int) == (n : Int)) = decide (j = n) := by rw [Bool.eq_iff_iff]; simp; omega
            have hbb : ∃ bb : Bool, decide (j = n) = bb := ⟨_, rfl⟩
            obtain ⟨bb, hbb⟩ := hbb
            rw [hbb] at e1 e2
            have hbn : (bb != bb) = false := by simp
            clear hu hpl hbb
            go_wp2_with fail
            refine (at_at _ w.heap.size b r1 (j : Int) HA5.out).mono ?_
            rintro e w8 ⟨he, rfl⟩
            rw [aT_get HU.out, aB_get HU.out] at he
            subst he
            by_cases hj0 : j < r0.length
            · obtain ⟨u0, hu0⟩ : ∃ u, r0[j]? = some u := ⟨_, List.getElem?_eq_getElem hj0⟩
              have hsame := HOLD.out j u0 hu0
              rw [HU.out] at hsame
              obtain rfl := Option.some.inj hsame
              obtain ⟨ad3, e3, hx3⟩ := cell_str HR5.out hu0
              subst e3
              have hl5 : (j : Int) < (r0.length : Int) := by omega
              have huu : (u.toList != u.toList) = false := by simp
              clear hu0 hsame
              go_wp2_with fail
              repeat (go_quiet (fail); try go_wp2_with fail)
              go_roundw
              case rel => exact ⟨j + 1, by go_num, by omega, trivial⟩
              case measure => simp [intOf]; omega
            · have hl5 : ¬ (j : Int) < (r0.length : Int) := by omega
              go_wp2_with fail
              repeat (go_quiet (fail); try go_wp2_with fail)
              go_roundw
              case rel => exact ⟨j + 1, by go_num, by omega, trivial⟩
              case measure => simp [intOf]; omega
          · have hl3 : ¬ (j : Int) < (r1.length : Int) := by omega
            go_wp2_with fail
            refine (at_at _ w.heap.size b r1 (-1) HA5.out).mono ?_
            rintro e w8 ⟨he, rfl⟩
            rw [show aB r1 (-1) = false from decide_eq_false (by omega)] at he
            subst he
            go_wp2_with fail
            refine (len_at _ w.heap.size b r1 HA5.out).mono ?_
            rintro e w8 ⟨rfl, rfl⟩
            go_wp2_with fail
            refine (at_at _ w.heap.size b r1 (r1.length : Int) HA5.out).mono ?_
            rintro e w8 ⟨he, rfl⟩
            rw [show aB r1 (r1.length : Int) = false from decide_eq_false (by omega)] at he
            subst he
            go_wp2_with fail
            repeat (go_quiet (fail); try go_wp2_with fail)
            go_ret
            exact ⟨rfl, HB5.out⟩
      · rw [hfb] at he
        subst he
        have hne : ((r1.length : Int) != (r0.length : Int) + 1) = false := by rw [hlen]; simp
        have hle : r0.length ≤ r1.length := by omega
        have hle2 : r1.length ≤ r0.length + 1 := by omega
        clear hfb hlen
        go_wp2_with fail
        refine (add_S _ _ b r0 t HA3.out HT.out (by have := HX.out; have := HN.out; omega)).mono ?_
        rintro e w5 ⟨he, hat5, hk5⟩
        rw [← HNN.out] at he
        subst he
        have HB5 := Aside0.mk (show Below w.heap.size w w5 from HB3.out.trans (hk5.below (fun j hj => hj.1) HB3.out.size))
        have HA5 := Aside0.mk (show At w5 w.heap.size b r1 by rw [HR1.out]; exact hat5.at (fun k hk => by rcases hk with hk | hk; exact hk.1; exact Nat.le_trans HB3.out.size hk))
        have HR5 := Aside0.mk (Kd.R_reads' (Kd.R_step HR3.out (fun k hk hlt => hk5.block k hlt (fun hS => by have := hS.2; have := hk.2.1; omega)))).2.2
        clear hat5 hk5 HA3
        go_wp2_with fail
        refine (len_at _ w.heap.size b r1 HA5.out).mono ?_
        rintro e w6 ⟨rfl, rfl⟩
        go_wp2_with fail
        refine (at_at _ w.heap.size b r1 (n : Int) HA5.out).mono ?_
        rintro e w6 ⟨he, rfl⟩
        rw [aT_get HGET.out, aB_get HGET.out] at he
        subst he
        go_wp2_with fail
        refine (find_at _ w.heap.size b r1 t HA5.out HT.out).mono ?_
        rintro e w6 ⟨he, rfl⟩
        rw [fN_yes (List.mem_of_getElem? HGET.out), fB_yes (List.mem_of_getElem? HGET.out), show posOf r1 t = n from idxOf_unique HA5.out.apart HGET.out] at he
        subst he
        have htt : (t.toList != t.toList) = false := by simp
        go_wp2_with fail
        repeat (go_quiet (fail); try go_wp2_with fail)
        go_loopw [16] (fun i wr2 => ∃ j : Nat, i = .int .i64 (j : Int) ∧ j ≤ r1.length ∧ w5 = wr2) (fun i _ => r1.length - (intOf i).toNat)
        case atStart => exact ⟨0, rfl, Nat.zero_le _, rfl⟩
        case round =>
          obtain ⟨j, rfl, hj, rfl⟩ := hrel
          go_wp2_with fail
          refine (len_at _ w.heap.size b r1 HA5.out).mono ?_
          rintro e w7 ⟨rfl, rfl⟩
          by_cases hjl : j < r1.length
          · obtain ⟨u, hu⟩ : ∃ u, r1[j]? = some u := ⟨_, List.getElem?_eq_getElem hjl⟩
            have hl3 : (j : Int) < (r1.length : Int) := by omega
            have HU := Aside0.mk hu
            have hpl := eq_iff_place HA5.out.apart hu HGET.out
            have e1 : (u.toList == t.toList) = decide (j = n) := by rw [toList_eq, hpl]
            have e2 : ((j : Int) == (n : Int)) = decide (j = n) := by rw [Bool.eq_iff_iff]; simp; omega
            have hbb : ∃ bb : Bool, decide (j = n) = bb := ⟨_, rfl⟩
            obtain ⟨bb, hbb⟩ := hbb
            rw [hbb] at e1 e2
            have hbn : (bb != bb) = false := by simp
            clear hu hpl hbb
            go_wp2_with fail
            refine (at_at _ w.heap.size b r1 (j : Int) HA5.out).mono ?_
            rintro e w8 ⟨he, rfl⟩
            rw [aT_get HU.out, aB_get HU.out] at he
            subst he
            by_cases hj0 : j < r0.length
            · obtain ⟨u0, hu0⟩ : ∃ u, r0[j]? = some u := ⟨_, List.getElem?_eq_getElem hj0⟩
              have hsame := HOLD.out j u0 hu0
              rw [HU.out] at hsame
              obtain rfl := Option.some.inj hsame
              obtain ⟨ad3, e3, hx3⟩ := cell_str HR5.out hu0
              subst e3
              have hl5 : (j : Int) < (r0.length : Int) := by omega
              have huu : (u.toList != u.toList) = false := by simp
              clear hu0 hsame
              go_wp2_with fail
              repeat (go_quiet (fail); try go_wp2_with fail)
              go_roundw
              case rel => exact ⟨j + 1, by go_num, by omega, trivial⟩
              case measure => simp [intOf]; omega
            · have hl5 : ¬ (j : Int) < (r0.length : Int) := by omega
              go_wp2_with fail
              repeat (go_quiet (fail); try go_wp2_with fail)
              go_roundw
              case rel => exact ⟨j + 1, by go_num, by omega, trivial⟩
              case measure => simp [intOf]; omega
          · have hl3 : ¬ (j : Int) < (r1.length : Int) := by omega
            go_wp2_with fail
            refine (at_at _ w.heap.size b r1 (-1) HA5.out).mono ?_
            rintro e w8 ⟨he, rfl⟩
            rw [show aB r1 (-1) = false from decide_eq_false (by omega)] at he
            subst he
            go_wp2_with fail
            refine (len_at _ w.heap.size b r1 HA5.out).mono ?_
            rintro e w8 ⟨rfl, rfl⟩
            go_wp2_with fail
            refine (at_at _ w.heap.size b r1 (r1.length : Int) HA5.out).mono ?_
            rintro e w8 ⟨he, rfl⟩
            rw [show aB r1 (r1.length : Int) = false from decide_eq_false (by omega)] at he
            subst he
            go_wp2_with fail
            repeat (go_quiet (fail); try go_wp2_with fail)
            go_ret
            exact ⟨rfl, HB5.out⟩
end Go.Proofs.Ytijmhegccakndaa
