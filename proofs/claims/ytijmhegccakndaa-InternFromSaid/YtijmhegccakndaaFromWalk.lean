/-
  The walk of InternFrom, out of its callees' contracts.
-/
import Derived.Test.YtijmhegccakndaaFrom
import Derived.Test.YtijmhegccakndaaBack
namespace Go.Proofs.Ytijmhegccakndaa
open Go.RowKit Go.Maps Go.WideMaps
open Go.Proofs.YtijmhegccakndaaW.PrintWords Go.Proofs.YtijmhegccakndaaW.PrintMore

theorem from_any' (A : Option Addr) (c n : Nat) (l : List ByteArray) (w : World) (hl : l.length = n) (HR : Kd.string.C w A l.length l) (hs : ∀ t, t ∈ l → t.size ≤ maxLen) (hn : l.length * 16 ≤ 140737488355328) :
    Calls Try.prog 18 #[.slice A n c] w (IsFrom w l) := by
  subst hl
  exact from_any A c l w HR hs hn

set_option maxRecDepth 100000 in
set_option maxHeartbeats 8000000 in
theorem from_walk (A : Option Addr) (c : Nat) (l : List ByteArray) (t : ByteArray) (w : World) (HR : Kd.string.C w A l.length l) (hn : l.length * 16 ≤ 140737488351232) (hs : ∀ t, t ∈ l → t.size ≤ maxLen) (ht : t.size ≤ maxLen) :
    Calls Try.prog 5 #[.slice A l.length c, .string t] w fun e w' => e = .returned (.bool true) ∧ Below w.heap.size w w' := by
  have HR0 := Aside0.mk HR
  have HN := Aside0.mk hn
  have HS := Aside0.mk hs
  have HT := Aside0.mk ht
  have hm : l.length ≤ 8796093022208 := by omega
  clear HR hn hs ht
  go_enter Try.func5, Try.ntmps5
  go_wp2_with fail
  refine (new_at w).mono ?_
  rintro e w1 ⟨b, rfl, hat1, hbel1⟩
  have HA1 := Aside0.mk hat1
  have HB1 := Aside0.mk hbel1
  clear hat1 hbel1
  go_wp2_with fail
  refine (lives_any w1).mono ?_
  rintro e w2 ⟨rfl, hb2⟩
  have HA2 := Aside0.mk (HA1.out.below hb2)
  have HB2 := Aside0.mk (HB1.out.trans (hb2.mono HB1.out.size))
  clear hb2 HA1 HB1
  go_wp2_with fail
  go_loopw [6] (fun i wr => ∃ k : Nat, i = .int .i64 (k : Int) ∧ k ≤ l.length ∧ Aside0 (At wr w.heap.size b (rowOf (l.take k))) ∧ Aside0 (Below w.heap.size w wr)) (fun i _ => l.length - (intOf i).toNat)
  case atStart => exact ⟨0, rfl, Nat.zero_le _, HA2, HB2⟩
  case round =>
    obtain ⟨k, rfl, hk, HA, HB⟩ := hrel
    by_cases hlt : k < l.length
    · obtain ⟨u, hu⟩ : ∃ u, l[k]? = some u := ⟨_, List.getElem?_eq_getElem hlt⟩
      have HRr := Aside0.mk (Kd.C_below HR0.out HB.out)
      obtain ⟨ad, e, hxu⟩ := cell_str HRr.out hu
      subst e
      have hl2 : (k : Int) < (l.length : Int) := by omega
      have HU := Aside0.mk hu
      clear hu
      go_wp2_with fail
      refine (add_at _ w.heap.size b (rowOf (l.take k)) u HA.out HB.out.size (HS.out u (List.mem_of_getElem? HU.out)) (by have := length_rowOf (l.take k); have := HN.out; rw [List.length_take] at *; omega)).mono ?_
      rintro e w3 ⟨rfl, hat3, hb3⟩
      have HA3 := Aside0.mk (show At w3 w.heap.size b (rowOf (l.take (k + 1))) by rw [rowOf_take_succ HU.out]; exact hat3)
      have HB3 := Aside0.mk (show Below w.heap.size w w3 from HB.out.trans hb3)
      clear hat3 hb3
      go_wp2_with fail
      go_roundw
      case rel => exact ⟨k + 1, by go_num, by omega, HA3, HB3⟩
      case measure => first | (simp [intOf]; done) | (simp [intOf]; omega)
    · obtain ⟨wo, rfl⟩ : ∃ wo : World, wo = wr := ⟨_, rfl⟩
      have hl2 : ¬ (k : Int) < (l.length : Int) := by omega
      have HA9 := Aside0.mk (show At wo w.heap.size b (rowOf l) by have := HA.out; rwa [List.take_of_length_le (by omega)] at this)
      have HLR := Aside0.mk (length_rowOf l)
      have HND := Aside0.mk (nodup_rowOf l)
      have HSM := Aside0.mk (show ∀ t, t ∈ rowOf l → t.size ≤ maxLen from fun t ht => HS.out t ((mem_rowOf l t).1 ht))
      have HRM2 := Aside0.mk (show ∀ (j : Nat) (u : ByteArray), l[j]? = some u → u ∈ rowOf l from fun j u h => (mem_rowOf l u).2 (List.mem_of_getElem? h))
      clear HA HA2 HB2
      obtain ⟨r0, hr0⟩ : ∃ r, r = rowOf l := ⟨_, rfl⟩
      rw [← hr0] at HA9 HLR HND HSM HRM2
      clear hr0
      have hrl : r0.length ≤ 8796093022208 := by have := HLR.out; omega
      go_wp2_with fail
      refine (items_at _ w.heap.size b r0 HA9.out (by omega)).mono ?_
      rintro e w3 ⟨v3, rfl, hR3, hb3⟩
      have HR3 := Aside0.mk hR3
      have HX3 := Aside0.mk (HA9.out.below hb3)
      have HO3 := Aside0.mk hb3
      have HB3 := Aside0.mk (show Below w.heap.size w w3 from HB.out.trans (hb3.mono HB.out.size))
      clear hR3 hb3
      obtain ⟨A3, c3, rfl, hc3, hC3⟩ := Kd.R_reads HR3.out
      have HC3 := Aside0.mk hC3
      clear hC3
      go_wp2_with fail
      refine (from_any A3 c3 r0 _ HC3.out HSM.out (by have := HLR.out; have := HN.out; omega)).mono ?_
      rintro e w4 (⟨_, y, rfl, hy, hb4⟩ | ⟨hbad, _⟩)
      case inr => exact absurd HND.out hbad
      have HY4 := Aside0.mk hy
      have HB4 := Aside0.mk hb4
      have HX4 := Aside0.mk (HX3.out.below hb4)
      clear hy hb4
      go_wp2_with fail
      refine (len_at _ w3.heap.size y r0 HY4.out).mono ?_
      rintro e w6 ⟨rfl, rfl⟩
      go_wp2_with fail
      refine (len_at _ w.heap.size b r0 HX4.out).mono ?_
      rintro e w6 ⟨rfl, rfl⟩
      go_wp2_with fail
      go_loopw [10] (fun i wr2 => ∃ j : Nat, i = .int .i64 (j : Int) ∧ j ≤ l.length ∧ w4 = wr2) (fun i _ => l.length - (intOf i).toNat)
      case atStart => exact ⟨0, rfl, Nat.zero_le _, rfl⟩
      case round =>
        obtain ⟨j, rfl, hj, rfl⟩ := hrel
        by_cases hjl : j < l.length
        · obtain ⟨u, hu⟩ : ∃ u, l[j]? = some u := ⟨_, List.getElem?_eq_getElem hjl⟩
          have hl3 : (j : Int) < (l.length : Int) := by omega
          have HRr := Aside0.mk (Kd.C_below HR0.out (HB3.out.trans (HB4.out.mono HB3.out.size)))
          obtain ⟨ad, e, hxu⟩ := cell_str HRr.out hu
          subst e
          have hin := HRM2.out j u hu
          have HSU := Aside0.mk (HSM.out u hin)
          have hfb := Aside0.mk (fB_yes hin)
          have hnn : (fN r0 u != fN r0 u) = false := by simp
          clear hin hu
          go_wp2_with fail
          refine (find_at _ w.heap.size b r0 u HX4.out HSU.out).mono ?_
          rintro e w8 ⟨he, rfl⟩
          rw [hfb.out] at he
          subst he
          go_wp2_with fail
          refine (find_at _ w3.heap.size y r0 u HY4.out HSU.out).mono ?_
          rintro e w8 ⟨he, rfl⟩
          rw [hfb.out] at he
          subst he
          go_wp2_with fail
          repeat (go_quiet (fail); try go_wp2_with fail)
          go_roundw
          case rel => first | exact ⟨j + 1, by go_num, by omega, trivial⟩ | ((repeat apply Exists.intro); exact ⟨⟨j + 1, by go_num, by omega, trivial⟩, rfl⟩)
          case measure => first | (simp [intOf]; done) | (simp [intOf]; omega)
        · have hl3 : ¬ (j : Int) < (l.length : Int) := by omega
          by_cases hin : t ∈ r0
          · have hfb := Aside0.mk (fB_yes hin)
            clear hin
            go_wp2_with fail
            refine (find_at _ w.heap.size b r0 t HX4.out HT.out).mono ?_
            rintro e w8 ⟨he, rfl⟩
            rw [hfb.out] at he
            subst he
            go_wp2_with fail
            refine (add_at _ w3.heap.size y r0 t HY4.out HB4.out.size HT.out (by have := HLR.out; have := HN.out; omega)).mono ?_
            rintro e w5 ⟨he, hat5, hb5⟩
            have HY5 := Aside0.mk hat5
            have HB5 := Aside0.mk (show Below w3.heap.size w3 w5 from HB4.out.trans hb5)
            have HX5 := Aside0.mk (HX3.out.below HB5.out)
            have HR5 := Aside0.mk (Kd.R_below HR3.out HB5.out)
            clear hat5 hb5
            subst he
            go_wp2_with fail
            refine (find_at _ w.heap.size b r0 t HX5.out HT.out).mono ?_
            rintro e w8 ⟨he, rfl⟩
            rw [hfb.out] at he
            subst he
            by_cases hz : r0.length = 0
            · have hz1 : ((r0.length : Int) == 0) = true := by rw [hz]; rfl
              have hz2 : (r0.length == 0) = true := by rw [hz]; rfl
              have HZ := Aside0.mk hz
              clear hz
              go_wp2_with fail
              go_ret
              exact ⟨rfl, HB3.out.trans (HB5.out.mono HB3.out.size)⟩
            · have hz1 : ((r0.length : Int) == 0) = false := beq_eq_false_iff_ne.2 (by omega)
              have hz2 : (r0.length == 0) = false := beq_eq_false_iff_ne.2 hz
              have hz4 : ¬ r0 = [] := fun h => hz (by rw [h]; rfl)
              have hz5 : r0.isEmpty = false := by simpa using hz4
              have hq1 : (0 : Int) ≤ (r0.length : Int) / 2 := by omega
              have hq2 : (r0.length : Int) / 2 < (r0.length : Int) := by omega
              have hq3 : r0.length / 2 < r0.length := by omega
              obtain ⟨u, hu⟩ : ∃ u, r0[r0.length / 2]? = some u := ⟨_, List.getElem?_eq_getElem hq3⟩
              obtain ⟨ad5, e5, hx5⟩ := cell_str (Kd.R_reads' HR5.out).2.2 hu
              subst e5
              have HU := Aside0.mk hu
              have HND2 := Aside0.mk (show ¬ (r0 ++ [u]).Nodup from fun h => by
                rw [List.nodup_append] at h
                exact h.2.2 u (List.mem_of_getElem? HU.out) u (by simp) rfl)
              have HSM2 := Aside0.mk (show ∀ t, t ∈ r0 ++ [u] → t.size ≤ maxLen from fun t ht => by
                rcases List.mem_append.1 ht with h | h
                · exact HSM.out t h
                · simp at h; subst h; exact HSM.out t (List.mem_of_getElem? HU.out))
              have HOB := Aside0.mk (show Below wo.heap.size wo w5 from HO3.out.trans (HB5.out.mono HO3.out.size))
              have HLL := Aside0.mk (show (r0.length + 1) * 16 ≤ 140737488355328 by have := HLR.out; have := HN.out; omega)
              have HSZ := Aside0.mk HOB.out.size
              clear hu hz
              go_wp2_with (first
                | ((with_reducible refine gate_builtin (b := .append) (xs := #[.tmp 136, .tmp 143]) rfl ?_); at_builtin; refine Kd.R_append Kd.string (w0 := wo) wo.heap.size rfl (.tmp 136) (.tmp 143) 22 9 (.string ⟨#[]⟩) 16 rfl Try.underlying22 info9 rfl (by decide) (by omega) (.slice (some ad5) r0.length c3) r0 u [.string u] (fun _ => True) (fun _ => False) rfl rfl ?aP (fun _ hk => hk.elim) ?aF ?aO ?aB ?aS ?aL ?_; (case aP => exact rfl); (case aB => exact HOB.out); (case aF => exact (fun _ _ => trivial)); (case aO => exact HR5.out); (case aS => exact HSZ.out); (case aL => exact HLL.out); intro v1 w7 hR7 hB7 hg7 hat7; obtain ⟨A7, k7, rfl⟩ := Kd.R_slice hR7; replace hR7 := Aside0.mk hR7; replace hB7 := Aside0.mk hB7; clear hg7 hat7))
              have HLE := Aside0.mk (show (r0 ++ [u]).length = r0.length + 1 by simp)
              refine (from_any' A7 k7 (r0.length + 1) (r0 ++ [u]) _ HLE.out (Kd.R_reads' hR7.out).2.2 HSM2.out (by rw [HLE.out]; exact HLL.out)).mono ?_
              rintro e w8 (⟨hbad, _⟩ | ⟨_, rfl, hb8⟩)
              case inl => exact absurd hbad HND2.out
              have HB8 := Aside0.mk (show Below w.heap.size w w8 from (HB.out.trans (hB7.out.mono HB.out.size)).trans (hb8.mono (HB.out.trans (hB7.out.mono HB.out.size)).size))
              clear hb8
              go_wp2_with fail
              go_ret
              exact ⟨rfl, HB8.out⟩
          · have hfb := Aside0.mk (fB_no hin)
            have hpos := Aside0.mk (show (posOf r0 t : Int) = (r0.length : Int) by rw [idxOf_not_mem hin])
            have hlen2 := Aside0.mk (show ((rowAdd r0 t).length : Int) = (r0.length : Int) + 1 by unfold rowAdd; rw [if_neg hin]; simp)
            have hn1 : ((r0.length : Int) != (r0.length : Int)) = false := by simp
            have hn2 : ((r0.length : Int) + 1 != (r0.length : Int) + 1) = false := by simp
            clear hin
            go_wp2_with fail
            refine (find_at _ w.heap.size b r0 t HX4.out HT.out).mono ?_
            rintro e w8 ⟨he, rfl⟩
            rw [hfb.out] at he
            subst he
            go_wp2_with fail
            refine (add_at _ w3.heap.size y r0 t HY4.out HB4.out.size HT.out (by have := HLR.out; have := HN.out; omega)).mono ?_
            rintro e w5 ⟨he, hat5, hb5⟩
            have HY5 := Aside0.mk hat5
            have HB5 := Aside0.mk (show Below w3.heap.size w3 w5 from HB4.out.trans hb5)
            have HX5 := Aside0.mk (HX3.out.below HB5.out)
            have HR5 := Aside0.mk (Kd.R_below HR3.out HB5.out)
            clear hat5 hb5
            rw [hpos.out] at he
            subst he
            go_wp2_with fail
            refine (find_at _ w.heap.size b r0 t HX5.out HT.out).mono ?_
            rintro e w8 ⟨he, rfl⟩
            rw [hfb.out] at he
            subst he
            go_wp2_with fail
            refine (len_at _ w.heap.size b r0 HX5.out).mono ?_
            rintro e w8 ⟨rfl, rfl⟩
            go_wp2_with fail
            refine (len_at _ w3.heap.size y _ HY5.out).mono ?_
            rintro e w8 ⟨he, rfl⟩
            rw [hlen2.out] at he
            subst he
            go_wp2_with fail
            refine (len_at _ w.heap.size b r0 HX5.out).mono ?_
            rintro e w8 ⟨rfl, rfl⟩
            by_cases hz : r0.length = 0
            · have hz1 : ((r0.length : Int) == 0) = true := by rw [hz]; rfl
              have hz2 : (r0.length == 0) = true := by rw [hz]; rfl
              have HZ := Aside0.mk hz
              clear hz
              go_wp2_with fail
              go_ret
              exact ⟨rfl, HB3.out.trans (HB5.out.mono HB3.out.size)⟩
            · have hz1 : ((r0.length : Int) == 0) = false := beq_eq_false_iff_ne.2 (by omega)
              have hz2 : (r0.length == 0) = false := beq_eq_false_iff_ne.2 hz
              have hz4 : ¬ r0 = [] := fun h => hz (by rw [h]; rfl)
              have hz5 : r0.isEmpty = false := by simpa using hz4
              have hq1 : (0 : Int) ≤ (r0.length : Int) / 2 := by omega
              have hq2 : (r0.length : Int) / 2 < (r0.length : Int) := by omega
              have hq3 : r0.length / 2 < r0.length := by omega
              obtain ⟨u, hu⟩ : ∃ u, r0[r0.length / 2]? = some u := ⟨_, List.getElem?_eq_getElem hq3⟩
              obtain ⟨ad5, e5, hx5⟩ := cell_str (Kd.R_reads' HR5.out).2.2 hu
              subst e5
              have HU := Aside0.mk hu
              have HND2 := Aside0.mk (show ¬ (r0 ++ [u]).Nodup from fun h => by
                rw [List.nodup_append] at h
                exact h.2.2 u (List.mem_of_getElem? HU.out) u (by simp) rfl)
              have HSM2 := Aside0.mk (show ∀ t, t ∈ r0 ++ [u] → t.size ≤ maxLen from fun t ht => by
                rcases List.mem_append.1 ht with h | h
                · exact HSM.out t h
                · simp at h; subst h; exact HSM.out t (List.mem_of_getElem? HU.out))
              have HOB := Aside0.mk (show Below wo.heap.size wo w5 from HO3.out.trans (HB5.out.mono HO3.out.size))
              have HLL := Aside0.mk (show (r0.length + 1) * 16 ≤ 140737488355328 by have := HLR.out; have := HN.out; omega)
              have HSZ := Aside0.mk HOB.out.size
              clear hu hz
              go_wp2_with (first
                | ((with_reducible refine gate_builtin (b := .append) (xs := #[.tmp 136, .tmp 143]) rfl ?_); at_builtin; refine Kd.R_append Kd.string (w0 := wo) wo.heap.size rfl (.tmp 136) (.tmp 143) 22 9 (.string ⟨#[]⟩) 16 rfl Try.underlying22 info9 rfl (by decide) (by omega) (.slice (some ad5) r0.length c3) r0 u [.string u] (fun _ => True) (fun _ => False) rfl rfl ?aP (fun _ hk => hk.elim) ?aF ?aO ?aB ?aS ?aL ?_; (case aP => exact rfl); (case aB => exact HOB.out); (case aF => exact (fun _ _ => trivial)); (case aO => exact HR5.out); (case aS => exact HSZ.out); (case aL => exact HLL.out); intro v1 w7 hR7 hB7 hg7 hat7; obtain ⟨A7, k7, rfl⟩ := Kd.R_slice hR7; replace hR7 := Aside0.mk hR7; replace hB7 := Aside0.mk hB7; clear hg7 hat7))
              have HLE := Aside0.mk (show (r0 ++ [u]).length = r0.length + 1 by simp)
              refine (from_any' A7 k7 (r0.length + 1) (r0 ++ [u]) _ HLE.out (Kd.R_reads' hR7.out).2.2 HSM2.out (by rw [HLE.out]; exact HLL.out)).mono ?_
              rintro e w8 (⟨hbad, _⟩ | ⟨_, rfl, hb8⟩)
              case inl => exact absurd hbad HND2.out
              have HB8 := Aside0.mk (show Below w.heap.size w w8 from (HB.out.trans (hB7.out.mono HB.out.size)).trans (hb8.mono (HB.out.trans (hB7.out.mono HB.out.size)).size))
              clear hb8
              go_wp2_with fail
              go_ret
              exact ⟨rfl, HB8.out⟩
end Go.Proofs.Ytijmhegccakndaa
