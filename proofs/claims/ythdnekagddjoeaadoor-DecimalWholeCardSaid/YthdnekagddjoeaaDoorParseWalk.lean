/-
  decimal.ParseInt: what it answers.
-/
import Derived.Test.YthdnekagddjoeaaDoorParseLaw
import Derived.Lib.SmallJoins
namespace Go.Proofs.YthdnekagddjoeaaDoor
set_option linter.unusedVariables false
open Go.RowKit Go.Proofs.YthdnekagddjoeaaDoorW.PrintWords Go.Proofs.YthdnekagddjoeaaDoorW.PrintLast Go.Proofs.YthdnekagddjoeaaDoorW.PrintMore
open P

theorem gRange : Tryd.prog.globalNamed "strconv.ErrRange" = some 2 := by kernel_rfl
theorem spl_len (l : List UInt8) : (spl l).1.length ≤ l.length ∧ ((spl l).2 = true → (spl l).1.length + 1 ≤ l.length) := by
  unfold spl
  split
  · rename_i h
    unfold Lib.trimPrefix
    rw [if_pos h]
    unfold Lib.hasPrefix at h
    obtain ⟨t, ht⟩ := List.isPrefixOf_iff_prefix.1 h
    subst ht
    simp
  · refine ⟨?_, fun h => by cases h⟩
    unfold Lib.trimPrefix
    split
    · simp
    · exact Nat.le_refl _

theorem ofL_toList (l : List UInt8) : (ofL l).toList = l := (ByteArray.toList_eq _).trans (ofL_list l)

set_option maxRecDepth 100000 in
set_option maxHeartbeats 4000000 in
theorem parse_calls (s : ByteArray) (w : World) (hs : s.size ≤ 140737488351232) (tp : TypeId) (p : Value) (hvar : w.var? Tryd.prog "strconv.ErrRange" = some #[.iface tp p]) :
    Calls Tryd.prog 9 #[.string s] w fun e w' => e = .returned (.tuple #[.int .i64 (resP s.data.toList).1, .int .i64 (resP s.data.toList).2]) ∧ Below w.heap.size w w' := by
  have HV := Aside0.mk hvar
  have hln : s.data.toList.length = s.size := by simp
  have HL := Aside0.mk (spl_len s.data.toList)
  rw [hln] at HL
  have HS := Aside0.mk hs
  clear hvar hln hs
  go_enter Tryd.func9, Tryd.ntmps9
  go_wp2_with fail
  refine (unsigned_calls s _).mono ?_
  rintro e w1 ⟨rfl, rfl⟩
  obtain ⟨r, hr⟩ : ∃ r, r = (spl s.data.toList).1 := ⟨_, rfl⟩
  obtain ⟨m, hm⟩ : ∃ m, m = (spl s.data.toList).2 := ⟨_, rfl⟩
  have HR := Aside0.mk (show resP s.data.toList = if r = [] then (0, 6) else if digs r = true then res m (val 0 r) else (0, 6) by unfold resP; rw [hr, hm])
  rw [← hr, ← hm] at HL ⊢
  clear hr hm
  by_cases h0 : r = []
  · have HR2 := Aside0.mk (show resP s.data.toList = (0, 6) by rw [HR.out, if_pos h0])
    have e0 : (ofL r).toList.isEmpty = true := by rw [ofL_toList, h0]; rfl
    have e1 : ((ofL r).toList = []) = True := eq_true (by rw [ofL_toList, h0])
    clear h0
    go_wp2_with fail
    go_ret2
    exact ⟨by rw [HR2.out]; rfl, Below.refl _ _⟩
  · have e0 : (ofL r).toList.isEmpty = false := by
      rw [ofL_toList]
      cases r with
      | nil => exact absurd rfl h0
      | cons a b => rfl
    have e1 : ((ofL r).toList = []) = False := eq_false (by rw [ofL_toList]; exact h0)
    have H0 := Aside0.mk h0
    clear h0
    go_wp2_with fail
    refine (numbers_calls (ofL r) _).mono ?_
    rw [ofL_list]
    rintro e w2 ⟨rfl, hb2⟩
    have HB2 := Aside0.mk hb2
    have HV2 := Aside0.mk (Joins.var_stays gRange HV.out hb2 (Nat.le_refl _))
    clear hb2 HV
    cases hd : digs r with
    | false =>
      have HR2 := Aside0.mk (show resP s.data.toList = (0, 6) by rw [HR.out, if_neg H0.out, hd]; rfl)
      clear hd
      go_wp2_with fail
      go_ret2
      exact ⟨by rw [HR2.out]; rfl, HB2.out⟩
    | true =>
      have HR2 := Aside0.mk (show resP s.data.toList = res m (val 0 r) by rw [HR.out, if_neg H0.out, if_pos hd])
      have HD := Aside0.mk hd
      clear hd
      cases m with
      | true =>
        have HN := Aside0.mk (intB_neg r HD.out H0.out)
        have hz : (ofL (45 :: r)).size ≤ 140737488351232 := by
          rw [ofL_size, List.length_cons]
          have := HL.out.2 rfl
          have := HS.out
          omega
        have hz2 : ¬ 9223372036854775807 < 1 + (ofL r).size := by
          rw [ofL_size]
          have := HL.out.1
          have := HS.out
          omega
        have c1 := eq_false hz2
        have hcat : ({ data := #[45] } : ByteArray) ++ ofL r = ofL (45 :: r) := by
          rw [show ({ data := #[45] } : ByteArray) = ofL [45] from rfl, ofL_append]
          rfl
        have HZ := Aside0.mk hz
        clear hz hz2
        by_cases hv : val 0 r ≤ 9223372036854775808
        · have HK := Aside0.mk (HN.out.1 hv)
          have HR3 := Aside0.mk (show resP s.data.toList = (-(val 0 r : Int), 0) by rw [HR2.out]; unfold res; rw [if_pos rfl, if_pos hv])
          clear hv
          go_wp2_with fail
          refine (Tryd.strconv_ParseInt_10_at64_ok (ofL (45 :: r)) (by have := HZ.out; omega) (-(val 0 r : Int)) (by rw [ofL_list]; exact HK.out) _).mono ?_
          rintro e w3 ⟨rfl, hw⟩
          have HB3 := Aside0.mk (show Below w1.heap.size w1 w3 by
            rcases hw with rfl | ⟨t, rfl⟩
            · exact HB2.out
            · exact HB2.out.trans (Joins.below_bytesWorld _ _ _ _ HB2.out.size))
          clear hw
          go_wp2_with fail
          go_ret2
          exact ⟨by rw [HR3.out]; rfl, HB3.out⟩
        · have HK := Aside0.mk (HN.out.2 (by omega))
          have HR3 := Aside0.mk (show resP s.data.toList = (0, 5) by rw [HR2.out]; unfold res; rw [if_pos rfl, if_neg hv])
          clear hv
          go_wp2_with fail
          refine (Tryd.strconv_ParseInt_10_at64_range_var (ofL (45 :: r)) (by have := HZ.out; omega) (by rw [ofL_list]; exact HK.out) tp p _ HV2.out).mono ?_
          rintro e w3 ⟨N, rfl, _, _, hb3⟩
          have HB3 := Aside0.mk (HB2.out.trans (hb3.mono HB2.out.size))
          clear hb3
          go_wp2_with fail
          go_ret2
          exact ⟨by rw [HR3.out]; rfl, HB3.out⟩
      | false =>
        have HN := Aside0.mk (intB_pos r HD.out H0.out)
        have hz : (ofL r).size ≤ 140737488351232 := by
          rw [ofL_size]
          have := HL.out.1
          have := HS.out
          omega
        have HZ := Aside0.mk hz
        clear hz
        by_cases hv : val 0 r < 9223372036854775808
        · have HK := Aside0.mk (HN.out.1 hv)
          have HR3 := Aside0.mk (show resP s.data.toList = ((val 0 r : Int), 0) by rw [HR2.out]; unfold res; rw [if_neg (by decide), if_pos hv])
          clear hv
          go_wp2_with fail
          refine (Tryd.strconv_ParseInt_10_at64_ok (ofL r) (by have := HZ.out; omega) (val 0 r : Int) (by rw [ofL_list]; exact HK.out) _).mono ?_
          rintro e w3 ⟨rfl, hw⟩
          have HB3 := Aside0.mk (show Below w1.heap.size w1 w3 by
            rcases hw with rfl | ⟨t, rfl⟩
            · exact HB2.out
            · exact HB2.out.trans (Joins.below_bytesWorld _ _ _ _ HB2.out.size))
          clear hw
          go_wp2_with fail
          go_ret2
          exact ⟨by rw [HR3.out]; rfl, HB3.out⟩
        · have HK := Aside0.mk (HN.out.2 (by omega))
          have HR3 := Aside0.mk (show resP s.data.toList = (0, 5) by rw [HR2.out]; unfold res; rw [if_neg (by decide), if_neg hv])
          clear hv
          go_wp2_with fail
          refine (Tryd.strconv_ParseInt_10_at64_range_var (ofL r) (by have := HZ.out; omega) (by rw [ofL_list]; exact HK.out) tp p _ HV2.out).mono ?_
          rintro e w3 ⟨N, rfl, _, _, hb3⟩
          have HB3 := Aside0.mk (HB2.out.trans (hb3.mono HB2.out.size))
          clear hb3
          go_wp2_with fail
          go_ret2
          exact ⟨by rw [HR3.out]; rfl, HB3.out⟩
end Go.Proofs.YthdnekagddjoeaaDoor
