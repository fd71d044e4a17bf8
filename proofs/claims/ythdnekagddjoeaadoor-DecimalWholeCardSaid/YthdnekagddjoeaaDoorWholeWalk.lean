/-
  The law's function DecimalWhole.
-/
import Derived.Test.YthdnekagddjoeaaDoorNought
import Derived.Test.YthdnekagddjoeaaDoorParseWalk
namespace Go.Proofs.YthdnekagddjoeaaDoor
set_option linter.unusedVariables false
open Go.RowKit Go.Proofs.YthdnekagddjoeaaDoorW.PrintWords Go.Proofs.YthdnekagddjoeaaDoorW.PrintLast Go.Proofs.YthdnekagddjoeaaDoorW.PrintMore
open P

theorem gPow : Tryd.prog.globalNamed "internal/strconv.uint64pow10" = some 0 := by kernel_rfl
theorem resP_bounds (l : List UInt8) (v : Int) (h : resP l = (v, 0)) : -9223372036854775808 ≤ v ∧ v ≤ 9223372036854775807 := by
  unfold resP res at h
  split at h
  · exact absurd (show (6 : Int) = 0 from congrArg Prod.snd h) (by decide)
  · split at h
    · split at h
      · split at h
        · have := congrArg Prod.fst h
          simp only [] at this
          omega
        · exact absurd (show (5 : Int) = 0 from congrArg Prod.snd h) (by decide)
      · split at h
        · have := congrArg Prod.fst h
          simp only [] at this
          omega
        · exact absurd (show (5 : Int) = 0 from congrArg Prod.snd h) (by decide)
    · exact absurd (show (6 : Int) = 0 from congrArg Prod.snd h) (by decide)
theorem itoa_len (n : Int) (h0 : -9223372036854775808 ≤ n) (h1 : n ≤ 9223372036854775807) : (ofL (Lib.itoa n)).size ≤ 140737488351232 := by
  rw [ofL_size]
  unfold Lib.itoa
  split
  · rw [List.length_cons]
    have := dec_len n.natAbs (by omega)
    omega
  · have := dec_len n.toNat (by omega)
    omega

set_option maxRecDepth 100000 in
set_option maxHeartbeats 4000000 in
theorem decimalWhole_walk (n : Int) (s : ByteArray) (h0 : -9223372036854775808 ≤ n) (h1 : n ≤ 9223372036854775807) (w : World) (hs : s.size ≤ 140737488351232)
    (htab : Lib.TabIs Tryd.prog w "internal/strconv.uint64pow10" .u64 Lib.pow10Tab) (tp : TypeId) (p : Value) (hvar : w.var? Tryd.prog "strconv.ErrRange" = some #[.iface tp p]) :
    Calls Tryd.prog 5 #[.int .i64 n, .string s] w fun e w' => e = .returned (.bool true) ∧ Below w.heap.size w w' := by
  have HC := Aside0.mk (int_calls n h0 h1 w htab)
  have HB0 := Aside0.mk (resP_itoa n h0 h1)
  have HZ := Aside0.mk (itoa_len n h0 h1)
  have HT := Aside0.mk htab
  have HV := Aside0.mk hvar
  have HS := Aside0.mk hs
  clear h0 h1 htab hvar hs
  go_enter Tryd.func5, Tryd.ntmps5
  go_wp2_with fail
  refine HC.out.mono ?_
  rintro e w1 ⟨rfl, hb1⟩
  have HB1 := Aside0.mk hb1
  have HV1 := Aside0.mk (Joins.var_stays gRange HV.out hb1 (Nat.le_refl _))
  clear hb1
  go_wp2_with fail
  refine (parse_calls (ofL (Lib.itoa n)) _ HZ.out _ _ HV1.out).mono ?_
  rw [ofL_list, HB0.out]
  rintro e w2 ⟨rfl, hb2⟩
  have HB2 := Aside0.mk (HB1.out.trans (hb2.mono HB1.out.size))
  have HV2 := Aside0.mk (Joins.var_stays gRange HV.out HB2.out (Nat.le_refl _))
  clear hb2
  have e1 : (n != n) = false := by simp
  go_wp2_with fail
  refine (parse_calls s _ HS.out _ _ HV2.out).mono ?_
  rintro e w3 ⟨rfl, hb3⟩
  have HB3 := Aside0.mk (HB2.out.trans (hb3.mono HB2.out.size))
  have HT3 := Aside0.mk (show Lib.TabIs Tryd.prog w3 "internal/strconv.uint64pow10" .u64 Lib.pow10Tab from Joins.var_stays gPow HT.out HB3.out (Nat.le_refl _))
  clear hb3
  obtain ⟨v, x, hvx⟩ : ∃ v x, resP s.data.toList = (v, x) := ⟨_, _, rfl⟩
  rw [hvx]
  by_cases hx : x = 0
  · subst hx
    have HN := Aside0.mk (itoa_nou _ v hvx)
    have HD := Aside0.mk (resP_bounds _ v hvx)
    clear hvx
    go_wp2_with fail
    refine (int_calls v HD.out.1 HD.out.2 _ HT3.out).mono ?_
    rintro e w4 ⟨rfl, hb4⟩
    have HB4 := Aside0.mk (HB3.out.trans (hb4.mono HB3.out.size))
    clear hb4
    go_wp2_with fail
    refine (nought_calls s _ HS.out HN.out.2).mono ?_
    rintro e w5 ⟨rfl, rfl⟩
    rw [← HN.out.1]
    obtain ⟨r, hr⟩ : ∃ r, r = ofL (Lib.itoa v) := ⟨_, rfl⟩
    rw [← hr]
    clear hr
    have r1 : (r.toList == r.toList) = true := by simp
    go_wp2_with fail
    go_ret
    exact ⟨by first | rfl | simp, HB4.out⟩
  · have d0 : (x != 0) = true := bne_iff_ne.2 hx
    have d1 : (x == 0) = false := beq_eq_false_iff_ne.2 hx
    clear hvx hx
    go_wp2_with fail
    go_ret
    exact ⟨by first | rfl | simp, HB3.out⟩
end Go.Proofs.YthdnekagddjoeaaDoor
