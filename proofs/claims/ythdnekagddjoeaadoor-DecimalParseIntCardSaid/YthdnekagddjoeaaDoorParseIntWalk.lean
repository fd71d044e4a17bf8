/-
  The law's function DecimalParseInt.
-/
import Derived.Test.YthdnekagddjoeaaDoorParseRef
import Derived.Test.YthdnekagddjoeaaDoorParseWalk
namespace Go.Proofs.YthdnekagddjoeaaDoor
set_option linter.unusedVariables false
open Go.RowKit Go.Proofs.YthdnekagddjoeaaDoorW.PrintWords Go.Proofs.YthdnekagddjoeaaDoorW.PrintLast Go.Proofs.YthdnekagddjoeaaDoorW.PrintMore
open Q

theorem decimalParseInt_walk (s : ByteArray) (w : World) (hs : s.size ≤ 140737488351232) (tp : TypeId) (p : Value) (hvar : w.var? Tryd.prog "strconv.ErrRange" = some #[.iface tp p]) :
    Calls Tryd.prog 4 #[.string s] w fun e w' => e = .returned (.bool true) ∧ Below w.heap.size w w' := by
  obtain ⟨k, hk⟩ := refParse_is s hs
  obtain ⟨v, x, hvx⟩ : ∃ v x, resP s.data.toList = (v, x) := ⟨_, _, rfl⟩
  rw [hvx] at hk
  have HK := Aside0.mk hk
  have HV := Aside0.mk hvar
  have HS := Aside0.mk hs
  have HX := Aside0.mk hvx
  clear hk hvar hs hvx
  go_enter Tryd.func4, Tryd.ntmps4
  go_wp2_with fail
  refine (portageref04_ParseInt.calls k s v x _ HK.out).mono ?_
  rintro e w1 ⟨rfl, hd1⟩
  have HB1 := Aside0.mk hd1.below
  have HV1 := Aside0.mk (Joins.var_stays gRange HV.out hd1.below (Nat.le_refl _))
  clear hd1
  go_wp2_with fail
  refine (parse_calls s _ HS.out _ _ HV1.out).mono ?_
  rintro e w2 ⟨rfl, hb2⟩
  have HB2 := Aside0.mk (HB1.out.trans (hb2.mono HB1.out.size))
  clear hb2
  rw [HX.out]
  have e1 : (v == v) = true := by simp
  have e2 : (x == x) = true := by simp
  go_wp2_with fail
  refine (portagekit_Num.calls x x _ rfl).mono ?_
  rintro e w3 ⟨rfl, hd3⟩
  have HB3 := Aside0.mk (HB2.out.trans (hd3.below.mono HB2.out.size))
  clear hd3
  go_wp2_with fail
  go_ret
  exact ⟨by first | rfl | simp, HB3.out⟩
end Go.Proofs.YthdnekagddjoeaaDoor
