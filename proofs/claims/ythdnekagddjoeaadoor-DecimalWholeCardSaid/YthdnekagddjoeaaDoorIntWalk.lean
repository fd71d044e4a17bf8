/-
  decimal.Int, and the law's function DecimalInt.
-/
import Derived.Test.YthdnekagddjoeaaDoorIntLaw
import Derived.Test.YthdnekagddjoeaaDoorShelf
import Derived.Outline
namespace Go.Proofs.YthdnekagddjoeaaDoor
open Go.RowKit Go.Proofs.YthdnekagddjoeaaDoorW.PrintWords Go.Proofs.YthdnekagddjoeaaDoorW.PrintLast Go.Proofs.YthdnekagddjoeaaDoorW.PrintMore
open P Go.Sort

theorem below_grow {B : Nat} {w w' : World} (h : Below B w w') (hB : B ≤ w'.heap.size) (os : Array Obj) : Below B w (grow w' os) := by
  refine ⟨h.os, h.tape, h.output, ?_, fun k hk => ?_⟩
  · have := h.size
    show w.heap.size ≤ (w'.heap ++ os).size
    rw [Array.size_append]
    omega
  · have h1 := h.block k hk
    have h2 : (w'.heap ++ os)[k]? = w'.heap[k]? := Array.getElem?_append_left (by omega)
    exact h2.trans h1
theorem int_calls (n : Int) (h0 : -9223372036854775808 ≤ n) (h1 : n ≤ 9223372036854775807) (w : World) (htab : Lib.TabIs Tryd.prog w "internal/strconv.uint64pow10" .u64 Lib.pow10Tab) :
    Calls Tryd.prog 6 #[.int .i64 n] w fun e w' => e = .returned (.string (ofL (Lib.itoa n))) ∧ Below w.heap.size w w' := by
  have HC := Aside0.mk (Tryd.strconv_FormatInt_10 n h0 h1 w htab)
  clear h0 h1 htab
  go_enter Tryd.func6, Tryd.ntmps6
  go_wp2_with fail
  refine HC.out.mono ?_
  rintro e w1 ⟨rfl, k, os, rfl⟩
  rw [show (⟨(Lib.itoa n).toArray⟩ : ByteArray) = ofL (Lib.itoa n) from rfl]
  go_wp2_with fail
  go_ret
  exact ⟨rfl, below_grow (pw_below_drewN (Below.refl w.heap.size w) _) (pw_below_drewN (Below.refl w.heap.size w) _).size os⟩
theorem decimalInt_walk (n : Int) (h0 : -9223372036854775808 ≤ n) (h1 : n ≤ 9223372036854775807) (w : World) (htab : Lib.TabIs Tryd.prog w "internal/strconv.uint64pow10" .u64 Lib.pow10Tab) :
    Calls Tryd.prog 3 #[.int .i64 n] w fun e w' => e = .returned (.bool true) ∧ Below w.heap.size w w' := by
  have HC := Aside0.mk (int_calls n h0 h1 w htab)
  have HR := Aside0.mk (refInt_is n h0 h1)
  clear h0 h1 htab
  go_enter Tryd.func3, Tryd.ntmps3
  go_wp2_with fail
  refine HC.out.mono ?_
  rintro e w1 ⟨rfl, hb1⟩
  have HB1 := Aside0.mk hb1
  clear hb1
  go_wp2_with fail
  refine (portageref04_Int.calls 21 n _ _ HR.out).mono ?_
  rintro e w2 ⟨rfl, hb2⟩
  have HB2 := Aside0.mk (HB1.out.trans (hb2.mono HB1.out.size))
  clear hb2
  obtain ⟨r, hr⟩ : ∃ r, r = ofL (Lib.itoa n) := ⟨_, rfl⟩
  rw [← hr]
  clear hr
  go_wp2_with fail
  go_ret
  exact ⟨by first | rfl | simp, HB2.out⟩
end Go.Proofs.YthdnekagddjoeaaDoor
