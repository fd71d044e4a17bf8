/-
  The closed facts of the row of OpsOrder, one by one.
-/
import Derived.Test.YtkeneiahhmbojaaGreatDoorRows
import Derived.JoinedCond
namespace Go.Proofs.YtkeneiahhmbojaaGreatDoor.opsOrder
theorem and_mk {a b : Bool} (ha : a = true) (hb : b = true) : (a && b) = true := by rw [ha, hb]; rfl
set_option maxRecDepth 100000 in
set_option maxHeartbeats 40000000 in
theorem closed : joinedFacts Tryz.pinned.checked.prog 5 Tryz.f5 (OpenSpec.ofChange Rows.opsOrderSpec).bare Rows.opsOrderRow = true := by
  unfold joinedFacts
  repeat' (with_reducible refine and_mk ?_ ?_)
  all_goals as_aux_lemma => kernel_rfl
end Go.Proofs.YtkeneiahhmbojaaGreatDoor.opsOrder
