/-
  The closed facts of the row of OpsPieces, one by one.
-/
import Derived.Test.YtkeneiahhmbojaaGreatDoorRows
import Derived.JoinedCond
namespace Go.Proofs.YtkeneiahhmbojaaGreatDoor.opsPieces
theorem and_mk {a b : Bool} (ha : a = true) (hb : b = true) : (a && b) = true := by rw [ha, hb]; rfl
set_option maxRecDepth 100000 in
set_option maxHeartbeats 40000000 in
theorem closed : joinedFacts Tryz.pinned.checked.prog 6 Tryz.f6 (OpenSpec.ofChange Rows.opsPiecesSpec).bare Rows.opsPiecesRow = true := by
  unfold joinedFacts
  repeat' (with_reducible refine and_mk ?_ ?_)
  all_goals as_aux_lemma => kernel_rfl
end Go.Proofs.YtkeneiahhmbojaaGreatDoor.opsPieces
