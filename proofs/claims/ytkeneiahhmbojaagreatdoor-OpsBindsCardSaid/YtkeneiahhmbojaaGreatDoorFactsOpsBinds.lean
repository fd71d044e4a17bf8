/-
  The closed facts of the row of OpsBinds, one by one.
-/
import Derived.Test.YtkeneiahhmbojaaGreatDoorRows
import Derived.JoinedCond
namespace Go.Proofs.YtkeneiahhmbojaaGreatDoor.opsBinds
theorem and_mk {a b : Bool} (ha : a = true) (hb : b = true) : (a && b) = true := by rw [ha, hb]; rfl
set_option maxRecDepth 100000 in
set_option maxHeartbeats 40000000 in
theorem closed : joinedFacts Tryz.pinned.checked.prog 7 Tryz.f7 (OpenSpec.ofChange Rows.opsBindsSpec).bare Rows.opsBindsRow = true := by
  unfold joinedFacts
  repeat' (with_reducible refine and_mk ?_ ?_)
  all_goals as_aux_lemma => kernel_rfl
end Go.Proofs.YtkeneiahhmbojaaGreatDoor.opsBinds
