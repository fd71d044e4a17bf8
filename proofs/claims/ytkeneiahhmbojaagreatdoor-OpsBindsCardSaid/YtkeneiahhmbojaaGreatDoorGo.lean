/-
  OpsBinds: the walk.
-/
import Derived.Test.YtkeneiahhmbojaaGreatDoorGo1
import Derived.Test.YtkeneiahhmbojaaGreatDoorGo2
import Derived.Test.YtkeneiahhmbojaaGreatDoorGo3
namespace Go.Proofs.YtkeneiahhmbojaaGreatDoor
open Go.RowKit Go.MapKept
open Go.Proofs.YtkeneiahhmbojaaGreatDoorW.PrintWords Go.Proofs.YtkeneiahhmbojaaGreatDoorW.PrintMore
open POpsBinds
set_option linter.unusedVariables false

set_option maxRecDepth 100000 in
set_option maxHeartbeats 8000000 in
theorem binds_a (q : Int) (A1 : Option Addr) (c1 : Nat) (l1 : List S41) (A2 : Option Addr) (c2 : Nat) (l2 : List S41) (w : World) (h60 : ¬ l1.length ≤ 60) :
    Calls Tryz.prog 7 #[.int .i64 q, .slice A1 l1.length c1, .slice A2 l2.length c2] w fun e w' => e = .returned (.bool true) ∧ Below w.heap.size w w' := by
  go_enter Tryz.func7, Tryz.ntmps7
  go_wp2_with fail
  refine (works_calls _).mono ?_
  rintro e w1 ⟨rfl, hb⟩
  have HF1 := Aside0.mk (Fr.below (n := w.heap.size) hb (Nat.le_refl _))
  clear hb
  go_wp2_with fail
  refine (pick_calls2 q 60 (by decide) (by decide) _).mono ?_
  rintro e _ ⟨rfl, rfl⟩
  have d1 : decide ((60 : Int) < (l1.length : Int)) = true := by simp; omega
  go_wp2_with fail
  repeat (go_quiet (fail); try go_wp2_with fail)
  go_ret
  exact ⟨rfl, HF1.out.lo⟩
set_option maxRecDepth 100000 in
set_option maxHeartbeats 8000000 in
theorem binds_b (q : Int) (A1 : Option Addr) (c1 : Nat) (l1 : List S41) (A2 : Option Addr) (c2 : Nat) (l2 : List S41) (w : World) (h60 : l1.length ≤ 60) (h61 : ¬ l2.length ≤ 60) :
    Calls Tryz.prog 7 #[.int .i64 q, .slice A1 l1.length c1, .slice A2 l2.length c2] w fun e w' => e = .returned (.bool true) ∧ Below w.heap.size w w' := by
  go_enter Tryz.func7, Tryz.ntmps7
  go_wp2_with fail
  refine (works_calls _).mono ?_
  rintro e w1 ⟨rfl, hb⟩
  have HF1 := Aside0.mk (Fr.below (n := w.heap.size) hb (Nat.le_refl _))
  clear hb
  go_wp2_with fail
  refine (pick_calls2 q 60 (by decide) (by decide) _).mono ?_
  rintro e _ ⟨rfl, rfl⟩
  have d1 : decide ((60 : Int) < (l1.length : Int)) = false := by simp; omega
  have d2 : decide ((60 : Int) < (l2.length : Int)) = true := by simp; omega
  go_wp2_with fail
  repeat (go_quiet (fail); try go_wp2_with fail)
  go_ret
  exact ⟨rfl, HF1.out.lo⟩
set_option maxRecDepth 100000 in
set_option maxHeartbeats 8000000 in
theorem binds_c (q : Int) (A1 : Option Addr) (c1 : Nat) (l1 : List S41) (A2 : Option Addr) (c2 : Nat) (l2 : List S41) (w : World) (h60 : l1.length ≤ 60) (h61 : l2.length ≤ 60) (h63 : ¬ l1.length + l2.length ≤ 63) :
    Calls Tryz.prog 7 #[.int .i64 q, .slice A1 l1.length c1, .slice A2 l2.length c2] w fun e w' => e = .returned (.bool true) ∧ Below w.heap.size w w' := by
  go_enter Tryz.func7, Tryz.ntmps7
  go_wp2_with fail
  refine (works_calls _).mono ?_
  rintro e w1 ⟨rfl, hb⟩
  have HF1 := Aside0.mk (Fr.below (n := w.heap.size) hb (Nat.le_refl _))
  clear hb
  go_wp2_with fail
  refine (pick_calls2 q 60 (by decide) (by decide) _).mono ?_
  rintro e _ ⟨rfl, rfl⟩
  have d1 : decide ((60 : Int) < (l1.length : Int)) = false := by simp; omega
  have d2 : decide ((60 : Int) < (l2.length : Int)) = false := by simp; omega
  have hwr : IntKind.i64.wrap ((l1.length : Int) + (l2.length : Int)) = (l1.length : Int) + (l2.length : Int) := IntWalk.i64_in _ (by omega)
  have d3 : decide ((63 : Int) < (l1.length : Int) + (l2.length : Int)) = true := by simp; omega
  go_wp2_with fail
  repeat (go_quiet (fail); try go_wp2_with fail)
  go_ret
  exact ⟨rfl, HF1.out.lo⟩
/-- OpsBinds answers true, whatever it is given. -/
theorem binds_of (q : Int) (A1 : Option Addr) (c1 : Nat) (l1 : List S41) (A2 : Option Addr) (c2 : Nat) (l2 : List S41) (w : World) (g1 : Kd.C k41 w A1 l1.length l1) (n1 : l1.length ≤ c1) (g2 : Kd.C k41 w A2 l2.length l2) (n2 : l2.length ≤ c2) :
    Calls Tryz.prog 7 #[.int .i64 q, .slice A1 l1.length c1, .slice A2 l2.length c2] w fun e w' => e = .returned (.bool true) ∧ Below w.heap.size w w' := by
  by_cases h60 : l1.length ≤ 60
  rotate_left
  · exact binds_a q A1 c1 l1 A2 c2 l2 w h60
  by_cases h61 : l2.length ≤ 60
  rotate_left
  · exact binds_b q A1 c1 l1 A2 c2 l2 w h60 h61
  by_cases h63 : l1.length + l2.length ≤ 63
  rotate_left
  · exact binds_c q A1 c1 l1 A2 c2 l2 w h60 h61 h63
  by_cases hA : q % 60 < (l1.length : Int)
  · exact binds_1 q _ rfl A1 c1 l1 A2 c2 l2 w g1 n1 g2 n2 h60 h61 h63 hA
  · by_cases hB : q % 60 < (l1.length : Int) + (l2.length : Int)
    · exact binds_2 q _ rfl A1 c1 l1 A2 c2 l2 w g1 n1 g2 n2 h60 h61 h63 (by omega) hB
    · exact binds_3 q _ rfl A1 c1 l1 A2 c2 l2 w g1 n1 g2 n2 h60 h61 h63 (by omega) (by omega)
end Go.Proofs.YtkeneiahhmbojaaGreatDoor
