/-
  Comparisons: truth, realOf.
-/
import Derived.Test.YtkeneiahhmbojaaGreatDoorOn
namespace Go.Proofs.YtkeneiahhmbojaaGreatDoor
open Go.RowKit Go.MapKept
open Go.Proofs.YtkeneiahhmbojaaGreatDoorW.PrintWords Go.Proofs.YtkeneiahhmbojaaGreatDoorW.PrintMore

theorem fbits (x : Nat) (w : World) : (callFunc 123 #[.float .f64 x]).run Tryz.prog w = .ok (.value (.int .u64 (x : Int))) w := by kernel_rfl
set_option maxRecDepth 100000 in
theorem laid_calls (x : Nat) (w : World) : Calls Tryz.prog 157 #[.float .f64 x] w fun e w' => (∃ r : Int, e = .returned (.int .u64 r)) ∧ w = w' := by
  have hfb := fbits x w
  go_enter Tryz.func157, Tryz.ntmps157
  go_wp2_with fail
  all_goals
    go_ret
    exact ⟨⟨_, rfl⟩, rfl⟩
theorem ltruth_t (w : World) : Calls Tryz.prog 36 #[.bool true] w fun e w' => e = .returned (.agg #[.int .i64 1, .int .i64 1]) ∧ Below w.heap.size w w' := by
  go_enter Tryz.func36, Tryz.ntmps36
  go_wp2_with fail
  exact bodyPost_ret (results_cell_row rfl _ _ w.heap.size 41 _ (0, 0) _ rfl (heap_alloc_last w _) Tryz.underlying41 rfl (by kernel_rfl)) rfl ⟨rfl, below_alloc1 w _⟩
theorem ltruth_f (w : World) : Calls Tryz.prog 36 #[.bool false] w fun e w' => e = .returned (.agg #[.int .i64 1, .int .i64 0]) ∧ Below w.heap.size w w' := by
  go_enter Tryz.func36, Tryz.ntmps36
  go_wp2_with fail
  exact bodyPost_ret (results_cell_row rfl _ _ w.heap.size 41 _ (0, 0) _ rfl (heap_alloc_last w _) Tryz.underlying41 rfl (by kernel_rfl)) rfl ⟨rfl, below_alloc1 w _⟩
theorem fromInt_calls (n : Int) (w : World) : Calls Tryz.prog 114 #[.int .i64 n] w fun e w' => (∃ r : Int, e = .returned (.int .u64 r)) ∧ w = w' := by
  go_enter Tryz.func114, Tryz.ntmps114
  go_wp2_with fail
  refine (laid_calls _ _).mono ?_
  rintro e w1 ⟨⟨r, rfl⟩, rfl⟩
  go_wp2_with fail
  go_ret
  exact ⟨⟨_, rfl⟩, rfl⟩
theorem realOf_int (n : Int) (w : World) : Calls Tryz.prog 76 #[.agg #[.int .i64 2, .int .i64 n]] w fun e w' => (∃ r : Int, e = .returned (.tuple #[.int .u64 r, .bool true])) ∧ Below w.heap.size w w' := by
  go_enter Tryz.func76, Tryz.ntmps76
  go_wp2_with fail
  refine (fromInt_calls _ _).mono ?_
  rintro e w1 ⟨⟨r, rfl⟩, rfl⟩
  go_wp2_with fail
  go_ret2
  exact ⟨⟨_, rfl⟩, below_alloc1 w _⟩
theorem realOf_text (n : Int) (w : World) : Calls Tryz.prog 76 #[.agg #[.int .i64 4, .int .i64 n]] w fun e w' => e = .returned (.tuple #[.int .u64 0, .bool false]) ∧ Below w.heap.size w w' := by
  go_enter Tryz.func76, Tryz.ntmps76
  go_wp2_with fail
  go_ret2
  exact ⟨rfl, below_alloc1 w _⟩
def b01 (x : Bool) : Int := if x then 1 else 0
theorem otruth_t (w : World) : Calls Tryz.prog 73 #[.bool true] w fun e w' => e = .returned (.agg #[.int .i64 1, .int .i64 1, .int .i64 0, .bool false]) ∧ Below w.heap.size w w' := by
  go_enter Tryz.func73, Tryz.ntmps73
  go_wp2_with fail
  refine (value_calls _ _ _).mono ?_
  rintro e w1 ⟨rfl, hb⟩
  have HG := Aside0.mk ((hb.block _ (by simp; omega)).trans (heap_alloc2_old w _ _))
  have HB := Aside0.mk ((((below_alloc1 w _).alloc (by simp) _)).trans (hb.mono (by simp; omega)))
  clear hb
  go_wp2_with (with_reducible refine wpList_store_row rfl 90 _ _ rfl w.heap.size #[.int .i64 1, .int .i64 1, .int .i64 0, .bool false] rfl rfl 90 _ HG.out (by kernel_rfl) (by kernel_rfl) (by kernel_rfl) ?_)
  exact bodyPost_ret (results_cell_row rfl _ _ w.heap.size 90 _ (0, 0) _ rfl (setRow_heap _ _ _ _ _ _ HG.out) Tryz.underlying90 rfl (by kernel_rfl)) rfl ⟨rfl, below_setRow HB.out (Nat.le_refl _) _⟩
theorem otruth_f (w : World) : Calls Tryz.prog 73 #[.bool false] w fun e w' => e = .returned (.agg #[.int .i64 1, .int .i64 0, .int .i64 0, .bool false]) ∧ Below w.heap.size w w' := by
  go_enter Tryz.func73, Tryz.ntmps73
  go_wp2_with fail
  refine (value_calls _ _ _).mono ?_
  rintro e w1 ⟨rfl, hb⟩
  have HG := Aside0.mk ((hb.block _ (by simp; omega)).trans (heap_alloc2_old w _ _))
  have HB := Aside0.mk ((((below_alloc1 w _).alloc (by simp) _)).trans (hb.mono (by simp; omega)))
  clear hb
  go_wp2_with (with_reducible refine wpList_store_row rfl 90 _ _ rfl w.heap.size #[.int .i64 1, .int .i64 0, .int .i64 0, .bool false] rfl rfl 90 _ HG.out (by kernel_rfl) (by kernel_rfl) (by kernel_rfl) ?_)
  exact bodyPost_ret (results_cell_row rfl _ _ w.heap.size 90 _ (0, 0) _ rfl (setRow_heap _ _ _ _ _ _ HG.out) Tryz.underlying90 rfl (by kernel_rfl)) rfl ⟨rfl, below_setRow HB.out (Nat.le_refl _) _⟩
theorem otruth (x : Bool) (w : World) : Calls Tryz.prog 73 #[.bool x] w fun e w' => e = .returned (.agg #[.int .i64 1, .int .i64 (b01 x), .int .i64 0, .bool false]) ∧ Below w.heap.size w w' := by
  cases x
  · exact otruth_f w
  · exact otruth_t w
set_option maxRecDepth 100000 in
theorem equal_int (a b : Int) (w : World) : Calls Tryz.prog 75 #[.agg #[.int .i64 2, .int .i64 a], .agg #[.int .i64 2, .int .i64 b]] w fun e w' => e = .returned (.bool (a == b)) ∧ Below w.heap.size w w' := by
  go_enter Tryz.func75, Tryz.ntmps75
  go_wp2_with fail
  refine (realOf_int _ _).mono ?_
  rintro e w1 ⟨⟨_, rfl⟩, hb⟩
  have HG0 := Aside0.mk ((hb.block _ (by simp; omega)).trans (heap_alloc2_old w (.cells #[.int .i64 2, .int .i64 a] 41) (.cells #[.int .i64 2, .int .i64 b] 41)))
  have HG1 := Aside0.mk ((hb.block _ (by simp)).trans (heap_alloc2_new w (.cells #[.int .i64 2, .int .i64 a] 41) (.cells #[.int .i64 2, .int .i64 b] 41)))
  have HB1 := Aside0.mk (((below_alloc1 w _).alloc (by simp) _).trans (hb.mono (by simp; omega)))
  clear hb
  have c0 : w1.cell? ⟨w.heap.size + 1, 0, none⟩ = some (.int .i64 2) := by rw [cell_of_row _ _ 0 _ _ _ HG1.out]; rfl
  have c1 : w1.cell? ⟨w.heap.size + 1, 1, none⟩ = some (.int .i64 b) := by rw [cell_of_row _ _ 1 _ _ _ HG1.out]; rfl
  go_wp2_with fail
  refine (realOf_int _ _).mono ?_
  rintro e w2 ⟨⟨_, rfl⟩, hb2⟩
  have HG2 := Aside0.mk ((hb2.block _ (Array.getElem?_eq_some_iff.1 HG0.out).1).trans HG0.out)
  have HG3 := Aside0.mk ((hb2.block _ (Array.getElem?_eq_some_iff.1 HG1.out).1).trans HG1.out)
  have HB2 := Aside0.mk (HB1.out.trans (hb2.mono HB1.out.size))
  clear hb2 c0 c1
  have c0 : w2.cell? ⟨w.heap.size, 0, none⟩ = some (.int .i64 2) := by rw [cell_of_row _ _ 0 _ _ _ HG2.out]; rfl
  have c1 : w2.cell? ⟨w.heap.size, 1, none⟩ = some (.int .i64 a) := by rw [cell_of_row _ _ 1 _ _ _ HG2.out]; rfl
  have c2 : w2.cell? ⟨w.heap.size + 1, 0, none⟩ = some (.int .i64 2) := by rw [cell_of_row _ _ 0 _ _ _ HG3.out]; rfl
  have c3 : w2.cell? ⟨w.heap.size + 1, 1, none⟩ = some (.int .i64 b) := by rw [cell_of_row _ _ 1 _ _ _ HG3.out]; rfl
  go_wp2_with fail
  · go_ret
    have heq : a = b := by assumption
    exact ⟨by show Ending.returned (.bool true) = _; rw [beq_iff_eq.2 heq], HB2.out⟩
  · have hne : ¬ a = b := by assumption
    go_ret
    exact ⟨by simp [hne], HB2.out⟩
set_option maxRecDepth 100000 in
theorem equal_text (a b : Int) (w : World) : Calls Tryz.prog 75 #[.agg #[.int .i64 4, .int .i64 a], .agg #[.int .i64 4, .int .i64 b]] w fun e w' => e = .returned (.bool (a == b)) ∧ Below w.heap.size w w' := by
  go_enter Tryz.func75, Tryz.ntmps75
  go_wp2_with fail
  refine (realOf_text _ _).mono ?_
  rintro e w1 ⟨rfl, hb⟩
  have HG0 := Aside0.mk ((hb.block _ (by simp; omega)).trans (heap_alloc2_old w (.cells #[.int .i64 4, .int .i64 a] 41) (.cells #[.int .i64 4, .int .i64 b] 41)))
  have HG1 := Aside0.mk ((hb.block _ (by simp)).trans (heap_alloc2_new w (.cells #[.int .i64 4, .int .i64 a] 41) (.cells #[.int .i64 4, .int .i64 b] 41)))
  have HB1 := Aside0.mk (((below_alloc1 w _).alloc (by simp) _).trans (hb.mono (by simp; omega)))
  clear hb
  have c0 : w1.cell? ⟨w.heap.size + 1, 0, none⟩ = some (.int .i64 4) := by rw [cell_of_row _ _ 0 _ _ _ HG1.out]; rfl
  have c1 : w1.cell? ⟨w.heap.size + 1, 1, none⟩ = some (.int .i64 b) := by rw [cell_of_row _ _ 1 _ _ _ HG1.out]; rfl
  go_wp2_with fail
  refine (realOf_text _ _).mono ?_
  rintro e w2 ⟨rfl, hb2⟩
  have HG2 := Aside0.mk ((hb2.block _ (Array.getElem?_eq_some_iff.1 HG0.out).1).trans HG0.out)
  have HG3 := Aside0.mk ((hb2.block _ (Array.getElem?_eq_some_iff.1 HG1.out).1).trans HG1.out)
  have HB2 := Aside0.mk (HB1.out.trans (hb2.mono HB1.out.size))
  clear hb2 c0 c1
  have c0 : w2.cell? ⟨w.heap.size, 0, none⟩ = some (.int .i64 4) := by rw [cell_of_row _ _ 0 _ _ _ HG2.out]; rfl
  have c1 : w2.cell? ⟨w.heap.size, 1, none⟩ = some (.int .i64 a) := by rw [cell_of_row _ _ 1 _ _ _ HG2.out]; rfl
  have c2 : w2.cell? ⟨w.heap.size + 1, 0, none⟩ = some (.int .i64 4) := by rw [cell_of_row _ _ 0 _ _ _ HG3.out]; rfl
  have c3 : w2.cell? ⟨w.heap.size + 1, 1, none⟩ = some (.int .i64 b) := by rw [cell_of_row _ _ 1 _ _ _ HG3.out]; rfl
  go_wp2_with fail
  · go_ret
    have heq : a = b := by assumption
    exact ⟨by show Ending.returned (.bool true) = _; rw [beq_iff_eq.2 heq], HB2.out⟩
  · have hne : ¬ a = b := by assumption
    go_ret
    exact ⟨by simp [hne], HB2.out⟩
end Go.Proofs.YtkeneiahhmbojaaGreatDoor
