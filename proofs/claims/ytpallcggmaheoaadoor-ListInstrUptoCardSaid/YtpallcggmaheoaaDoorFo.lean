/-
  What the code knows of operations: forms and effects.
-/
import Derived.Test.YtpallcggmaheoaaDoorEf
import Derived.Laws.EntriesVeiled
namespace Go.Proofs.YtpallcggmaheoaaDoor
open Go.RowKit Go.MapKept
open Go.Proofs.YtpallcggmaheoaaDoorW.PrintWords Go.Proofs.YtpallcggmaheoaaDoorW.PrintMore

theorem below_calls (n : Int) (w : World) : Calls Tryd.prog 42 #[.int .i64 n] w fun e w' => e = .returned (.func (.func 54) #[] #[.pointer (some ⟨w.heap.size, 0, none⟩)]) ∧ w.alloc (.cells #[.int .i64 n] 2) = w' := by
  go_enter Tryd.func42, Tryd.ntmps42
  go_wp2_with fail
  go_ret
  exact ⟨rfl, rfl⟩
theorem below1_calls (n a : Int) (b : Nat) (w : World) (hc : w.cell? ⟨b, 0, none⟩ = some (.int .i64 n)) : Calls Tryd.prog 54 #[.int .i64 a, .pointer (some ⟨b, 0, none⟩)] w fun e w' => e = .returned (.bool (decide (0 ≤ a ∧ a < n))) ∧ w = w' := by
  by_cases h0 : 0 ≤ a
  · by_cases h1 : a < n
    · have HE := Aside0.mk (decide_eq_true (show 0 ≤ a ∧ a < n from ⟨h0, h1⟩))
      rw [HE.out]
      have d0 : decide (0 ≤ a) = true := decide_eq_true h0
      have d1 : decide (a < n) = true := decide_eq_true h1
      go_enter Tryd.func54, Tryd.ntmps54
      go_wp2_with fail
      go_ret
      exact ⟨rfl, rfl⟩
    · have HE := Aside0.mk (decide_eq_false (show ¬ (0 ≤ a ∧ a < n) from fun h => h1 h.2))
      rw [HE.out]
      have d0 : decide (0 ≤ a) = true := decide_eq_true h0
      have d1 : decide (a < n) = false := decide_eq_false h1
      go_enter Tryd.func54, Tryd.ntmps54
      go_wp2_with fail
      go_ret
      exact ⟨rfl, rfl⟩
  · have HE := Aside0.mk (decide_eq_false (show ¬ (0 ≤ a ∧ a < n) from fun h => h0 h.1))
    rw [HE.out]
    have d0 : decide (0 ≤ a) = false := decide_eq_false h0
    go_enter Tryd.func54, Tryd.ntmps54
    go_wp2_with fail
    go_ret
    exact ⟨rfl, rfl⟩
theorem heap3_first (w : World) (A B C : Obj) : (((w.alloc A).alloc B).alloc C).heap[w.heap.size]? = some A := (Below.heap_alloc _ _ _ (by simp; omega)).trans (heap_alloc2_old w A B)
theorem heap3_last (w : World) (A B C : Obj) : (((w.alloc A).alloc B).alloc C).heap[w.heap.size + 1 + 1]? = some C := by
  have := heap_alloc_last ((w.alloc A).alloc B) C
  rwa [show ((w.alloc A).alloc B).heap.size = w.heap.size + 1 + 1 by simp] at this
theorem below3 (w : World) (A B C : Obj) : Below w.heap.size w (((w.alloc A).alloc B).alloc C) := (((Below.refl _ _).alloc (Nat.le_refl _) _).alloc (by simp) _).alloc (by simp; omega) _
def Form0 (w : World) (e : Ending) (w' : World) : Prop := ∃ x y b, e = .returned (.agg #[x, y, .func (.func 54) #[] #[.pointer (some ⟨b, 0, none⟩)]]) ∧ w'.cell? ⟨b, 0, none⟩ = some (.int .i64 1) ∧ Below w.heap.size w w'
set_option maxRecDepth 100000 in
theorem form_0 (w : World) : Calls Tryd.prog 31 #[.int .u8 0] w (Form0 w) := by
  go_enter Tryd.func31, Tryd.ntmps31
  go_wp2_with fail
  refine (below_calls _ _).mono ?_
  rintro e w1 ⟨rfl, rfl⟩
  go_wp2_with fail
  exact bodyPost_ret (results_cell_row rfl _ _ w.heap.size 68 _ (0, 0) _ rfl (heap3_first w _ _ _) Tryd.underlying68 rfl (by kernel_rfl)) rfl ⟨_, _, _, rfl, by rw [cell_of_row _ _ _ _ _ _ (heap3_last w _ _ _)]; rfl, below3 w _ _ _⟩
def Form1 (w : World) (e : Ending) (w' : World) : Prop := ∃ x y, e = .returned (.agg #[x, y, .func (.func 41) #[] #[]]) ∧ Below w.heap.size w w'
set_option maxRecDepth 100000 in
theorem form_1 (w : World) : Calls Tryd.prog 31 #[.int .u8 1] w (Form1 w) := by
  go_enter Tryd.func31, Tryd.ntmps31
  go_wp2_with fail
  exact bodyPost_ret (results_cell_row rfl _ _ w.heap.size 68 _ (0, 0) _ rfl (heap_alloc2_old w _ _) Tryd.underlying68 rfl (by kernel_rfl)) rfl ⟨_, _, rfl, ((Below.refl _ _).alloc (Nat.le_refl _) _).alloc (by simp) _⟩
def Form2 (w : World) (e : Ending) (w' : World) : Prop := ∃ x y b, e = .returned (.agg #[x, y, .func (.func 54) #[] #[.pointer (some ⟨b, 0, none⟩)]]) ∧ w'.cell? ⟨b, 0, none⟩ = some (.int .i64 2000) ∧ Below w.heap.size w w'
set_option maxRecDepth 100000 in
theorem form_2 (w : World) : Calls Tryd.prog 31 #[.int .u8 2] w (Form2 w) := by
  go_enter Tryd.func31, Tryd.ntmps31
  go_wp2_with fail
  refine (below_calls _ _).mono ?_
  rintro e w1 ⟨rfl, rfl⟩
  go_wp2_with fail
  exact bodyPost_ret (results_cell_row rfl _ _ w.heap.size 68 _ (0, 0) _ rfl (heap3_first w _ _ _) Tryd.underlying68 rfl (by kernel_rfl)) rfl ⟨_, _, _, rfl, by rw [cell_of_row _ _ _ _ _ _ (heap3_last w _ _ _)]; rfl, below3 w _ _ _⟩
def Form3 (w : World) (e : Ending) (w' : World) : Prop := ∃ x y b, e = .returned (.agg #[x, y, .func (.func 54) #[] #[.pointer (some ⟨b, 0, none⟩)]]) ∧ w'.cell? ⟨b, 0, none⟩ = some (.int .i64 64) ∧ Below w.heap.size w w'
set_option maxRecDepth 100000 in
theorem form_3 (w : World) : Calls Tryd.prog 31 #[.int .u8 3] w (Form3 w) := by
  go_enter Tryd.func31, Tryd.ntmps31
  go_wp2_with fail
  refine (below_calls _ _).mono ?_
  rintro e w1 ⟨rfl, rfl⟩
  go_wp2_with fail
  exact bodyPost_ret (results_cell_row rfl _ _ w.heap.size 68 _ (0, 0) _ rfl (heap3_first w _ _ _) Tryd.underlying68 rfl (by kernel_rfl)) rfl ⟨_, _, _, rfl, by rw [cell_of_row _ _ _ _ _ _ (heap3_last w _ _ _)]; rfl, below3 w _ _ _⟩
def Form4 (w : World) (e : Ending) (w' : World) : Prop := ∃ x y b, e = .returned (.agg #[x, y, .func (.func 54) #[] #[.pointer (some ⟨b, 0, none⟩)]]) ∧ w'.cell? ⟨b, 0, none⟩ = some (.int .i64 512) ∧ Below w.heap.size w w'
set_option maxRecDepth 100000 in
theorem form_4 (w : World) : Calls Tryd.prog 31 #[.int .u8 4] w (Form4 w) := by
  go_enter Tryd.func31, Tryd.ntmps31
  go_wp2_with fail
  refine (below_calls _ _).mono ?_
  rintro e w1 ⟨rfl, rfl⟩
  go_wp2_with fail
  exact bodyPost_ret (results_cell_row rfl _ _ w.heap.size 68 _ (0, 0) _ rfl (heap3_first w _ _ _) Tryd.underlying68 rfl (by kernel_rfl)) rfl ⟨_, _, _, rfl, by rw [cell_of_row _ _ _ _ _ _ (heap3_last w _ _ _)]; rfl, below3 w _ _ _⟩
def Form5 (w : World) (e : Ending) (w' : World) : Prop := ∃ x y b, e = .returned (.agg #[x, y, .func (.func 54) #[] #[.pointer (some ⟨b, 0, none⟩)]]) ∧ w'.cell? ⟨b, 0, none⟩ = some (.int .i64 128) ∧ Below w.heap.size w w'
set_option maxRecDepth 100000 in
theorem form_5 (w : World) : Calls Tryd.prog 31 #[.int .u8 5] w (Form5 w) := by
  go_enter Tryd.func31, Tryd.ntmps31
  go_wp2_with fail
  refine (below_calls _ _).mono ?_
  rintro e w1 ⟨rfl, rfl⟩
  go_wp2_with fail
  exact bodyPost_ret (results_cell_row rfl _ _ w.heap.size 68 _ (0, 0) _ rfl (heap3_first w _ _ _) Tryd.underlying68 rfl (by kernel_rfl)) rfl ⟨_, _, _, rfl, by rw [cell_of_row _ _ _ _ _ _ (heap3_last w _ _ _)]; rfl, below3 w _ _ _⟩
def Form6 (w : World) (e : Ending) (w' : World) : Prop := ∃ x y b, e = .returned (.agg #[x, y, .func (.func 54) #[] #[.pointer (some ⟨b, 0, none⟩)]]) ∧ w'.cell? ⟨b, 0, none⟩ = some (.int .i64 64) ∧ Below w.heap.size w w'
set_option maxRecDepth 100000 in
theorem form_6 (w : World) : Calls Tryd.prog 31 #[.int .u8 6] w (Form6 w) := by
  go_enter Tryd.func31, Tryd.ntmps31
  go_wp2_with fail
  refine (below_calls _ _).mono ?_
  rintro e w1 ⟨rfl, rfl⟩
  go_wp2_with fail
  exact bodyPost_ret (results_cell_row rfl _ _ w.heap.size 68 _ (0, 0) _ rfl (heap3_first w _ _ _) Tryd.underlying68 rfl (by kernel_rfl)) rfl ⟨_, _, _, rfl, by rw [cell_of_row _ _ _ _ _ _ (heap3_last w _ _ _)]; rfl, below3 w _ _ _⟩
def Form7 (w : World) (e : Ending) (w' : World) : Prop := ∃ x y, e = .returned (.agg #[x, y, .func (.func 43) #[] #[]]) ∧ Below w.heap.size w w'
set_option maxRecDepth 100000 in
theorem form_7 (w : World) : Calls Tryd.prog 31 #[.int .u8 7] w (Form7 w) := by
  go_enter Tryd.func31, Tryd.ntmps31
  go_wp2_with fail
  exact bodyPost_ret (results_cell_row rfl _ _ w.heap.size 68 _ (0, 0) _ rfl (heap_alloc2_old w _ _) Tryd.underlying68 rfl (by kernel_rfl)) rfl ⟨_, _, rfl, ((Below.refl _ _).alloc (Nat.le_refl _) _).alloc (by simp) _⟩
def Form8 (w : World) (e : Ending) (w' : World) : Prop := ∃ x y, e = .returned (.agg #[x, y, .func (.func 44) #[] #[]]) ∧ Below w.heap.size w w'
set_option maxRecDepth 100000 in
theorem form_8 (w : World) : Calls Tryd.prog 31 #[.int .u8 8] w (Form8 w) := by
  go_enter Tryd.func31, Tryd.ntmps31
  go_wp2_with fail
  exact bodyPost_ret (results_cell_row rfl _ _ w.heap.size 68 _ (0, 0) _ rfl (heap_alloc2_old w _ _) Tryd.underlying68 rfl (by kernel_rfl)) rfl ⟨_, _, rfl, ((Below.refl _ _).alloc (Nat.le_refl _) _).alloc (by simp) _⟩
end Go.Proofs.YtpallcggmaheoaaDoor
