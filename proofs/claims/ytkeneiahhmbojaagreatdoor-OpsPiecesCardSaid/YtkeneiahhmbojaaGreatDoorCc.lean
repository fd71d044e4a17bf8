/-
  compare on two whole numbers, on two texts. (Printed by wip/tools/ops_Cc.py.)
-/
import Derived.Test.YtkeneiahhmbojaaGreatDoorCm
namespace Go.Proofs.YtkeneiahhmbojaaGreatDoor
open Go.RowKit Go.MapKept
open Go.Proofs.YtkeneiahhmbojaaGreatDoorW.PrintWords Go.Proofs.YtkeneiahhmbojaaGreatDoorW.PrintMore

theorem heap3_mid (w : World) (A B C : Obj) : (((w.alloc A).alloc B).alloc C).heap[w.heap.size + 1]? = some B := (Below.heap_alloc _ _ _ (by simp)).trans (heap_alloc2_new w A B)
set_option maxRecDepth 100000 in
set_option maxHeartbeats 4000000 in
theorem cmp_eq_int (p : Value) (g : Nat) (a b : Int) (w : World) (hg : w.heap[g]? = some (.cells #[.int .i64 2, .int .i64 a, .int .i64 2, .int .i64 b] 41 (0, 0))) :
    Calls Tryz.prog 42 #[p, .int .i64 25, .slice (some ⟨g, 0, none⟩) 2 2] w fun e w' => e = .returned (.agg #[.int .i64 1, .int .i64 (b01 (a == b)), .int .i64 0, .bool false]) ∧ Below w.heap.size w w' := by
  have hlt : g < w.heap.size := (Array.getElem?_eq_some_iff.1 hg).1
  have hc : ∀ o1 j, (w.alloc o1).cell? ⟨g, j, none⟩ = #[Value.int .i64 2, .int .i64 a, .int .i64 2, .int .i64 b][j]? := by
    intro o1 j
    rw [cell_of_row _ g j _ 41 (0, 0) ((Below.heap_alloc _ _ _ hlt).trans hg)]
  have hd : ∀ o1 o2 j, ((w.alloc o1).alloc o2).cell? ⟨g, j, none⟩ = #[Value.int .i64 2, .int .i64 a, .int .i64 2, .int .i64 b][j]? := by
    intro o1 o2 j
    rw [cell_of_row _ g j _ 41 (0, 0) ((Below.heap_alloc _ _ _ (by simp <;> omega)).trans ((Below.heap_alloc _ _ _ hlt).trans hg))]
  have c0 := fun o1 => hc o1 0
  have c1 := fun o1 => hc o1 1
  have c2 := fun o1 o2 => hd o1 o2 2
  have c3 := fun o1 o2 => hd o1 o2 3
  clear hc hd hg hlt
  go_enter Tryz.func42, Tryz.ntmps42
  go_wp2_with fail
  refine (equal_int _ _ _).mono ?_
  rintro e w1 ⟨rfl, hb⟩
  have HZ1 := Aside0.mk ((hb.block _ (by simp <;> omega)).trans (heap3_first w (.cells #[.int .i64 0, .int .i64 0, .int .i64 0, .bool false] 90) (.cells #[.int .i64 2, .int .i64 a] 41) (.cells #[.int .i64 2, .int .i64 b] 41)))
  have HA1 := Aside0.mk ((hb.block _ (by simp <;> omega)).trans (heap3_mid w (.cells #[.int .i64 0, .int .i64 0, .int .i64 0, .bool false] 90) (.cells #[.int .i64 2, .int .i64 a] 41) (.cells #[.int .i64 2, .int .i64 b] 41)))
  have HC1 := Aside0.mk ((hb.block _ (by simp <;> omega)).trans (heap3_last w (.cells #[.int .i64 0, .int .i64 0, .int .i64 0, .bool false] 90) (.cells #[.int .i64 2, .int .i64 a] 41) (.cells #[.int .i64 2, .int .i64 b] 41)))
  have HB1 := Aside0.mk ((below3 w (.cells #[.int .i64 0, .int .i64 0, .int .i64 0, .bool false] 90) (.cells #[.int .i64 2, .int .i64 a] 41) (.cells #[.int .i64 2, .int .i64 b] 41)).trans (hb.mono (by simp <;> omega)))
  clear hb
  clear c0 c1 c2 c3
  obtain ⟨x, hx⟩ : ∃ x : Bool, x = (a == b) := ⟨_, rfl⟩
  rw [← hx]
  have HX := Aside0.mk hx
  clear hx
  have hxx : (x == true) = x := by simp
  go_wp2_with fail
  refine (otruth _ _).mono ?_
  rintro e w9 ⟨rfl, hb9⟩
  have HG9 := Aside0.mk ((hb9.block _ (Array.getElem?_eq_some_iff.1 HZ1.out).1).trans HZ1.out)
  have HB9 := Aside0.mk (HB1.out.trans (hb9.mono HB1.out.size))
  clear hb9
  go_wp2_with (with_reducible refine wpList_store_row rfl 90 _ _ rfl w.heap.size #[.int .i64 1, .int .i64 (b01 (x)), .int .i64 0, .bool false] rfl rfl 90 _ HG9.out (by kernel_rfl) (by kernel_rfl) (by kernel_rfl) ?_)
  exact bodyPost_ret (results_cell_row rfl _ _ w.heap.size 90 _ (0, 0) _ rfl (setRow_heap _ _ _ _ _ _ HG9.out) Tryz.underlying90 rfl (by kernel_rfl)) rfl ⟨by rw [HX.out], below_setRow HB9.out (Nat.le_refl _) _⟩
set_option maxRecDepth 100000 in
set_option maxHeartbeats 4000000 in
theorem cmp_ne_int (p : Value) (g : Nat) (a b : Int) (w : World) (hg : w.heap[g]? = some (.cells #[.int .i64 2, .int .i64 a, .int .i64 2, .int .i64 b] 41 (0, 0))) :
    Calls Tryz.prog 42 #[p, .int .i64 26, .slice (some ⟨g, 0, none⟩) 2 2] w fun e w' => e = .returned (.agg #[.int .i64 1, .int .i64 (b01 (!(a == b))), .int .i64 0, .bool false]) ∧ Below w.heap.size w w' := by
  have hlt : g < w.heap.size := (Array.getElem?_eq_some_iff.1 hg).1
  have hc : ∀ o1 j, (w.alloc o1).cell? ⟨g, j, none⟩ = #[Value.int .i64 2, .int .i64 a, .int .i64 2, .int .i64 b][j]? := by
    intro o1 j
    rw [cell_of_row _ g j _ 41 (0, 0) ((Below.heap_alloc _ _ _ hlt).trans hg)]
  have hd : ∀ o1 o2 j, ((w.alloc o1).alloc o2).cell? ⟨g, j, none⟩ = #[Value.int .i64 2, .int .i64 a, .int .i64 2, .int .i64 b][j]? := by
    intro o1 o2 j
    rw [cell_of_row _ g j _ 41 (0, 0) ((Below.heap_alloc _ _ _ (by simp <;> omega)).trans ((Below.heap_alloc _ _ _ hlt).trans hg))]
  have c0 := fun o1 => hc o1 0
  have c1 := fun o1 => hc o1 1
  have c2 := fun o1 o2 => hd o1 o2 2
  have c3 := fun o1 o2 => hd o1 o2 3
  clear hc hd hg hlt
  go_enter Tryz.func42, Tryz.ntmps42
  go_wp2_with fail
  refine (equal_int _ _ _).mono ?_
  rintro e w1 ⟨rfl, hb⟩
  have HZ1 := Aside0.mk ((hb.block _ (by simp <;> omega)).trans (heap3_first w (.cells #[.int .i64 0, .int .i64 0, .int .i64 0, .bool false] 90) (.cells #[.int .i64 2, .int .i64 a] 41) (.cells #[.int .i64 2, .int .i64 b] 41)))
  have HA1 := Aside0.mk ((hb.block _ (by simp <;> omega)).trans (heap3_mid w (.cells #[.int .i64 0, .int .i64 0, .int .i64 0, .bool false] 90) (.cells #[.int .i64 2, .int .i64 a] 41) (.cells #[.int .i64 2, .int .i64 b] 41)))
  have HC1 := Aside0.mk ((hb.block _ (by simp <;> omega)).trans (heap3_last w (.cells #[.int .i64 0, .int .i64 0, .int .i64 0, .bool false] 90) (.cells #[.int .i64 2, .int .i64 a] 41) (.cells #[.int .i64 2, .int .i64 b] 41)))
  have HB1 := Aside0.mk ((below3 w (.cells #[.int .i64 0, .int .i64 0, .int .i64 0, .bool false] 90) (.cells #[.int .i64 2, .int .i64 a] 41) (.cells #[.int .i64 2, .int .i64 b] 41)).trans (hb.mono (by simp <;> omega)))
  clear hb
  clear c0 c1 c2 c3
  obtain ⟨x, hx⟩ : ∃ x : Bool, x = (a == b) := ⟨_, rfl⟩
  rw [← hx]
  have HX := Aside0.mk hx
  clear hx
  have hxx : (x == false) = !x := by simp
  go_wp2_with fail
  refine (otruth _ _).mono ?_
  rintro e w9 ⟨rfl, hb9⟩
  have HG9 := Aside0.mk ((hb9.block _ (Array.getElem?_eq_some_iff.1 HZ1.out).1).trans HZ1.out)
  have HB9 := Aside0.mk (HB1.out.trans (hb9.mono HB1.out.size))
  clear hb9
  go_wp2_with (with_reducible refine wpList_store_row rfl 90 _ _ rfl w.heap.size #[.int .i64 1, .int .i64 (b01 (!x)), .int .i64 0, .bool false] rfl rfl 90 _ HG9.out (by kernel_rfl) (by kernel_rfl) (by kernel_rfl) ?_)
  exact bodyPost_ret (results_cell_row rfl _ _ w.heap.size 90 _ (0, 0) _ rfl (setRow_heap _ _ _ _ _ _ HG9.out) Tryz.underlying90 rfl (by kernel_rfl)) rfl ⟨by rw [HX.out], below_setRow HB9.out (Nat.le_refl _) _⟩
set_option maxRecDepth 100000 in
set_option maxHeartbeats 4000000 in
theorem cmp_eq_text (p : Value) (g : Nat) (a b : Int) (w : World) (hg : w.heap[g]? = some (.cells #[.int .i64 4, .int .i64 a, .int .i64 4, .int .i64 b] 41 (0, 0))) :
    Calls Tryz.prog 42 #[p, .int .i64 25, .slice (some ⟨g, 0, none⟩) 2 2] w fun e w' => e = .returned (.agg #[.int .i64 1, .int .i64 (b01 (a == b)), .int .i64 0, .bool false]) ∧ Below w.heap.size w w' := by
  have hlt : g < w.heap.size := (Array.getElem?_eq_some_iff.1 hg).1
  have hc : ∀ o1 j, (w.alloc o1).cell? ⟨g, j, none⟩ = #[Value.int .i64 4, .int .i64 a, .int .i64 4, .int .i64 b][j]? := by
    intro o1 j
    rw [cell_of_row _ g j _ 41 (0, 0) ((Below.heap_alloc _ _ _ hlt).trans hg)]
  have hd : ∀ o1 o2 j, ((w.alloc o1).alloc o2).cell? ⟨g, j, none⟩ = #[Value.int .i64 4, .int .i64 a, .int .i64 4, .int .i64 b][j]? := by
    intro o1 o2 j
    rw [cell_of_row _ g j _ 41 (0, 0) ((Below.heap_alloc _ _ _ (by simp <;> omega)).trans ((Below.heap_alloc _ _ _ hlt).trans hg))]
  have c0 := fun o1 => hc o1 0
  have c1 := fun o1 => hc o1 1
  have c2 := fun o1 o2 => hd o1 o2 2
  have c3 := fun o1 o2 => hd o1 o2 3
  clear hc hd hg hlt
  go_enter Tryz.func42, Tryz.ntmps42
  go_wp2_with fail
  refine (equal_text _ _ _).mono ?_
  rintro e w1 ⟨rfl, hb⟩
  have HZ1 := Aside0.mk ((hb.block _ (by simp <;> omega)).trans (heap3_first w (.cells #[.int .i64 0, .int .i64 0, .int .i64 0, .bool false] 90) (.cells #[.int .i64 4, .int .i64 a] 41) (.cells #[.int .i64 4, .int .i64 b] 41)))
  have HA1 := Aside0.mk ((hb.block _ (by simp <;> omega)).trans (heap3_mid w (.cells #[.int .i64 0, .int .i64 0, .int .i64 0, .bool false] 90) (.cells #[.int .i64 4, .int .i64 a] 41) (.cells #[.int .i64 4, .int .i64 b] 41)))
  have HC1 := Aside0.mk ((hb.block _ (by simp <;> omega)).trans (heap3_last w (.cells #[.int .i64 0, .int .i64 0, .int .i64 0, .bool false] 90) (.cells #[.int .i64 4, .int .i64 a] 41) (.cells #[.int .i64 4, .int .i64 b] 41)))
  have HB1 := Aside0.mk ((below3 w (.cells #[.int .i64 0, .int .i64 0, .int .i64 0, .bool false] 90) (.cells #[.int .i64 4, .int .i64 a] 41) (.cells #[.int .i64 4, .int .i64 b] 41)).trans (hb.mono (by simp <;> omega)))
  clear hb
  clear c0 c1 c2 c3
  obtain ⟨x, hx⟩ : ∃ x : Bool, x = (a == b) := ⟨_, rfl⟩
  rw [← hx]
  have HX := Aside0.mk hx
  clear hx
  have hxx : (x == true) = x := by simp
  go_wp2_with fail
  refine (otruth _ _).mono ?_
  rintro e w9 ⟨rfl, hb9⟩
  have HG9 := Aside0.mk ((hb9.block _ (Array.getElem?_eq_some_iff.1 HZ1.out).1).trans HZ1.out)
  have HB9 := Aside0.mk (HB1.out.trans (hb9.mono HB1.out.size))
  clear hb9
  go_wp2_with (with_reducible refine wpList_store_row rfl 90 _ _ rfl w.heap.size #[.int .i64 1, .int .i64 (b01 (x)), .int .i64 0, .bool false] rfl rfl 90 _ HG9.out (by kernel_rfl) (by kernel_rfl) (by kernel_rfl) ?_)
  exact bodyPost_ret (results_cell_row rfl _ _ w.heap.size 90 _ (0, 0) _ rfl (setRow_heap _ _ _ _ _ _ HG9.out) Tryz.underlying90 rfl (by kernel_rfl)) rfl ⟨by rw [HX.out], below_setRow HB9.out (Nat.le_refl _) _⟩
set_option maxRecDepth 100000 in
set_option maxHeartbeats 4000000 in
theorem cmp_ne_text (p : Value) (g : Nat) (a b : Int) (w : World) (hg : w.heap[g]? = some (.cells #[.int .i64 4, .int .i64 a, .int .i64 4, .int .i64 b] 41 (0, 0))) :
    Calls Tryz.prog 42 #[p, .int .i64 26, .slice (some ⟨g, 0, none⟩) 2 2] w fun e w' => e = .returned (.agg #[.int .i64 1, .int .i64 (b01 (!(a == b))), .int .i64 0, .bool false]) ∧ Below w.heap.size w w' := by
  have hlt : g < w.heap.size := (Array.getElem?_eq_some_iff.1 hg).1
  have hc : ∀ o1 j, (w.alloc o1).cell? ⟨g, j, none⟩ = #[Value.int .i64 4, .int .i64 a, .int .i64 4, .int .i64 b][j]? := by
    intro o1 j
    rw [cell_of_row _ g j _ 41 (0, 0) ((Below.heap_alloc _ _ _ hlt).trans hg)]
  have hd : ∀ o1 o2 j, ((w.alloc o1).alloc o2).cell? ⟨g, j, none⟩ = #[Value.int .i64 4, .int .i64 a, .int .i64 4, .int .i64 b][j]? := by
    intro o1 o2 j
    rw [cell_of_row _ g j _ 41 (0, 0) ((Below.heap_alloc _ _ _ (by simp <;> omega)).trans ((Below.heap_alloc _ _ _ hlt).trans hg))]
  have c0 := fun o1 => hc o1 0
  have c1 := fun o1 => hc o1 1
  have c2 := fun o1 o2 => hd o1 o2 2
  have c3 := fun o1 o2 => hd o1 o2 3
  clear hc hd hg hlt
  go_enter Tryz.func42, Tryz.ntmps42
  go_wp2_with fail
  refine (equal_text _ _ _).mono ?_
  rintro e w1 ⟨rfl, hb⟩
  have HZ1 := Aside0.mk ((hb.block _ (by simp <;> omega)).trans (heap3_first w (.cells #[.int .i64 0, .int .i64 0, .int .i64 0, .bool false] 90) (.cells #[.int .i64 4, .int .i64 a] 41) (.cells #[.int .i64 4, .int .i64 b] 41)))
  have HA1 := Aside0.mk ((hb.block _ (by simp <;> omega)).trans (heap3_mid w (.cells #[.int .i64 0, .int .i64 0, .int .i64 0, .bool false] 90) (.cells #[.int .i64 4, .int .i64 a] 41) (.cells #[.int .i64 4, .int .i64 b] 41)))
  have HC1 := Aside0.mk ((hb.block _ (by simp <;> omega)).trans (heap3_last w (.cells #[.int .i64 0, .int .i64 0, .int .i64 0, .bool false] 90) (.cells #[.int .i64 4, .int .i64 a] 41) (.cells #[.int .i64 4, .int .i64 b] 41)))
  have HB1 := Aside0.mk ((below3 w (.cells #[.int .i64 0, .int .i64 0, .int .i64 0, .bool false] 90) (.cells #[.int .i64 4, .int .i64 a] 41) (.cells #[.int .i64 4, .int .i64 b] 41)).trans (hb.mono (by simp <;> omega)))
  clear hb
  clear c0 c1 c2 c3
  obtain ⟨x, hx⟩ : ∃ x : Bool, x = (a == b) := ⟨_, rfl⟩
  rw [← hx]
  have HX := Aside0.mk hx
  clear hx
  have hxx : (x == false) = !x := by simp
  go_wp2_with fail
  refine (otruth _ _).mono ?_
  rintro e w9 ⟨rfl, hb9⟩
  have HG9 := Aside0.mk ((hb9.block _ (Array.getElem?_eq_some_iff.1 HZ1.out).1).trans HZ1.out)
  have HB9 := Aside0.mk (HB1.out.trans (hb9.mono HB1.out.size))
  clear hb9
  go_wp2_with (with_reducible refine wpList_store_row rfl 90 _ _ rfl w.heap.size #[.int .i64 1, .int .i64 (b01 (!x)), .int .i64 0, .bool false] rfl rfl 90 _ HG9.out (by kernel_rfl) (by kernel_rfl) (by kernel_rfl) ?_)
  exact bodyPost_ret (results_cell_row rfl _ _ w.heap.size 90 _ (0, 0) _ rfl (setRow_heap _ _ _ _ _ _ HG9.out) Tryz.underlying90 rfl (by kernel_rfl)) rfl ⟨by rw [HX.out], below_setRow HB9.out (Nat.le_refl _) _⟩
set_option maxRecDepth 100000 in
set_option maxHeartbeats 4000000 in
theorem cmp_lt_int_l (p : Value) (g : Nat) (a b : Int) (w : World) (hab : a < b) (hg : w.heap[g]? = some (.cells #[.int .i64 2, .int .i64 a, .int .i64 2, .int .i64 b] 41 (0, 0))) :
    Calls Tryz.prog 42 #[p, .int .i64 27, .slice (some ⟨g, 0, none⟩) 2 2] w fun e w' => e = .returned (.agg #[.int .i64 1, .int .i64 (b01 (true)), .int .i64 0, .bool false]) ∧ Below w.heap.size w w' := by
  have HAB := Aside0.mk hab
  have hlt : g < w.heap.size := (Array.getElem?_eq_some_iff.1 hg).1
  have hc : ∀ o1 j, (w.alloc o1).cell? ⟨g, j, none⟩ = #[Value.int .i64 2, .int .i64 a, .int .i64 2, .int .i64 b][j]? := by
    intro o1 j
    rw [cell_of_row _ g j _ 41 (0, 0) ((Below.heap_alloc _ _ _ hlt).trans hg)]
  have hd : ∀ o1 o2 j, ((w.alloc o1).alloc o2).cell? ⟨g, j, none⟩ = #[Value.int .i64 2, .int .i64 a, .int .i64 2, .int .i64 b][j]? := by
    intro o1 o2 j
    rw [cell_of_row _ g j _ 41 (0, 0) ((Below.heap_alloc _ _ _ (by simp <;> omega)).trans ((Below.heap_alloc _ _ _ hlt).trans hg))]
  have c0 := fun o1 => hc o1 0
  have c1 := fun o1 => hc o1 1
  have c2 := fun o1 o2 => hd o1 o2 2
  have c3 := fun o1 o2 => hd o1 o2 3
  clear hc hd hg hlt hab
  go_enter Tryz.func42, Tryz.ntmps42
  go_wp2_with fail
  refine (realOf_int _ _).mono ?_
  rintro e w1 ⟨⟨_, rfl⟩, hb⟩
  have HZ1 := Aside0.mk ((hb.block _ (by simp <;> omega)).trans (heap3_first w (.cells #[.int .i64 0, .int .i64 0, .int .i64 0, .bool false] 90) (.cells #[.int .i64 2, .int .i64 a] 41) (.cells #[.int .i64 2, .int .i64 b] 41)))
  have HA1 := Aside0.mk ((hb.block _ (by simp <;> omega)).trans (heap3_mid w (.cells #[.int .i64 0, .int .i64 0, .int .i64 0, .bool false] 90) (.cells #[.int .i64 2, .int .i64 a] 41) (.cells #[.int .i64 2, .int .i64 b] 41)))
  have HC1 := Aside0.mk ((hb.block _ (by simp <;> omega)).trans (heap3_last w (.cells #[.int .i64 0, .int .i64 0, .int .i64 0, .bool false] 90) (.cells #[.int .i64 2, .int .i64 a] 41) (.cells #[.int .i64 2, .int .i64 b] 41)))
  have HB1 := Aside0.mk ((below3 w (.cells #[.int .i64 0, .int .i64 0, .int .i64 0, .bool false] 90) (.cells #[.int .i64 2, .int .i64 a] 41) (.cells #[.int .i64 2, .int .i64 b] 41)).trans (hb.mono (by simp <;> omega)))
  clear hb
  clear c0 c1 c2 c3
  have c0 : w1.cell? ⟨w.heap.size + 1, 0, none⟩ = some (.int .i64 2) := by rw [cell_of_row _ _ 0 _ _ _ HA1.out]; rfl
  have c1 : w1.cell? ⟨w.heap.size + 1, 1, none⟩ = some (.int .i64 a) := by rw [cell_of_row _ _ 1 _ _ _ HA1.out]; rfl
  have c2 : w1.cell? ⟨w.heap.size + 1 + 1, 0, none⟩ = some (.int .i64 2) := by rw [cell_of_row _ _ 0 _ _ _ HC1.out]; rfl
  have c3 : w1.cell? ⟨w.heap.size + 1 + 1, 1, none⟩ = some (.int .i64 b) := by rw [cell_of_row _ _ 1 _ _ _ HC1.out]; rfl
  go_wp2_with fail
  refine (realOf_int _ _).mono ?_
  rintro e w2 ⟨⟨_, rfl⟩, hb⟩
  have HZ2 := Aside0.mk ((hb.block _ (Array.getElem?_eq_some_iff.1 HZ1.out).1).trans HZ1.out)
  have HA2 := Aside0.mk ((hb.block _ (Array.getElem?_eq_some_iff.1 HA1.out).1).trans HA1.out)
  have HC2 := Aside0.mk ((hb.block _ (Array.getElem?_eq_some_iff.1 HC1.out).1).trans HC1.out)
  have HB2 := Aside0.mk (HB1.out.trans (hb.mono HB1.out.size))
  clear hb
  clear c0 c1 c2 c3
  have c0 : w2.cell? ⟨w.heap.size + 1, 0, none⟩ = some (.int .i64 2) := by rw [cell_of_row _ _ 0 _ _ _ HA2.out]; rfl
  have c1 : w2.cell? ⟨w.heap.size + 1, 1, none⟩ = some (.int .i64 a) := by rw [cell_of_row _ _ 1 _ _ _ HA2.out]; rfl
  have c2 : w2.cell? ⟨w.heap.size + 1 + 1, 0, none⟩ = some (.int .i64 2) := by rw [cell_of_row _ _ 0 _ _ _ HC2.out]; rfl
  have c3 : w2.cell? ⟨w.heap.size + 1 + 1, 1, none⟩ = some (.int .i64 b) := by rw [cell_of_row _ _ 1 _ _ _ HC2.out]; rfl
  have f1 : decide (a < b) = true := decide_eq_true HAB.out
  have f2 : (a == b) = false := beq_eq_false_iff_ne.2 (by have := HAB.out; omega)
  go_wp2_with fail
  refine (otruth _ _).mono ?_
  rintro e w9 ⟨rfl, hb9⟩
  have HG9 := Aside0.mk ((hb9.block _ (Array.getElem?_eq_some_iff.1 HZ2.out).1).trans HZ2.out)
  have HB9 := Aside0.mk (HB2.out.trans (hb9.mono HB2.out.size))
  clear hb9
  go_wp2_with (with_reducible refine wpList_store_row rfl 90 _ _ rfl w.heap.size #[.int .i64 1, .int .i64 (b01 (true)), .int .i64 0, .bool false] rfl rfl 90 _ HG9.out (by kernel_rfl) (by kernel_rfl) (by kernel_rfl) ?_)
  exact bodyPost_ret (results_cell_row rfl _ _ w.heap.size 90 _ (0, 0) _ rfl (setRow_heap _ _ _ _ _ _ HG9.out) Tryz.underlying90 rfl (by kernel_rfl)) rfl ⟨rfl, below_setRow HB9.out (Nat.le_refl _) _⟩
set_option maxRecDepth 100000 in
set_option maxHeartbeats 4000000 in
theorem cmp_lt_int_e (p : Value) (g : Nat) (a b : Int) (w : World) (hab : a = b) (hg : w.heap[g]? = some (.cells #[.int .i64 2, .int .i64 a, .int .i64 2, .int .i64 b] 41 (0, 0))) :
    Calls Tryz.prog 42 #[p, .int .i64 27, .slice (some ⟨g, 0, none⟩) 2 2] w fun e w' => e = .returned (.agg #[.int .i64 1, .int .i64 (b01 (false)), .int .i64 0, .bool false]) ∧ Below w.heap.size w w' := by
  have HAB := Aside0.mk hab
  have hlt : g < w.heap.size := (Array.getElem?_eq_some_iff.1 hg).1
  have hc : ∀ o1 j, (w.alloc o1).cell? ⟨g, j, none⟩ = #[Value.int .i64 2, .int .i64 a, .int .i64 2, .int .i64 b][j]? := by
    intro o1 j
    rw [cell_of_row _ g j _ 41 (0, 0) ((Below.heap_alloc _ _ _ hlt).trans hg)]
  have hd : ∀ o1 o2 j, ((w.alloc o1).alloc o2).cell? ⟨g, j, none⟩ = #[Value.int .i64 2, .int .i64 a, .int .i64 2, .int .i64 b][j]? := by
    intro o1 o2 j
    rw [cell_of_row _ g j _ 41 (0, 0) ((Below.heap_alloc _ _ _ (by simp <;> omega)).trans ((Below.heap_alloc _ _ _ hlt).trans hg))]
  have c0 := fun o1 => hc o1 0
  have c1 := fun o1 => hc o1 1
  have c2 := fun o1 o2 => hd o1 o2 2
  have c3 := fun o1 o2 => hd o1 o2 3
  clear hc hd hg hlt hab
  go_enter Tryz.func42, Tryz.ntmps42
  go_wp2_with fail
  refine (realOf_int _ _).mono ?_
  rintro e w1 ⟨⟨_, rfl⟩, hb⟩
  have HZ1 := Aside0.mk ((hb.block _ (by simp <;> omega)).trans (heap3_first w (.cells #[.int .i64 0, .int .i64 0, .int .i64 0, .bool false] 90) (.cells #[.int .i64 2, .int .i64 a] 41) (.cells #[.int .i64 2, .int .i64 b] 41)))
  have HA1 := Aside0.mk ((hb.block _ (by simp <;> omega)).trans (heap3_mid w (.cells #[.int .i64 0, .int .i64 0, .int .i64 0, .bool false] 90) (.cells #[.int .i64 2, .int .i64 a] 41) (.cells #[.int .i64 2, .int .i64 b] 41)))
  have HC1 := Aside0.mk ((hb.block _ (by simp <;> omega)).trans (heap3_last w (.cells #[.int .i64 0, .int .i64 0, .int .i64 0, .bool false] 90) (.cells #[.int .i64 2, .int .i64 a] 41) (.cells #[.int .i64 2, .int .i64 b] 41)))
  have HB1 := Aside0.mk ((below3 w (.cells #[.int .i64 0, .int .i64 0, .int .i64 0, .bool false] 90) (.cells #[.int .i64 2, .int .i64 a] 41) (.cells #[.int .i64 2, .int .i64 b] 41)).trans (hb.mono (by simp <;> omega)))
  clear hb
  clear c0 c1 c2 c3
  have c0 : w1.cell? ⟨w.heap.size + 1, 0, none⟩ = some (.int .i64 2) := by rw [cell_of_row _ _ 0 _ _ _ HA1.out]; rfl
  have c1 : w1.cell? ⟨w.heap.size + 1, 1, none⟩ = some (.int .i64 a) := by rw [cell_of_row _ _ 1 _ _ _ HA1.out]; rfl
  have c2 : w1.cell? ⟨w.heap.size + 1 + 1, 0, none⟩ = some (.int .i64 2) := by rw [cell_of_row _ _ 0 _ _ _ HC1.out]; rfl
  have c3 : w1.cell? ⟨w.heap.size + 1 + 1, 1, none⟩ = some (.int .i64 b) := by rw [cell_of_row _ _ 1 _ _ _ HC1.out]; rfl
  go_wp2_with fail
  refine (realOf_int _ _).mono ?_
  rintro e w2 ⟨⟨_, rfl⟩, hb⟩
  have HZ2 := Aside0.mk ((hb.block _ (Array.getElem?_eq_some_iff.1 HZ1.out).1).trans HZ1.out)
  have HA2 := Aside0.mk ((hb.block _ (Array.getElem?_eq_some_iff.1 HA1.out).1).trans HA1.out)
  have HC2 := Aside0.mk ((hb.block _ (Array.getElem?_eq_some_iff.1 HC1.out).1).trans HC1.out)
  have HB2 := Aside0.mk (HB1.out.trans (hb.mono HB1.out.size))
  clear hb
  clear c0 c1 c2 c3
  have c0 : w2.cell? ⟨w.heap.size + 1, 0, none⟩ = some (.int .i64 2) := by rw [cell_of_row _ _ 0 _ _ _ HA2.out]; rfl
  have c1 : w2.cell? ⟨w.heap.size + 1, 1, none⟩ = some (.int .i64 a) := by rw [cell_of_row _ _ 1 _ _ _ HA2.out]; rfl
  have c2 : w2.cell? ⟨w.heap.size + 1 + 1, 0, none⟩ = some (.int .i64 2) := by rw [cell_of_row _ _ 0 _ _ _ HC2.out]; rfl
  have c3 : w2.cell? ⟨w.heap.size + 1 + 1, 1, none⟩ = some (.int .i64 b) := by rw [cell_of_row _ _ 1 _ _ _ HC2.out]; rfl
  have f1 : decide (a < b) = false := decide_eq_false (by have := HAB.out; omega)
  have f2 : (a == b) = true := beq_iff_eq.2 HAB.out
  go_wp2_with fail
  refine (otruth _ _).mono ?_
  rintro e w9 ⟨rfl, hb9⟩
  have HG9 := Aside0.mk ((hb9.block _ (Array.getElem?_eq_some_iff.1 HZ2.out).1).trans HZ2.out)
  have HB9 := Aside0.mk (HB2.out.trans (hb9.mono HB2.out.size))
  clear hb9
  go_wp2_with (with_reducible refine wpList_store_row rfl 90 _ _ rfl w.heap.size #[.int .i64 1, .int .i64 (b01 (false)), .int .i64 0, .bool false] rfl rfl 90 _ HG9.out (by kernel_rfl) (by kernel_rfl) (by kernel_rfl) ?_)
  exact bodyPost_ret (results_cell_row rfl _ _ w.heap.size 90 _ (0, 0) _ rfl (setRow_heap _ _ _ _ _ _ HG9.out) Tryz.underlying90 rfl (by kernel_rfl)) rfl ⟨rfl, below_setRow HB9.out (Nat.le_refl _) _⟩
set_option maxRecDepth 100000 in
set_option maxHeartbeats 4000000 in
theorem cmp_lt_int_g (p : Value) (g : Nat) (a b : Int) (w : World) (hab : b < a) (hg : w.heap[g]? = some (.cells #[.int .i64 2, .int .i64 a, .int .i64 2, .int .i64 b] 41 (0, 0))) :
    Calls Tryz.prog 42 #[p, .int .i64 27, .slice (some ⟨g, 0, none⟩) 2 2] w fun e w' => e = .returned (.agg #[.int .i64 1, .int .i64 (b01 (false)), .int .i64 0, .bool false]) ∧ Below w.heap.size w w' := by
  have HAB := Aside0.mk hab
  have hlt : g < w.heap.size := (Array.getElem?_eq_some_iff.1 hg).1
  have hc : ∀ o1 j, (w.alloc o1).cell? ⟨g, j, none⟩ = #[Value.int .i64 2, .int .i64 a, .int .i64 2, .int .i64 b][j]? := by
    intro o1 j
    rw [cell_of_row _ g j _ 41 (0, 0) ((Below.heap_alloc _ _ _ hlt).trans hg)]
  have hd : ∀ o1 o2 j, ((w.alloc o1).alloc o2).cell? ⟨g, j, none⟩ = #[Value.int .i64 2, .int .i64 a, .int .i64 2, .int .i64 b][j]? := by
    intro o1 o2 j
    rw [cell_of_row _ g j _ 41 (0, 0) ((Below.heap_alloc _ _ _ (by simp <;> omega)).trans ((Below.heap_alloc _ _ _ hlt).trans hg))]
  have c0 := fun o1 => hc o1 0
  have c1 := fun o1 => hc o1 1
  have c2 := fun o1 o2 => hd o1 o2 2
  have c3 := fun o1 o2 => hd o1 o2 3
  clear hc hd hg hlt hab
  go_enter Tryz.func42, Tryz.ntmps42
  go_wp2_with fail
  refine (realOf_int _ _).mono ?_
  rintro e w1 ⟨⟨_, rfl⟩, hb⟩
  have HZ1 := Aside0.mk ((hb.block _ (by simp <;> omega)).trans (heap3_first w (.cells #[.int .i64 0, .int .i64 0, .int .i64 0, .bool false] 90) (.cells #[.int .i64 2, .int .i64 a] 41) (.cells #[.int .i64 2, .int .i64 b] 41)))
  have HA1 := Aside0.mk ((hb.block _ (by simp <;> omega)).trans (heap3_mid w (.cells #[.int .i64 0, .int .i64 0, .int .i64 0, .bool false] 90) (.cells #[.int .i64 2, .int .i64 a] 41) (.cells #[.int .i64 2, .int .i64 b] 41)))
  have HC1 := Aside0.mk ((hb.block _ (by simp <;> omega)).trans (heap3_last w (.cells #[.int .i64 0, .int .i64 0, .int .i64 0, .bool false] 90) (.cells #[.int .i64 2, .int .i64 a] 41) (.cells #[.int .i64 2, .int .i64 b] 41)))
  have HB1 := Aside0.mk ((below3 w (.cells #[.int .i64 0, .int .i64 0, .int .i64 0, .bool false] 90) (.cells #[.int .i64 2, .int .i64 a] 41) (.cells #[.int .i64 2, .int .i64 b] 41)).trans (hb.mono (by simp <;> omega)))
  clear hb
  clear c0 c1 c2 c3
  have c0 : w1.cell? ⟨w.heap.size + 1, 0, none⟩ = some (.int .i64 2) := by rw [cell_of_row _ _ 0 _ _ _ HA1.out]; rfl
  have c1 : w1.cell? ⟨w.heap.size + 1, 1, none⟩ = some (.int .i64 a) := by rw [cell_of_row _ _ 1 _ _ _ HA1.out]; rfl
  have c2 : w1.cell? ⟨w.heap.size + 1 + 1, 0, none⟩ = some (.int .i64 2) := by rw [cell_of_row _ _ 0 _ _ _ HC1.out]; rfl
  have c3 : w1.cell? ⟨w.heap.size + 1 + 1, 1, none⟩ = some (.int .i64 b) := by rw [cell_of_row _ _ 1 _ _ _ HC1.out]; rfl
  go_wp2_with fail
  refine (realOf_int _ _).mono ?_
  rintro e w2 ⟨⟨_, rfl⟩, hb⟩
  have HZ2 := Aside0.mk ((hb.block _ (Array.getElem?_eq_some_iff.1 HZ1.out).1).trans HZ1.out)
  have HA2 := Aside0.mk ((hb.block _ (Array.getElem?_eq_some_iff.1 HA1.out).1).trans HA1.out)
  have HC2 := Aside0.mk ((hb.block _ (Array.getElem?_eq_some_iff.1 HC1.out).1).trans HC1.out)
  have HB2 := Aside0.mk (HB1.out.trans (hb.mono HB1.out.size))
  clear hb
  clear c0 c1 c2 c3
  have c0 : w2.cell? ⟨w.heap.size + 1, 0, none⟩ = some (.int .i64 2) := by rw [cell_of_row _ _ 0 _ _ _ HA2.out]; rfl
  have c1 : w2.cell? ⟨w.heap.size + 1, 1, none⟩ = some (.int .i64 a) := by rw [cell_of_row _ _ 1 _ _ _ HA2.out]; rfl
  have c2 : w2.cell? ⟨w.heap.size + 1 + 1, 0, none⟩ = some (.int .i64 2) := by rw [cell_of_row _ _ 0 _ _ _ HC2.out]; rfl
  have c3 : w2.cell? ⟨w.heap.size + 1 + 1, 1, none⟩ = some (.int .i64 b) := by rw [cell_of_row _ _ 1 _ _ _ HC2.out]; rfl
  have f1 : decide (a < b) = false := decide_eq_false (by have := HAB.out; omega)
  have f2 : (a == b) = false := beq_eq_false_iff_ne.2 (by have := HAB.out; omega)
  go_wp2_with fail
  refine (otruth _ _).mono ?_
  rintro e w9 ⟨rfl, hb9⟩
  have HG9 := Aside0.mk ((hb9.block _ (Array.getElem?_eq_some_iff.1 HZ2.out).1).trans HZ2.out)
  have HB9 := Aside0.mk (HB2.out.trans (hb9.mono HB2.out.size))
  clear hb9
  go_wp2_with (with_reducible refine wpList_store_row rfl 90 _ _ rfl w.heap.size #[.int .i64 1, .int .i64 (b01 (false)), .int .i64 0, .bool false] rfl rfl 90 _ HG9.out (by kernel_rfl) (by kernel_rfl) (by kernel_rfl) ?_)
  exact bodyPost_ret (results_cell_row rfl _ _ w.heap.size 90 _ (0, 0) _ rfl (setRow_heap _ _ _ _ _ _ HG9.out) Tryz.underlying90 rfl (by kernel_rfl)) rfl ⟨rfl, below_setRow HB9.out (Nat.le_refl _) _⟩
set_option maxRecDepth 100000 in
set_option maxHeartbeats 4000000 in
theorem cmp_le_int_l (p : Value) (g : Nat) (a b : Int) (w : World) (hab : a < b) (hg : w.heap[g]? = some (.cells #[.int .i64 2, .int .i64 a, .int .i64 2, .int .i64 b] 41 (0, 0))) :
    Calls Tryz.prog 42 #[p, .int .i64 28, .slice (some ⟨g, 0, none⟩) 2 2] w fun e w' => e = .returned (.agg #[.int .i64 1, .int .i64 (b01 (true)), .int .i64 0, .bool false]) ∧ Below w.heap.size w w' := by
  have HAB := Aside0.mk hab
  have hlt : g < w.heap.size := (Array.getElem?_eq_some_iff.1 hg).1
  have hc : ∀ o1 j, (w.alloc o1).cell? ⟨g, j, none⟩ = #[Value.int .i64 2, .int .i64 a, .int .i64 2, .int .i64 b][j]? := by
    intro o1 j
    rw [cell_of_row _ g j _ 41 (0, 0) ((Below.heap_alloc _ _ _ hlt).trans hg)]
  have hd : ∀ o1 o2 j, ((w.alloc o1).alloc o2).cell? ⟨g, j, none⟩ = #[Value.int .i64 2, .int .i64 a, .int .i64 2, .int .i64 b][j]? := by
    intro o1 o2 j
    rw [cell_of_row _ g j _ 41 (0, 0) ((Below.heap_alloc _ _ _ (by simp <;> omega)).trans ((Below.heap_alloc _ _ _ hlt).trans hg))]
  have c0 := fun o1 => hc o1 0
  have c1 := fun o1 => hc o1 1
  have c2 := fun o1 o2 => hd o1 o2 2
  have c3 := fun o1 o2 => hd o1 o2 3
  clear hc hd hg hlt hab
  go_enter Tryz.func42, Tryz.ntmps42
  go_wp2_with fail
  refine (realOf_int _ _).mono ?_
  rintro e w1 ⟨⟨_, rfl⟩, hb⟩
  have HZ1 := Aside0.mk ((hb.block _ (by simp <;> omega)).trans (heap3_first w (.cells #[.int .i64 0, .int .i64 0, .int .i64 0, .bool false] 90) (.cells #[.int .i64 2, .int .i64 a] 41) (.cells #[.int .i64 2, .int .i64 b] 41)))
  have HA1 := Aside0.mk ((hb.block _ (by simp <;> omega)).trans (heap3_mid w (.cells #[.int .i64 0, .int .i64 0, .int .i64 0, .bool false] 90) (.cells #[.int .i64 2, .int .i64 a] 41) (.cells #[.int .i64 2, .int .i64 b] 41)))
  have HC1 := Aside0.mk ((hb.block _ (by simp <;> omega)).trans (heap3_last w (.cells #[.int .i64 0, .int .i64 0, .int .i64 0, .bool false] 90) (.cells #[.int .i64 2, .int .i64 a] 41) (.cells #[.int .i64 2, .int .i64 b] 41)))
  have HB1 := Aside0.mk ((below3 w (.cells #[.int .i64 0, .int .i64 0, .int .i64 0, .bool false] 90) (.cells #[.int .i64 2, .int .i64 a] 41) (.cells #[.int .i64 2, .int .i64 b] 41)).trans (hb.mono (by simp <;> omega)))
  clear hb
  clear c0 c1 c2 c3
  have c0 : w1.cell? ⟨w.heap.size + 1, 0, none⟩ = some (.int .i64 2) := by rw [cell_of_row _ _ 0 _ _ _ HA1.out]; rfl
  have c1 : w1.cell? ⟨w.heap.size + 1, 1, none⟩ = some (.int .i64 a) := by rw [cell_of_row _ _ 1 _ _ _ HA1.out]; rfl
  have c2 : w1.cell? ⟨w.heap.size + 1 + 1, 0, none⟩ = some (.int .i64 2) := by rw [cell_of_row _ _ 0 _ _ _ HC1.out]; rfl
  have c3 : w1.cell? ⟨w.heap.size + 1 + 1, 1, none⟩ = some (.int .i64 b) := by rw [cell_of_row _ _ 1 _ _ _ HC1.out]; rfl
  go_wp2_with fail
  refine (realOf_int _ _).mono ?_
  rintro e w2 ⟨⟨_, rfl⟩, hb⟩
  have HZ2 := Aside0.mk ((hb.block _ (Array.getElem?_eq_some_iff.1 HZ1.out).1).trans HZ1.out)
  have HA2 := Aside0.mk ((hb.block _ (Array.getElem?_eq_some_iff.1 HA1.out).1).trans HA1.out)
  have HC2 := Aside0.mk ((hb.block _ (Array.getElem?_eq_some_iff.1 HC1.out).1).trans HC1.out)
  have HB2 := Aside0.mk (HB1.out.trans (hb.mono HB1.out.size))
  clear hb
  clear c0 c1 c2 c3
  have c0 : w2.cell? ⟨w.heap.size + 1, 0, none⟩ = some (.int .i64 2) := by rw [cell_of_row _ _ 0 _ _ _ HA2.out]; rfl
  have c1 : w2.cell? ⟨w.heap.size + 1, 1, none⟩ = some (.int .i64 a) := by rw [cell_of_row _ _ 1 _ _ _ HA2.out]; rfl
  have c2 : w2.cell? ⟨w.heap.size + 1 + 1, 0, none⟩ = some (.int .i64 2) := by rw [cell_of_row _ _ 0 _ _ _ HC2.out]; rfl
  have c3 : w2.cell? ⟨w.heap.size + 1 + 1, 1, none⟩ = some (.int .i64 b) := by rw [cell_of_row _ _ 1 _ _ _ HC2.out]; rfl
  have f1 : decide (a < b) = true := decide_eq_true HAB.out
  have f2 : (a == b) = false := beq_eq_false_iff_ne.2 (by have := HAB.out; omega)
  go_wp2_with fail
  refine (otruth _ _).mono ?_
  rintro e w9 ⟨rfl, hb9⟩
  have HG9 := Aside0.mk ((hb9.block _ (Array.getElem?_eq_some_iff.1 HZ2.out).1).trans HZ2.out)
  have HB9 := Aside0.mk (HB2.out.trans (hb9.mono HB2.out.size))
  clear hb9
  go_wp2_with (with_reducible refine wpList_store_row rfl 90 _ _ rfl w.heap.size #[.int .i64 1, .int .i64 (b01 (true)), .int .i64 0, .bool false] rfl rfl 90 _ HG9.out (by kernel_rfl) (by kernel_rfl) (by kernel_rfl) ?_)
  exact bodyPost_ret (results_cell_row rfl _ _ w.heap.size 90 _ (0, 0) _ rfl (setRow_heap _ _ _ _ _ _ HG9.out) Tryz.underlying90 rfl (by kernel_rfl)) rfl ⟨rfl, below_setRow HB9.out (Nat.le_refl _) _⟩
set_option maxRecDepth 100000 in
set_option maxHeartbeats 4000000 in
theorem cmp_le_int_e (p : Value) (g : Nat) (a b : Int) (w : World) (hab : a = b) (hg : w.heap[g]? = some (.cells #[.int .i64 2, .int .i64 a, .int .i64 2, .int .i64 b] 41 (0, 0))) :
    Calls Tryz.prog 42 #[p, .int .i64 28, .slice (some ⟨g, 0, none⟩) 2 2] w fun e w' => e = .returned (.agg #[.int .i64 1, .int .i64 (b01 (true)), .int .i64 0, .bool false]) ∧ Below w.heap.size w w' := by
  have HAB := Aside0.mk hab
  have hlt : g < w.heap.size := (Array.getElem?_eq_some_iff.1 hg).1
  have hc : ∀ o1 j, (w.alloc o1).cell? ⟨g, j, none⟩ = #[Value.int .i64 2, .int .i64 a, .int .i64 2, .int .i64 b][j]? := by
    intro o1 j
    rw [cell_of_row _ g j _ 41 (0, 0) ((Below.heap_alloc _ _ _ hlt).trans hg)]
  have hd : ∀ o1 o2 j, ((w.alloc o1).alloc o2).cell? ⟨g, j, none⟩ = #[Value.int .i64 2, .int .i64 a, .int .i64 2, .int .i64 b][j]? := by
    intro o1 o2 j
    rw [cell_of_row _ g j _ 41 (0, 0) ((Below.heap_alloc _ _ _ (by simp <;> omega)).trans ((Below.heap_alloc _ _ _ hlt).trans hg))]
  have c0 := fun o1 => hc o1 0
  have c1 := fun o1 => hc o1 1
  have c2 := fun o1 o2 => hd o1 o2 2
  have c3 := fun o1 o2 => hd o1 o2 3
  clear hc hd hg hlt hab
  go_enter Tryz.func42, Tryz.ntmps42
  go_wp2_with fail
  refine (realOf_int _ _).mono ?_
  rintro e w1 ⟨⟨_, rfl⟩, hb⟩
  have HZ1 := Aside0.mk ((hb.block _ (by simp <;> omega)).trans (heap3_first w (.cells #[.int .i64 0, .int .i64 0, .int .i64 0, .bool false] 90) (.cells #[.int .i64 2, .int .i64 a] 41) (.cells #[.int .i64 2, .int .i64 b] 41)))
  have HA1 := Aside0.mk ((hb.block _ (by simp <;> omega)).trans (heap3_mid w (.cells #[.int .i64 0, .int .i64 0, .int .i64 0, .bool false] 90) (.cells #[.int .i64 2, .int .i64 a] 41) (.cells #[.int .i64 2, .int .i64 b] 41)))
  have HC1 := Aside0.mk ((hb.block _ (by simp <;> omega)).trans (heap3_last w (.cells #[.int .i64 0, .int .i64 0, .int .i64 0, .bool false] 90) (.cells #[.int .i64 2, .int .i64 a] 41) (.cells #[.int .i64 2, .int .i64 b] 41)))
  have HB1 := Aside0.mk ((below3 w (.cells #[.int .i64 0, .int .i64 0, .int .i64 0, .bool false] 90) (.cells #[.int .i64 2, .int .i64 a] 41) (.cells #[.int .i64 2, .int .i64 b] 41)).trans (hb.mono (by simp <;> omega)))
  clear hb
  clear c0 c1 c2 c3
  have c0 : w1.cell? ⟨w.heap.size + 1, 0, none⟩ = some (.int .i64 2) := by rw [cell_of_row _ _ 0 _ _ _ HA1.out]; rfl
  have c1 : w1.cell? ⟨w.heap.size + 1, 1, none⟩ = some (.int .i64 a) := by rw [cell_of_row _ _ 1 _ _ _ HA1.out]; rfl
  have c2 : w1.cell? ⟨w.heap.size + 1 + 1, 0, none⟩ = some (.int .i64 2) := by rw [cell_of_row _ _ 0 _ _ _ HC1.out]; rfl
  have c3 : w1.cell? ⟨w.heap.size + 1 + 1, 1, none⟩ = some (.int .i64 b) := by rw [cell_of_row _ _ 1 _ _ _ HC1.out]; rfl
  go_wp2_with fail
  refine (realOf_int _ _).mono ?_
  rintro e w2 ⟨⟨_, rfl⟩, hb⟩
  have HZ2 := Aside0.mk ((hb.block _ (Array.getElem?_eq_some_iff.1 HZ1.out).1).trans HZ1.out)
  have HA2 := Aside0.mk ((hb.block _ (Array.getElem?_eq_some_iff.1 HA1.out).1).trans HA1.out)
  have HC2 := Aside0.mk ((hb.block _ (Array.getElem?_eq_some_iff.1 HC1.out).1).trans HC1.out)
  have HB2 := Aside0.mk (HB1.out.trans (hb.mono HB1.out.size))
  clear hb
  clear c0 c1 c2 c3
  have c0 : w2.cell? ⟨w.heap.size + 1, 0, none⟩ = some (.int .i64 2) := by rw [cell_of_row _ _ 0 _ _ _ HA2.out]; rfl
  have c1 : w2.cell? ⟨w.heap.size + 1, 1, none⟩ = some (.int .i64 a) := by rw [cell_of_row _ _ 1 _ _ _ HA2.out]; rfl
  have c2 : w2.cell? ⟨w.heap.size + 1 + 1, 0, none⟩ = some (.int .i64 2) := by rw [cell_of_row _ _ 0 _ _ _ HC2.out]; rfl
  have c3 : w2.cell? ⟨w.heap.size + 1 + 1, 1, none⟩ = some (.int .i64 b) := by rw [cell_of_row _ _ 1 _ _ _ HC2.out]; rfl
  have f1 : decide (a < b) = false := decide_eq_false (by have := HAB.out; omega)
  have f2 : (a == b) = true := beq_iff_eq.2 HAB.out
  go_wp2_with fail
  refine (otruth _ _).mono ?_
  rintro e w9 ⟨rfl, hb9⟩
  have HG9 := Aside0.mk ((hb9.block _ (Array.getElem?_eq_some_iff.1 HZ2.out).1).trans HZ2.out)
  have HB9 := Aside0.mk (HB2.out.trans (hb9.mono HB2.out.size))
  clear hb9
  go_wp2_with (with_reducible refine wpList_store_row rfl 90 _ _ rfl w.heap.size #[.int .i64 1, .int .i64 (b01 (true)), .int .i64 0, .bool false] rfl rfl 90 _ HG9.out (by kernel_rfl) (by kernel_rfl) (by kernel_rfl) ?_)
  exact bodyPost_ret (results_cell_row rfl _ _ w.heap.size 90 _ (0, 0) _ rfl (setRow_heap _ _ _ _ _ _ HG9.out) Tryz.underlying90 rfl (by kernel_rfl)) rfl ⟨rfl, below_setRow HB9.out (Nat.le_refl _) _⟩
set_option maxRecDepth 100000 in
set_option maxHeartbeats 4000000 in
theorem cmp_le_int_g (p : Value) (g : Nat) (a b : Int) (w : World) (hab : b < a) (hg : w.heap[g]? = some (.cells #[.int .i64 2, .int .i64 a, .int .i64 2, .int .i64 b] 41 (0, 0))) :
    Calls Tryz.prog 42 #[p, .int .i64 28, .slice (some ⟨g, 0, none⟩) 2 2] w fun e w' => e = .returned (.agg #[.int .i64 1, .int .i64 (b01 (false)), .int .i64 0, .bool false]) ∧ Below w.heap.size w w' := by
  have HAB := Aside0.mk hab
  have hlt : g < w.heap.size := (Array.getElem?_eq_some_iff.1 hg).1
  have hc : ∀ o1 j, (w.alloc o1).cell? ⟨g, j, none⟩ = #[Value.int .i64 2, .int .i64 a, .int .i64 2, .int .i64 b][j]? := by
    intro o1 j
    rw [cell_of_row _ g j _ 41 (0, 0) ((Below.heap_alloc _ _ _ hlt).trans hg)]
  have hd : ∀ o1 o2 j, ((w.alloc o1).alloc o2).cell? ⟨g, j, none⟩ = #[Value.int .i64 2, .int .i64 a, .int .i64 2, .int .i64 b][j]? := by
    intro o1 o2 j
    rw [cell_of_row _ g j _ 41 (0, 0) ((Below.heap_alloc _ _ _ (by simp <;> omega)).trans ((Below.heap_alloc _ _ _ hlt).trans hg))]
  have c0 := fun o1 => hc o1 0
  have c1 := fun o1 => hc o1 1
  have c2 := fun o1 o2 => hd o1 o2 2
  have c3 := fun o1 o2 => hd o1 o2 3
  clear hc hd hg hlt hab
  go_enter Tryz.func42, Tryz.ntmps42
  go_wp2_with fail
  refine (realOf_int _ _).mono ?_
  rintro e w1 ⟨⟨_, rfl⟩, hb⟩
  have HZ1 := Aside0.mk ((hb.block _ (by simp <;> omega)).trans (heap3_first w (.cells #[.int .i64 0, .int .i64 0, .int .i64 0, .bool false] 90) (.cells #[.int .i64 2, .int .i64 a] 41) (.cells #[.int .i64 2, .int .i64 b] 41)))
  have HA1 := Aside0.mk ((hb.block _ (by simp <;> omega)).trans (heap3_mid w (.cells #[.int .i64 0, .int .i64 0, .int .i64 0, .bool false] 90) (.cells #[.int .i64 2, .int .i64 a] 41) (.cells #[.int .i64 2, .int .i64 b] 41)))
  have HC1 := Aside0.mk ((hb.block _ (by simp <;> omega)).trans (heap3_last w (.cells #[.int .i64 0, .int .i64 0, .int .i64 0, .bool false] 90) (.cells #[.int .i64 2, .int .i64 a] 41) (.cells #[.int .i64 2, .int .i64 b] 41)))
  have HB1 := Aside0.mk ((below3 w (.cells #[.int .i64 0, .int .i64 0, .int .i64 0, .bool false] 90) (.cells #[.int .i64 2, .int .i64 a] 41) (.cells #[.int .i64 2, .int .i64 b] 41)).trans (hb.mono (by simp <;> omega)))
  clear hb
  clear c0 c1 c2 c3
  have c0 : w1.cell? ⟨w.heap.size + 1, 0, none⟩ = some (.int .i64 2) := by rw [cell_of_row _ _ 0 _ _ _ HA1.out]; rfl
  have c1 : w1.cell? ⟨w.heap.size + 1, 1, none⟩ = some (.int .i64 a) := by rw [cell_of_row _ _ 1 _ _ _ HA1.out]; rfl
  have c2 : w1.cell? ⟨w.heap.size + 1 + 1, 0, none⟩ = some (.int .i64 2) := by rw [cell_of_row _ _ 0 _ _ _ HC1.out]; rfl
  have c3 : w1.cell? ⟨w.heap.size + 1 + 1, 1, none⟩ = some (.int .i64 b) := by rw [cell_of_row _ _ 1 _ _ _ HC1.out]; rfl
  go_wp2_with fail
  refine (realOf_int _ _).mono ?_
  rintro e w2 ⟨⟨_, rfl⟩, hb⟩
  have HZ2 := Aside0.mk ((hb.block _ (Array.getElem?_eq_some_iff.1 HZ1.out).1).trans HZ1.out)
  have HA2 := Aside0.mk ((hb.block _ (Array.getElem?_eq_some_iff.1 HA1.out).1).trans HA1.out)
  have HC2 := Aside0.mk ((hb.block _ (Array.getElem?_eq_some_iff.1 HC1.out).1).trans HC1.out)
  have HB2 := Aside0.mk (HB1.out.trans (hb.mono HB1.out.size))
  clear hb
  clear c0 c1 c2 c3
  have c0 : w2.cell? ⟨w.heap.size + 1, 0, none⟩ = some (.int .i64 2) := by rw [cell_of_row _ _ 0 _ _ _ HA2.out]; rfl
  have c1 : w2.cell? ⟨w.heap.size + 1, 1, none⟩ = some (.int .i64 a) := by rw [cell_of_row _ _ 1 _ _ _ HA2.out]; rfl
  have c2 : w2.cell? ⟨w.heap.size + 1 + 1, 0, none⟩ = some (.int .i64 2) := by rw [cell_of_row _ _ 0 _ _ _ HC2.out]; rfl
  have c3 : w2.cell? ⟨w.heap.size + 1 + 1, 1, none⟩ = some (.int .i64 b) := by rw [cell_of_row _ _ 1 _ _ _ HC2.out]; rfl
  have f1 : decide (a < b) = false := decide_eq_false (by have := HAB.out; omega)
  have f2 : (a == b) = false := beq_eq_false_iff_ne.2 (by have := HAB.out; omega)
  go_wp2_with fail
  refine (otruth _ _).mono ?_
  rintro e w9 ⟨rfl, hb9⟩
  have HG9 := Aside0.mk ((hb9.block _ (Array.getElem?_eq_some_iff.1 HZ2.out).1).trans HZ2.out)
  have HB9 := Aside0.mk (HB2.out.trans (hb9.mono HB2.out.size))
  clear hb9
  go_wp2_with (with_reducible refine wpList_store_row rfl 90 _ _ rfl w.heap.size #[.int .i64 1, .int .i64 (b01 (false)), .int .i64 0, .bool false] rfl rfl 90 _ HG9.out (by kernel_rfl) (by kernel_rfl) (by kernel_rfl) ?_)
  exact bodyPost_ret (results_cell_row rfl _ _ w.heap.size 90 _ (0, 0) _ rfl (setRow_heap _ _ _ _ _ _ HG9.out) Tryz.underlying90 rfl (by kernel_rfl)) rfl ⟨rfl, below_setRow HB9.out (Nat.le_refl _) _⟩
theorem cmp_lt_int (p : Value) (g : Nat) (a b : Int) (w : World) (hg : w.heap[g]? = some (.cells #[.int .i64 2, .int .i64 a, .int .i64 2, .int .i64 b] 41 (0, 0))) :
    Calls Tryz.prog 42 #[p, .int .i64 27, .slice (some ⟨g, 0, none⟩) 2 2] w fun e w' => e = .returned (.agg #[.int .i64 1, .int .i64 (b01 (decide (a < b))), .int .i64 0, .bool false]) ∧ Below w.heap.size w w' := by
  rcases Int.lt_trichotomy a b with h | h | h
  · rw [decide_eq_true h]; exact cmp_lt_int_l p g a b w h hg
  · rw [decide_eq_false (by omega)]; exact cmp_lt_int_e p g a b w h hg
  · rw [decide_eq_false (by omega)]; exact cmp_lt_int_g p g a b w h hg
theorem cmp_le_int (p : Value) (g : Nat) (a b : Int) (w : World) (hg : w.heap[g]? = some (.cells #[.int .i64 2, .int .i64 a, .int .i64 2, .int .i64 b] 41 (0, 0))) :
    Calls Tryz.prog 42 #[p, .int .i64 28, .slice (some ⟨g, 0, none⟩) 2 2] w fun e w' => e = .returned (.agg #[.int .i64 1, .int .i64 (b01 (decide (a < b) || (a == b))), .int .i64 0, .bool false]) ∧ Below w.heap.size w w' := by
  rcases Int.lt_trichotomy a b with h | h | h
  · rw [decide_eq_true h]; exact cmp_le_int_l p g a b w h hg
  · rw [decide_eq_false (show ¬ a < b by omega), beq_iff_eq.2 h]; exact cmp_le_int_e p g a b w h hg
  · rw [decide_eq_false (show ¬ a < b by omega), show (a == b) = false by simp; omega]; exact cmp_le_int_g p g a b w h hg
end Go.Proofs.YtkeneiahhmbojaaGreatDoor
