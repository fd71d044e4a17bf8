/-
  Operations on one whole number. (Printed by wip/tools/ops_Un.py.)
-/
import Derived.Test.YtkeneiahhmbojaaGreatDoorDo
namespace Go.Proofs.YtkeneiahhmbojaaGreatDoor
open Go.RowKit Go.MapKept
open Go.Proofs.YtkeneiahhmbojaaGreatDoorW.PrintWords Go.Proofs.YtkeneiahhmbojaaGreatDoorW.PrintMore

theorem un_neg (a : Int) (w : World) : Calls Tryz.prog 53 #[.int .i64 17, .agg #[.int .i64 2, .int .i64 a]] w fun e w' => e = .returned (.agg #[.int .i64 2, .int .i64 (wrap64 (-a)), .int .i64 0, .bool false]) ∧ Below w.heap.size w w' := by
  go_enter Tryz.func53, Tryz.ntmps53
  go_wp2_with fail
  refine (number_calls _ _).mono ?_
  rintro e w1 ⟨rfl, hb⟩
  have HG := Aside0.mk ((hb.block _ (by simp)).trans (heap_alloc2_new w _ _))
  have HB := Aside0.mk ((((below_alloc1 w _).alloc (by simp) _)).trans (hb.mono (by simp; omega)))
  clear hb
  go_wp2_with (with_reducible refine wpList_store_row rfl 90 _ _ rfl (w.heap.size + 1) #[.int .i64 2, .int .i64 (wrap64 (-a)), .int .i64 0, .bool false] rfl rfl 90 _ HG.out (by kernel_rfl) (by kernel_rfl) (by kernel_rfl) ?_)
  exact bodyPost_ret (results_cell_row rfl _ _ (w.heap.size + 1) 90 _ (0, 0) _ rfl (setRow_heap _ _ _ _ _ _ HG.out) Tryz.underlying90 rfl (by kernel_rfl)) rfl ⟨rfl, below_setRow HB.out (by omega) _⟩
theorem un_not (a : Int) (w : World) : Calls Tryz.prog 53 #[.int .i64 21, .agg #[.int .i64 2, .int .i64 a]] w fun e w' => e = .returned (.agg #[.int .i64 2, .int .i64 (bits BinOp.xor .i64 (-1) a), .int .i64 0, .bool false]) ∧ Below w.heap.size w w' := by
  go_enter Tryz.func53, Tryz.ntmps53
  go_wp2_with fail
  refine (number_calls _ _).mono ?_
  rintro e w1 ⟨rfl, hb⟩
  have HG := Aside0.mk ((hb.block _ (by simp)).trans (heap_alloc2_new w _ _))
  have HB := Aside0.mk ((((below_alloc1 w _).alloc (by simp) _)).trans (hb.mono (by simp; omega)))
  clear hb
  go_wp2_with (with_reducible refine wpList_store_row rfl 90 _ _ rfl (w.heap.size + 1) #[.int .i64 2, .int .i64 (bits BinOp.xor .i64 (-1) a), .int .i64 0, .bool false] rfl rfl 90 _ HG.out (by kernel_rfl) (by kernel_rfl) (by kernel_rfl) ?_)
  exact bodyPost_ret (results_cell_row rfl _ _ (w.heap.size + 1) 90 _ (0, 0) _ rfl (setRow_heap _ _ _ _ _ _ HG.out) Tryz.underlying90 rfl (by kernel_rfl)) rfl ⟨rfl, below_setRow HB.out (by omega) _⟩
theorem ext_8 (a : Int) (w : World) : Calls Tryz.prog 45 #[.agg #[.int .i64 2, .int .i64 a], .int .i64 8] w fun e w' => e = .returned (.agg #[.int .i64 2, .int .i64 (wrap64 (IntKind.i8.wrap a)), .int .i64 0, .bool false]) ∧ Below w.heap.size w w' := by
  go_enter Tryz.func45, Tryz.ntmps45
  go_wp2_with fail
  refine (number_calls _ _).mono ?_
  rintro e w1 ⟨rfl, hb⟩
  have HG := Aside0.mk ((hb.block _ (by simp)).trans (heap_alloc2_new w _ _))
  have HB := Aside0.mk ((((below_alloc1 w _).alloc (by simp) _)).trans (hb.mono (by simp; omega)))
  clear hb
  go_wp2_with (with_reducible refine wpList_store_row rfl 90 _ _ rfl (w.heap.size + 1) #[.int .i64 2, .int .i64 (wrap64 (IntKind.i8.wrap a)), .int .i64 0, .bool false] rfl rfl 90 _ HG.out (by kernel_rfl) (by kernel_rfl) (by kernel_rfl) ?_)
  exact bodyPost_ret (results_cell_row rfl _ _ (w.heap.size + 1) 90 _ (0, 0) _ rfl (setRow_heap _ _ _ _ _ _ HG.out) Tryz.underlying90 rfl (by kernel_rfl)) rfl ⟨rfl, below_setRow HB.out (by omega) _⟩
theorem ext_16 (a : Int) (w : World) : Calls Tryz.prog 45 #[.agg #[.int .i64 2, .int .i64 a], .int .i64 16] w fun e w' => e = .returned (.agg #[.int .i64 2, .int .i64 (wrap64 (IntKind.i16.wrap a)), .int .i64 0, .bool false]) ∧ Below w.heap.size w w' := by
  go_enter Tryz.func45, Tryz.ntmps45
  go_wp2_with fail
  refine (number_calls _ _).mono ?_
  rintro e w1 ⟨rfl, hb⟩
  have HG := Aside0.mk ((hb.block _ (by simp)).trans (heap_alloc2_new w _ _))
  have HB := Aside0.mk ((((below_alloc1 w _).alloc (by simp) _)).trans (hb.mono (by simp; omega)))
  clear hb
  go_wp2_with (with_reducible refine wpList_store_row rfl 90 _ _ rfl (w.heap.size + 1) #[.int .i64 2, .int .i64 (wrap64 (IntKind.i16.wrap a)), .int .i64 0, .bool false] rfl rfl 90 _ HG.out (by kernel_rfl) (by kernel_rfl) (by kernel_rfl) ?_)
  exact bodyPost_ret (results_cell_row rfl _ _ (w.heap.size + 1) 90 _ (0, 0) _ rfl (setRow_heap _ _ _ _ _ _ HG.out) Tryz.underlying90 rfl (by kernel_rfl)) rfl ⟨rfl, below_setRow HB.out (by omega) _⟩
theorem ext_32 (a : Int) (w : World) : Calls Tryz.prog 45 #[.agg #[.int .i64 2, .int .i64 a], .int .i64 32] w fun e w' => e = .returned (.agg #[.int .i64 2, .int .i64 (wrap64 (wrap32 a)), .int .i64 0, .bool false]) ∧ Below w.heap.size w w' := by
  go_enter Tryz.func45, Tryz.ntmps45
  go_wp2_with fail
  refine (number_calls _ _).mono ?_
  rintro e w1 ⟨rfl, hb⟩
  have HG := Aside0.mk ((hb.block _ (by simp)).trans (heap_alloc2_new w _ _))
  have HB := Aside0.mk ((((below_alloc1 w _).alloc (by simp) _)).trans (hb.mono (by simp; omega)))
  clear hb
  go_wp2_with (with_reducible refine wpList_store_row rfl 90 _ _ rfl (w.heap.size + 1) #[.int .i64 2, .int .i64 (wrap64 (wrap32 a)), .int .i64 0, .bool false] rfl rfl 90 _ HG.out (by kernel_rfl) (by kernel_rfl) (by kernel_rfl) ?_)
  exact bodyPost_ret (results_cell_row rfl _ _ (w.heap.size + 1) 90 _ (0, 0) _ rfl (setRow_heap _ _ _ _ _ _ HG.out) Tryz.underlying90 rfl (by kernel_rfl)) rfl ⟨rfl, below_setRow HB.out (by omega) _⟩
set_option maxHeartbeats 4000000 in
set_option maxRecDepth 100000 in
theorem do_neg (p : Value) (A : Int) (g : Nat) (a : Int) (D0 D1 D2 : Int) (D3 : Bool) (w : World) (hg : w.heap[g]? = some (.cells #[.int .i64 2, .int .i64 a] 41 (0, 0)))
    (hR : ∀ w, Calls Tryz.prog 53 #[.int .i64 17, .agg #[.int .i64 2, .int .i64 a]] w fun e w' => e = .returned (.agg #[.int .i64 D0, .int .i64 D1, .int .i64 D2, .bool D3]) ∧ Below w.heap.size w w') :
    Calls Tryz.prog 34 #[p, .agg #[.int .i64 17, .int .i64 A], .slice (some ⟨g, 0, none⟩) 1 1] w fun e w' => e = .returned (.agg #[.int .i64 D0, .int .i64 D1, .int .i64 D2, .bool D3]) ∧ Below w.heap.size w w' := by
  have HF := Aside0.mk hR
  have hlt : g < w.heap.size := (Array.getElem?_eq_some_iff.1 hg).1
  clear hR
  go_enter Tryz.func34, Tryz.ntmps34
  go_upto_region 45 with (fail)
  obtain ⟨A1, hA1⟩ : ∃ o, o = Obj.cells #[.int .i64 17, .int .i64 A] 54 := ⟨_, rfl⟩
  obtain ⟨A2, hA2⟩ : ∃ o, o = Obj.cells #[.int .i64 0, .int .i64 0, .int .i64 0, .bool false] 90 := ⟨_, rfl⟩
  rw [← hA1, ← hA2]
  obtain ⟨W, hW⟩ : ∃ W, W = (w.alloc A1).alloc A2 := ⟨_, rfl⟩
  rw [← hW]
  have hB := show Below w.heap.size w W by rw [hW]; exact ((Below.refl _ _).alloc (Nat.le_refl _) _).alloc (by simp) _
  have hc : ∀ j, W.cell? ⟨g, j, none⟩ = #[Value.int .i64 2, .int .i64 a][j]? := by
    intro j
    rw [cell_of_row W g j _ 41 (0, 0) ((hB.block _ hlt).trans hg)]
  have c0 := hc 0
  have c1 := hc 1
  have hc : ∀ j, W.cell? ⟨w.heap.size, j, none⟩ = #[Value.int .i64 17, .int .i64 A][j]? := by
    intro j
    rw [cell_of_row W _ j #[.int .i64 17, .int .i64 A] 54 (0, 0) (by rw [hW, ← hA1]; exact heap_alloc2_old w A1 A2)]
  have e0 := hc 0
  have e1 := hc 1
  have HG := Aside0.mk (show W.heap[w.heap.size + 1]? = some (.cells #[.int .i64 0, .int .i64 0, .int .i64 0, .bool false] 90 (0, 0)) by rw [hW, ← hA2]; exact heap_alloc2_new w A1 A2)
  have HB := Aside0.mk hB
  simp at c0 c1 e0 e1
  clear hc hg hlt hW hA1 hA2 hB
  have HG2 := HG
  have HB2 := HB
  go_wp2_with fail
  refine (HF.out _).mono ?_
  rintro e w3 ⟨rfl, hb3⟩
  have HG3 := Aside0.mk ((hb3.block _ (Array.getElem?_eq_some_iff.1 HG2.out).1).trans HG2.out)
  have HB3 := Aside0.mk (HB2.out.trans (hb3.mono HB2.out.size))
  clear hb3
  go_wp2_with (with_reducible refine wpList_store_row rfl 90 _ _ rfl (w.heap.size + 1) #[.int .i64 D0, .int .i64 D1, .int .i64 D2, .bool D3] rfl rfl 90 _ HG3.out (by kernel_rfl) (by kernel_rfl) (by kernel_rfl) ?_)
  exact bodyPost_ret (results_cell_row rfl _ _ (w.heap.size + 1) 90 _ (0, 0) _ rfl (setRow_heap _ _ _ _ _ _ HG3.out) Tryz.underlying90 rfl (by kernel_rfl)) rfl ⟨rfl, below_setRow HB3.out (by omega) _⟩
set_option maxHeartbeats 4000000 in
set_option maxRecDepth 100000 in
theorem do_not (p : Value) (A : Int) (g : Nat) (a : Int) (D0 D1 D2 : Int) (D3 : Bool) (w : World) (hg : w.heap[g]? = some (.cells #[.int .i64 2, .int .i64 a] 41 (0, 0)))
    (hR : ∀ w, Calls Tryz.prog 53 #[.int .i64 21, .agg #[.int .i64 2, .int .i64 a]] w fun e w' => e = .returned (.agg #[.int .i64 D0, .int .i64 D1, .int .i64 D2, .bool D3]) ∧ Below w.heap.size w w') :
    Calls Tryz.prog 34 #[p, .agg #[.int .i64 21, .int .i64 A], .slice (some ⟨g, 0, none⟩) 1 1] w fun e w' => e = .returned (.agg #[.int .i64 D0, .int .i64 D1, .int .i64 D2, .bool D3]) ∧ Below w.heap.size w w' := by
  have HF := Aside0.mk hR
  have hlt : g < w.heap.size := (Array.getElem?_eq_some_iff.1 hg).1
  clear hR
  go_enter Tryz.func34, Tryz.ntmps34
  go_upto_region 45 with (fail)
  obtain ⟨A1, hA1⟩ : ∃ o, o = Obj.cells #[.int .i64 21, .int .i64 A] 54 := ⟨_, rfl⟩
  obtain ⟨A2, hA2⟩ : ∃ o, o = Obj.cells #[.int .i64 0, .int .i64 0, .int .i64 0, .bool false] 90 := ⟨_, rfl⟩
  rw [← hA1, ← hA2]
  obtain ⟨W, hW⟩ : ∃ W, W = (w.alloc A1).alloc A2 := ⟨_, rfl⟩
  rw [← hW]
  have hB := show Below w.heap.size w W by rw [hW]; exact ((Below.refl _ _).alloc (Nat.le_refl _) _).alloc (by simp) _
  have hc : ∀ j, W.cell? ⟨g, j, none⟩ = #[Value.int .i64 2, .int .i64 a][j]? := by
    intro j
    rw [cell_of_row W g j _ 41 (0, 0) ((hB.block _ hlt).trans hg)]
  have c0 := hc 0
  have c1 := hc 1
  have hc : ∀ j, W.cell? ⟨w.heap.size, j, none⟩ = #[Value.int .i64 21, .int .i64 A][j]? := by
    intro j
    rw [cell_of_row W _ j #[.int .i64 21, .int .i64 A] 54 (0, 0) (by rw [hW, ← hA1]; exact heap_alloc2_old w A1 A2)]
  have e0 := hc 0
  have e1 := hc 1
  have HG := Aside0.mk (show W.heap[w.heap.size + 1]? = some (.cells #[.int .i64 0, .int .i64 0, .int .i64 0, .bool false] 90 (0, 0)) by rw [hW, ← hA2]; exact heap_alloc2_new w A1 A2)
  have HB := Aside0.mk hB
  simp at c0 c1 e0 e1
  clear hc hg hlt hW hA1 hA2 hB
  have HG2 := HG
  have HB2 := HB
  go_wp2_with fail
  refine (HF.out _).mono ?_
  rintro e w3 ⟨rfl, hb3⟩
  have HG3 := Aside0.mk ((hb3.block _ (Array.getElem?_eq_some_iff.1 HG2.out).1).trans HG2.out)
  have HB3 := Aside0.mk (HB2.out.trans (hb3.mono HB2.out.size))
  clear hb3
  go_wp2_with (with_reducible refine wpList_store_row rfl 90 _ _ rfl (w.heap.size + 1) #[.int .i64 D0, .int .i64 D1, .int .i64 D2, .bool D3] rfl rfl 90 _ HG3.out (by kernel_rfl) (by kernel_rfl) (by kernel_rfl) ?_)
  exact bodyPost_ret (results_cell_row rfl _ _ (w.heap.size + 1) 90 _ (0, 0) _ rfl (setRow_heap _ _ _ _ _ _ HG3.out) Tryz.underlying90 rfl (by kernel_rfl)) rfl ⟨rfl, below_setRow HB3.out (by omega) _⟩
set_option maxHeartbeats 4000000 in
set_option maxRecDepth 100000 in
theorem do_ext (p : Value) (A : Int) (g : Nat) (a : Int) (D0 D1 D2 : Int) (D3 : Bool) (w : World) (hg : w.heap[g]? = some (.cells #[.int .i64 2, .int .i64 a] 41 (0, 0)))
    (hR : ∀ w, Calls Tryz.prog 45 #[.agg #[.int .i64 2, .int .i64 a], .int .i64 A] w fun e w' => e = .returned (.agg #[.int .i64 D0, .int .i64 D1, .int .i64 D2, .bool D3]) ∧ Below w.heap.size w w') :
    Calls Tryz.prog 34 #[p, .agg #[.int .i64 24, .int .i64 A], .slice (some ⟨g, 0, none⟩) 1 1] w fun e w' => e = .returned (.agg #[.int .i64 D0, .int .i64 D1, .int .i64 D2, .bool D3]) ∧ Below w.heap.size w w' := by
  have HF := Aside0.mk hR
  have hlt : g < w.heap.size := (Array.getElem?_eq_some_iff.1 hg).1
  clear hR
  go_enter Tryz.func34, Tryz.ntmps34
  go_upto_region 19 with (fail)
  obtain ⟨A1, hA1⟩ : ∃ o, o = Obj.cells #[.int .i64 24, .int .i64 A] 54 := ⟨_, rfl⟩
  obtain ⟨A2, hA2⟩ : ∃ o, o = Obj.cells #[.int .i64 0, .int .i64 0, .int .i64 0, .bool false] 90 := ⟨_, rfl⟩
  rw [← hA1, ← hA2]
  obtain ⟨W, hW⟩ : ∃ W, W = (w.alloc A1).alloc A2 := ⟨_, rfl⟩
  rw [← hW]
  have hB := show Below w.heap.size w W by rw [hW]; exact ((Below.refl _ _).alloc (Nat.le_refl _) _).alloc (by simp) _
  have hc : ∀ j, W.cell? ⟨g, j, none⟩ = #[Value.int .i64 2, .int .i64 a][j]? := by
    intro j
    rw [cell_of_row W g j _ 41 (0, 0) ((hB.block _ hlt).trans hg)]
  have c0 := hc 0
  have c1 := hc 1
  have hc : ∀ j, W.cell? ⟨w.heap.size, j, none⟩ = #[Value.int .i64 24, .int .i64 A][j]? := by
    intro j
    rw [cell_of_row W _ j #[.int .i64 24, .int .i64 A] 54 (0, 0) (by rw [hW, ← hA1]; exact heap_alloc2_old w A1 A2)]
  have e0 := hc 0
  have e1 := hc 1
  have HG := Aside0.mk (show W.heap[w.heap.size + 1]? = some (.cells #[.int .i64 0, .int .i64 0, .int .i64 0, .bool false] 90 (0, 0)) by rw [hW, ← hA2]; exact heap_alloc2_new w A1 A2)
  have HB := Aside0.mk hB
  simp at c0 c1 e0 e1
  clear hc hg hlt hW hA1 hA2 hB
  go_still_tail 5, (by kernel_rfl)
  change wpList _ _ _ _ _ W.drew
  have HG2 := Aside0.mk (show W.drew.heap[w.heap.size + 1]? = some (.cells #[.int .i64 0, .int .i64 0, .int .i64 0, .bool false] 90 (0, 0)) from HG.out)
  have HB2 := Aside0.mk (show Below w.heap.size w W.drew from HB.out.drew)
  clear HG HB c0 c1 e0 e1
  generalize W.drew = w2 at *
  go_wp2_with fail
  refine (HF.out _).mono ?_
  rintro e w3 ⟨rfl, hb3⟩
  have HG3 := Aside0.mk ((hb3.block _ (Array.getElem?_eq_some_iff.1 HG2.out).1).trans HG2.out)
  have HB3 := Aside0.mk (HB2.out.trans (hb3.mono HB2.out.size))
  clear hb3
  go_wp2_with (with_reducible refine wpList_store_row rfl 90 _ _ rfl (w.heap.size + 1) #[.int .i64 D0, .int .i64 D1, .int .i64 D2, .bool D3] rfl rfl 90 _ HG3.out (by kernel_rfl) (by kernel_rfl) (by kernel_rfl) ?_)
  exact bodyPost_ret (results_cell_row rfl _ _ (w.heap.size + 1) 90 _ (0, 0) _ rfl (setRow_heap _ _ _ _ _ _ HG3.out) Tryz.underlying90 rfl (by kernel_rfl)) rfl ⟨rfl, below_setRow HB3.out (by omega) _⟩
end Go.Proofs.YtkeneiahhmbojaaGreatDoor
