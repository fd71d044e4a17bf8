/-
  binary on two whole numbers. (Printed by wip/tools/ops_Bi.py.)
-/
import Derived.Test.YtkeneiahhmbojaaGreatDoorLe
namespace Go.Proofs.YtkeneiahhmbojaaGreatDoor
open Go.RowKit Go.MapKept
open Go.Proofs.YtkeneiahhmbojaaGreatDoorW.PrintWords Go.Proofs.YtkeneiahhmbojaaGreatDoorW.PrintMore

theorem four_cells {w : World} {P ty : Nat} {c0 c1 c2 c3 : Value} (v0 v1 v2 v3 : Value) (h : w.heap[P]? = some (.cells #[c0, c1, c2, c3] ty (0, 0))) :
    ((((w.setCell ⟨P, 0, none⟩ v0).setCell ⟨P, 1, none⟩ v1).setCell ⟨P, 2, none⟩ v2).setCell ⟨P, 3, none⟩ v3).heap[P]? = some (.cells #[v0, v1, v2, v3] ty (0, 0)) := by
  have h0 := heap_setCell_same w P 0 _ ty v0 h
  have h1 := heap_setCell_same _ P 1 _ ty v1 h0
  have h2 := heap_setCell_same _ P 2 _ ty v2 h1
  have h3 := heap_setCell_same _ P 3 _ ty v3 h2
  rw [h3]
  simp
theorem four_below {B : Nat} {w0 w : World} {P : Nat} (v0 v1 v2 v3 : Value) (h : Below B w0 w) (hP : B ≤ P) :
    Below B w0 ((((w.setCell ⟨P, 0, none⟩ v0).setCell ⟨P, 1, none⟩ v1).setCell ⟨P, 2, none⟩ v2).setCell ⟨P, 3, none⟩ v3) :=
  (((h.setCell (p := ⟨P, 0, none⟩) hP _).setCell (p := ⟨P, 1, none⟩) hP _).setCell (p := ⟨P, 2, none⟩) hP _).setCell (p := ⟨P, 3, none⟩) hP _
theorem bin_end {w X w2 w4 : World} {A B C : Obj} (hX : Below (((w.alloc A).alloc B).alloc C).heap.size (((w.alloc A).alloc B).alloc C) X) (hb2 : Below X.heap.size X w2) (hb4 : Below w2.heap.size w2 w4) :
    w4.heap[w.heap.size + 1 + 1]? = some C ∧ Below w.heap.size w w4 := by
  have s0 : (((w.alloc A).alloc B).alloc C).heap.size = w.heap.size + 3 := by simp
  have s1 := hX.size
  have s2 := hb2.size
  refine ⟨(hb4.block _ (by omega)).trans ((hb2.block _ (by omega)).trans ((hX.block _ (by omega)).trans (heap3_last w A B C))), ?_⟩
  exact (((below3 w A B C).trans (hX.mono (by omega))).trans (hb2.mono (by omega))).trans (hb4.mono (by omega))
set_option maxHeartbeats 8000000 in
set_option maxRecDepth 100000 in
theorem bin_plain (k : Int) (f i : Nat) (hk : Instr.findNow (.int .i64) (.int .i64 k) (#[{ key := .int .i64 12, val := .func (.func 140) #[] #[], born := 0 }, { key := .int .i64 13, val := .func (.func 141) #[] #[], born := 1 }, { key := .int .i64 14, val := .func (.func 142) #[] #[], born := 2 }, { key := .int .i64 15, val := .func (.func 143) #[] #[], born := 3 }, { key := .int .i64 16, val := .func (.func 144) #[] #[], born := 4 }, { key := .int .i64 18, val := .func (.func 145) #[] #[], born := 5 }, { key := .int .i64 19, val := .func (.func 146) #[] #[], born := 6 }, { key := .int .i64 20, val := .func (.func 147) #[] #[], born := 7 }, { key := .int .i64 66, val := .func (.func 148) #[] #[], born := 8 }, { key := .int .i64 22, val := .func (.func 149) #[] #[], born := 9 }, { key := .int .i64 23, val := .func (.func 150) #[] #[], born := 10 }] : Array MapEntry).toList 0 = some (some (i, .func (.func f) #[] #[]))) (a b R : Int) (hcf : ∀ args W, (callFunc f args).run Tryz.prog W = .ok (.enter f args) W) (hR : ∀ w, Calls Tryz.prog f #[.int .i64 a, .int .i64 b] w fun e w' => e = .returned (.int .i64 R) ∧ w = w') (h1 : (k == 15) = false) (h2 : (k == 16) = false) (h3 : (k == 22) = false) (h4 : (k == 23) = false) (w : World) :
    Calls Tryz.prog 54 #[.int .i64 k, .agg #[.int .i64 2, .int .i64 a], .agg #[.int .i64 2, .int .i64 b]] w fun e w' => e = .returned (.agg #[.int .i64 2, .int .i64 R, .int .i64 0, .bool false]) ∧ Below w.heap.size w w' := by
  have HF := Aside0.mk hR
  have HK := Aside0.mk hk
  clear hR hk
  go_enter Tryz.func54, Tryz.ntmps54
  go_wp2_with fail
  go_region_with (first | (go_at_call 108; (with_reducible refine (wholes_calls _ _ _ HK.out _).mono ?_); rintro e w2 ⟨rfl, hb2⟩; obtain ⟨hc2, hf2⟩ := bcell hb2; have hz2 : w.heap.size + 2 < w2.heap.size := by have := hb2.size; simp at this; omega) | ((with_reducible refine (HF.out _).mono ?_); rintro e w3 ⟨rfl, rfl⟩) | (go_at_call 83; (with_reducible refine (number_calls _ _).mono ?_); rintro e w4 ⟨rfl, hb4⟩; obtain ⟨hc4, hf4⟩ := bcell hb4))
  all_goals
    have HE := Aside0.mk (bin_end (Below.refl _ _).drew hb2 hb4)
    clear hc2 hf2 hc4 hf4 hb2 hb4
    go_wp2_with fail
    exact bodyPost_ret (results_cell_row rfl _ _ (w.heap.size + 1 + 1) 90 _ (0, 0) _ rfl (four_cells _ _ _ _ HE.out.1) Tryz.underlying90 rfl (by kernel_rfl)) rfl ⟨rfl, four_below _ _ _ _ HE.out.2 (by omega)⟩
set_option maxHeartbeats 8000000 in
set_option maxRecDepth 100000 in
theorem bin_15 (f i : Nat) (hk : Instr.findNow (.int .i64) (.int .i64 15) (#[{ key := .int .i64 12, val := .func (.func 140) #[] #[], born := 0 }, { key := .int .i64 13, val := .func (.func 141) #[] #[], born := 1 }, { key := .int .i64 14, val := .func (.func 142) #[] #[], born := 2 }, { key := .int .i64 15, val := .func (.func 143) #[] #[], born := 3 }, { key := .int .i64 16, val := .func (.func 144) #[] #[], born := 4 }, { key := .int .i64 18, val := .func (.func 145) #[] #[], born := 5 }, { key := .int .i64 19, val := .func (.func 146) #[] #[], born := 6 }, { key := .int .i64 20, val := .func (.func 147) #[] #[], born := 7 }, { key := .int .i64 66, val := .func (.func 148) #[] #[], born := 8 }, { key := .int .i64 22, val := .func (.func 149) #[] #[], born := 9 }, { key := .int .i64 23, val := .func (.func 150) #[] #[], born := 10 }] : Array MapEntry).toList 0 = some (some (i, .func (.func f) #[] #[]))) (a b R : Int) (hcf : ∀ args W, (callFunc f args).run Tryz.prog W = .ok (.enter f args) W) (hR : ∀ w, Calls Tryz.prog f #[.int .i64 a, .int .i64 b] w fun e w' => e = .returned (.int .i64 R) ∧ w = w') (hb0 : (b == 0) = false) (w : World) :
    Calls Tryz.prog 54 #[.int .i64 15, .agg #[.int .i64 2, .int .i64 a], .agg #[.int .i64 2, .int .i64 b]] w fun e w' => e = .returned (.agg #[.int .i64 2, .int .i64 R, .int .i64 0, .bool false]) ∧ Below w.heap.size w w' := by
  have HF := Aside0.mk hR
  have HK := Aside0.mk hk
  clear hR hk
  go_enter Tryz.func54, Tryz.ntmps54
  go_wp2_with fail
  go_region_with (first | (go_at_call 108; (with_reducible refine (wholes_calls _ _ _ HK.out _).mono ?_); rintro e w2 ⟨rfl, hb2⟩; obtain ⟨hc2, hf2⟩ := bcell hb2; have hz2 : w.heap.size + 2 < w2.heap.size := by have := hb2.size; simp at this; omega) | ((with_reducible refine (HF.out _).mono ?_); rintro e w3 ⟨rfl, rfl⟩) | (go_at_call 83; (with_reducible refine (number_calls _ _).mono ?_); rintro e w4 ⟨rfl, hb4⟩; obtain ⟨hc4, hf4⟩ := bcell hb4))
  all_goals
    have HE := Aside0.mk (bin_end (Below.refl _ _).drew hb2 hb4)
    clear hc2 hf2 hc4 hf4 hb2 hb4
    go_wp2_with fail
    exact bodyPost_ret (results_cell_row rfl _ _ (w.heap.size + 1 + 1) 90 _ (0, 0) _ rfl (four_cells _ _ _ _ HE.out.1) Tryz.underlying90 rfl (by kernel_rfl)) rfl ⟨rfl, four_below _ _ _ _ HE.out.2 (by omega)⟩
set_option maxHeartbeats 8000000 in
set_option maxRecDepth 100000 in
theorem bin_16 (f i : Nat) (hk : Instr.findNow (.int .i64) (.int .i64 16) (#[{ key := .int .i64 12, val := .func (.func 140) #[] #[], born := 0 }, { key := .int .i64 13, val := .func (.func 141) #[] #[], born := 1 }, { key := .int .i64 14, val := .func (.func 142) #[] #[], born := 2 }, { key := .int .i64 15, val := .func (.func 143) #[] #[], born := 3 }, { key := .int .i64 16, val := .func (.func 144) #[] #[], born := 4 }, { key := .int .i64 18, val := .func (.func 145) #[] #[], born := 5 }, { key := .int .i64 19, val := .func (.func 146) #[] #[], born := 6 }, { key := .int .i64 20, val := .func (.func 147) #[] #[], born := 7 }, { key := .int .i64 66, val := .func (.func 148) #[] #[], born := 8 }, { key := .int .i64 22, val := .func (.func 149) #[] #[], born := 9 }, { key := .int .i64 23, val := .func (.func 150) #[] #[], born := 10 }] : Array MapEntry).toList 0 = some (some (i, .func (.func f) #[] #[]))) (a b R : Int) (hcf : ∀ args W, (callFunc f args).run Tryz.prog W = .ok (.enter f args) W) (hR : ∀ w, Calls Tryz.prog f #[.int .i64 a, .int .i64 b] w fun e w' => e = .returned (.int .i64 R) ∧ w = w') (hb0 : (b == 0) = false) (w : World) :
    Calls Tryz.prog 54 #[.int .i64 16, .agg #[.int .i64 2, .int .i64 a], .agg #[.int .i64 2, .int .i64 b]] w fun e w' => e = .returned (.agg #[.int .i64 2, .int .i64 R, .int .i64 0, .bool false]) ∧ Below w.heap.size w w' := by
  have HF := Aside0.mk hR
  have HK := Aside0.mk hk
  clear hR hk
  go_enter Tryz.func54, Tryz.ntmps54
  go_wp2_with fail
  go_region_with (first | (go_at_call 108; (with_reducible refine (wholes_calls _ _ _ HK.out _).mono ?_); rintro e w2 ⟨rfl, hb2⟩; obtain ⟨hc2, hf2⟩ := bcell hb2; have hz2 : w.heap.size + 2 < w2.heap.size := by have := hb2.size; simp at this; omega) | ((with_reducible refine (HF.out _).mono ?_); rintro e w3 ⟨rfl, rfl⟩) | (go_at_call 83; (with_reducible refine (number_calls _ _).mono ?_); rintro e w4 ⟨rfl, hb4⟩; obtain ⟨hc4, hf4⟩ := bcell hb4))
  all_goals
    have HE := Aside0.mk (bin_end (Below.refl _ _).drew hb2 hb4)
    clear hc2 hf2 hc4 hf4 hb2 hb4
    go_wp2_with fail
    exact bodyPost_ret (results_cell_row rfl _ _ (w.heap.size + 1 + 1) 90 _ (0, 0) _ rfl (four_cells _ _ _ _ HE.out.1) Tryz.underlying90 rfl (by kernel_rfl)) rfl ⟨rfl, four_below _ _ _ _ HE.out.2 (by omega)⟩
set_option maxHeartbeats 8000000 in
set_option maxRecDepth 100000 in
theorem bin_22 (f i : Nat) (hk : Instr.findNow (.int .i64) (.int .i64 22) (#[{ key := .int .i64 12, val := .func (.func 140) #[] #[], born := 0 }, { key := .int .i64 13, val := .func (.func 141) #[] #[], born := 1 }, { key := .int .i64 14, val := .func (.func 142) #[] #[], born := 2 }, { key := .int .i64 15, val := .func (.func 143) #[] #[], born := 3 }, { key := .int .i64 16, val := .func (.func 144) #[] #[], born := 4 }, { key := .int .i64 18, val := .func (.func 145) #[] #[], born := 5 }, { key := .int .i64 19, val := .func (.func 146) #[] #[], born := 6 }, { key := .int .i64 20, val := .func (.func 147) #[] #[], born := 7 }, { key := .int .i64 66, val := .func (.func 148) #[] #[], born := 8 }, { key := .int .i64 22, val := .func (.func 149) #[] #[], born := 9 }, { key := .int .i64 23, val := .func (.func 150) #[] #[], born := 10 }] : Array MapEntry).toList 0 = some (some (i, .func (.func f) #[] #[]))) (a b R : Int) (hcf : ∀ args W, (callFunc f args).run Tryz.prog W = .ok (.enter f args) W) (hR : ∀ w, Calls Tryz.prog f #[.int .i64 a, .int .i64 b] w fun e w' => e = .returned (.int .i64 R) ∧ w = w') (hb0 : decide (b < 0) = false) (w : World) :
    Calls Tryz.prog 54 #[.int .i64 22, .agg #[.int .i64 2, .int .i64 a], .agg #[.int .i64 2, .int .i64 b]] w fun e w' => e = .returned (.agg #[.int .i64 2, .int .i64 R, .int .i64 0, .bool false]) ∧ Below w.heap.size w w' := by
  have HF := Aside0.mk hR
  have HK := Aside0.mk hk
  clear hR hk
  go_enter Tryz.func54, Tryz.ntmps54
  go_wp2_with fail
  go_region_with (first | (go_at_call 108; (with_reducible refine (wholes_calls _ _ _ HK.out _).mono ?_); rintro e w2 ⟨rfl, hb2⟩; obtain ⟨hc2, hf2⟩ := bcell hb2; have hz2 : w.heap.size + 2 < w2.heap.size := by have := hb2.size; simp at this; omega) | ((with_reducible refine (HF.out _).mono ?_); rintro e w3 ⟨rfl, rfl⟩) | (go_at_call 83; (with_reducible refine (number_calls _ _).mono ?_); rintro e w4 ⟨rfl, hb4⟩; obtain ⟨hc4, hf4⟩ := bcell hb4))
  all_goals
    have HE := Aside0.mk (bin_end (Below.refl _ _).drew hb2 hb4)
    clear hc2 hf2 hc4 hf4 hb2 hb4
    go_wp2_with fail
    exact bodyPost_ret (results_cell_row rfl _ _ (w.heap.size + 1 + 1) 90 _ (0, 0) _ rfl (four_cells _ _ _ _ HE.out.1) Tryz.underlying90 rfl (by kernel_rfl)) rfl ⟨rfl, four_below _ _ _ _ HE.out.2 (by omega)⟩
set_option maxHeartbeats 8000000 in
set_option maxRecDepth 100000 in
theorem bin_23 (f i : Nat) (hk : Instr.findNow (.int .i64) (.int .i64 23) (#[{ key := .int .i64 12, val := .func (.func 140) #[] #[], born := 0 }, { key := .int .i64 13, val := .func (.func 141) #[] #[], born := 1 }, { key := .int .i64 14, val := .func (.func 142) #[] #[], born := 2 }, { key := .int .i64 15, val := .func (.func 143) #[] #[], born := 3 }, { key := .int .i64 16, val := .func (.func 144) #[] #[], born := 4 }, { key := .int .i64 18, val := .func (.func 145) #[] #[], born := 5 }, { key := .int .i64 19, val := .func (.func 146) #[] #[], born := 6 }, { key := .int .i64 20, val := .func (.func 147) #[] #[], born := 7 }, { key := .int .i64 66, val := .func (.func 148) #[] #[], born := 8 }, { key := .int .i64 22, val := .func (.func 149) #[] #[], born := 9 }, { key := .int .i64 23, val := .func (.func 150) #[] #[], born := 10 }] : Array MapEntry).toList 0 = some (some (i, .func (.func f) #[] #[]))) (a b R : Int) (hcf : ∀ args W, (callFunc f args).run Tryz.prog W = .ok (.enter f args) W) (hR : ∀ w, Calls Tryz.prog f #[.int .i64 a, .int .i64 b] w fun e w' => e = .returned (.int .i64 R) ∧ w = w') (hb0 : decide (b < 0) = false) (w : World) :
    Calls Tryz.prog 54 #[.int .i64 23, .agg #[.int .i64 2, .int .i64 a], .agg #[.int .i64 2, .int .i64 b]] w fun e w' => e = .returned (.agg #[.int .i64 2, .int .i64 R, .int .i64 0, .bool false]) ∧ Below w.heap.size w w' := by
  have HF := Aside0.mk hR
  have HK := Aside0.mk hk
  clear hR hk
  go_enter Tryz.func54, Tryz.ntmps54
  go_wp2_with fail
  go_region_with (first | (go_at_call 108; (with_reducible refine (wholes_calls _ _ _ HK.out _).mono ?_); rintro e w2 ⟨rfl, hb2⟩; obtain ⟨hc2, hf2⟩ := bcell hb2; have hz2 : w.heap.size + 2 < w2.heap.size := by have := hb2.size; simp at this; omega) | ((with_reducible refine (HF.out _).mono ?_); rintro e w3 ⟨rfl, rfl⟩) | (go_at_call 83; (with_reducible refine (number_calls _ _).mono ?_); rintro e w4 ⟨rfl, hb4⟩; obtain ⟨hc4, hf4⟩ := bcell hb4))
  all_goals
    have HE := Aside0.mk (bin_end (Below.refl _ _).drew hb2 hb4)
    clear hc2 hf2 hc4 hf4 hb2 hb4
    go_wp2_with fail
    exact bodyPost_ret (results_cell_row rfl _ _ (w.heap.size + 1 + 1) 90 _ (0, 0) _ rfl (four_cells _ _ _ _ HE.out.1) Tryz.underlying90 rfl (by kernel_rfl)) rfl ⟨rfl, four_below _ _ _ _ HE.out.2 (by omega)⟩
theorem enters_140 (args : Array Value) (W : World) : (callFunc 140 args).run Tryz.prog W = .ok (.enter 140 args) W := by kernel_rfl
theorem enters_143 (args : Array Value) (W : World) : (callFunc 143 args).run Tryz.prog W = .ok (.enter 143 args) W := by kernel_rfl
theorem enters_149 (args : Array Value) (W : World) : (callFunc 149 args).run Tryz.prog W = .ok (.enter 149 args) W := by kernel_rfl
end Go.Proofs.YtkeneiahhmbojaaGreatDoor
