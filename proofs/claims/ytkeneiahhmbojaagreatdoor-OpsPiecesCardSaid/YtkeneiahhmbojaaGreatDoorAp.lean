/-
  Apply, where it gives a value and where it traps.
-/
import Derived.Test.YtkeneiahhmbojaaGreatDoorUn
import Derived.StillTailTactics
import Derived.RegionTactic
import Derived.ChangeAlike
namespace Go.Proofs.YtkeneiahhmbojaaGreatDoor
open Go.RowKit Go.MapKept
open Go.Proofs.YtkeneiahhmbojaaGreatDoorW.PrintWords Go.Proofs.YtkeneiahhmbojaaGreatDoorW.PrintMore

theorem two_cells {w : World} {P ty : Nat} {c0 c1 : Value} (v0 v1 : Value) (h : w.heap[P]? = some (.cells #[c0, c1] ty (0, 0))) :
    ((w.setCell ⟨P, 0, none⟩ v0).setCell ⟨P, 1, none⟩ v1).heap[P]? = some (.cells #[v0, v1] ty (0, 0)) := by
  rw [heap_setCell_same _ P 1 _ ty v1 (heap_setCell_same w P 0 _ ty v0 h)]
  simp
theorem two_below {B : Nat} {w0 w : World} {P : Nat} (v0 v1 : Value) (h : Below B w0 w) (hP : B ≤ P) : Below B w0 ((w.setCell ⟨P, 0, none⟩ v0).setCell ⟨P, 1, none⟩ v1) :=
  (h.setCell (p := ⟨P, 0, none⟩) hP _).setCell (p := ⟨P, 1, none⟩) hP _
set_option maxRecDepth 100000 in
theorem apply_val (k A : Int) (p : Value) (g m : Nat) (pt D0 D1 : Int) (w : World) (hg : g < w.heap.size)
    (hE : ∀ w, Calls Tryz.prog 32 #[.agg #[.int .i64 k, .int .i64 A]] w fun e w' => e = .returned (.tuple #[.int .i64 (m : Int), .int .i64 pt, .bool true]) ∧ Below w.heap.size w w')
    (hA : ∀ w, Calls Tryz.prog 33 #[.int .i64 k] w fun e w' => e = .returned (.bool true) ∧ w = w')
    (hD : ∀ W, W.heap[g]? = w.heap[g]? → Calls Tryz.prog 34 #[p, .agg #[.int .i64 k, .int .i64 A], .slice (some ⟨g, 0, none⟩) m m] W fun e w' => e = .returned (.agg #[.int .i64 D0, .int .i64 D1, .int .i64 0, .bool false]) ∧ Below W.heap.size W w') :
    Calls Tryz.prog 17 #[p, .agg #[.int .i64 k, .int .i64 A], .slice (some ⟨g, 0, none⟩) m m] w fun e w' => e = .returned (.tuple #[.agg #[.int .i64 D0, .int .i64 D1], .int .i64 0, .bool true]) ∧ Below w.heap.size w w' := by
  have HE := Aside0.mk hE
  have HA := Aside0.mk hA
  have HD := Aside0.mk hD
  have HL := Aside0.mk hg
  clear hE hA hD hg
  go_enter Tryz.func17, Tryz.ntmps17
  go_wp2_with fail
  refine (HE.out _).mono ?_
  rintro e w1 ⟨rfl, hb⟩
  obtain ⟨hc1, hf1⟩ := bcell hb
  have hz : w.heap.size + 1 < w1.heap.size := by have := hb.size; simp at this; omega
  have HG1 := Aside0.mk ((hb.block _ (by simp)).trans (heap_alloc2_new w (.cells #[.int .i64 k, .int .i64 A] 54) (.cells #[.int .i64 0, .int .i64 0] 41)))
  have HB1 := Aside0.mk ((((below_alloc1 w (.cells #[.int .i64 k, .int .i64 A] 54)).alloc (by simp) (.cells #[.int .i64 0, .int .i64 0] 41))).trans (hb.mono (by simp; omega)))
  clear hb
  go_wp2_with fail
  refine (HA.out _).mono ?_
  rintro e w2 ⟨rfl, rfl⟩
  have hmm : ((m : Int) != (m : Int)) = false := by simp
  go_wp2_with fail
  refine (HD.out w1 (HB1.out.block _ HL.out)).mono ?_
  rintro e w3 ⟨rfl, hb3⟩
  have HG3 := Aside0.mk ((hb3.block _ (Array.getElem?_eq_some_iff.1 HG1.out).1).trans HG1.out)
  have HB3 := Aside0.mk (HB1.out.trans (hb3.mono HB1.out.size))
  clear hb3 hc1 hf1
  have HG4 := Aside0.mk (fun o => (Below.heap_alloc w3 o _ (Array.getElem?_eq_some_iff.1 HG3.out).1).trans HG3.out)
  go_wp2_with (with_reducible refine wpList_store_row rfl 41 _ _ rfl (w.heap.size + 1) #[.int .i64 D0, .int .i64 D1] rfl rfl 41 _ (HG4.out _) (by kernel_rfl) (by kernel_rfl) (by kernel_rfl) ?_)
  exact bodyPost_ret (results_ctt rfl _ _ (w.heap.size + 1) 41 _ (0, 0) _ rfl (setRow_heap _ _ _ _ _ _ (HG4.out _)) Tryz.underlying41 rfl (by kernel_rfl)) rfl ⟨rfl, below_setRow (HB3.out.alloc HB3.out.size _) (by omega) _⟩
set_option maxRecDepth 100000 in
theorem apply_trap (k A : Int) (p : Value) (g m : Nat) (pt D2 : Int) (hD2 : (D2 != 0) = true) (w : World) (hg : g < w.heap.size)
    (hE : ∀ w, Calls Tryz.prog 32 #[.agg #[.int .i64 k, .int .i64 A]] w fun e w' => e = .returned (.tuple #[.int .i64 (m : Int), .int .i64 pt, .bool true]) ∧ Below w.heap.size w w')
    (hA : ∀ w, Calls Tryz.prog 33 #[.int .i64 k] w fun e w' => e = .returned (.bool true) ∧ w = w')
    (hD : ∀ W, W.heap[g]? = w.heap[g]? → Calls Tryz.prog 34 #[p, .agg #[.int .i64 k, .int .i64 A], .slice (some ⟨g, 0, none⟩) m m] W fun e w' => e = .returned (.agg #[.int .i64 0, .int .i64 0, .int .i64 D2, .bool false]) ∧ Below W.heap.size W w') :
    Calls Tryz.prog 17 #[p, .agg #[.int .i64 k, .int .i64 A], .slice (some ⟨g, 0, none⟩) m m] w fun e w' => e = .returned (.tuple #[.agg #[.int .i64 0, .int .i64 0], .int .i64 D2, .bool true]) ∧ Below w.heap.size w w' := by
  have HE := Aside0.mk hE
  have HA := Aside0.mk hA
  have HD := Aside0.mk hD
  have HL := Aside0.mk hg
  clear hE hA hD hg
  go_enter Tryz.func17, Tryz.ntmps17
  go_wp2_with fail
  refine (HE.out _).mono ?_
  rintro e w1 ⟨rfl, hb⟩
  obtain ⟨hc1, hf1⟩ := bcell hb
  have hz : w.heap.size + 1 < w1.heap.size := by have := hb.size; simp at this; omega
  have HG1 := Aside0.mk ((hb.block _ (by simp)).trans (heap_alloc2_new w (.cells #[.int .i64 k, .int .i64 A] 54) (.cells #[.int .i64 0, .int .i64 0] 41)))
  have HB1 := Aside0.mk ((((below_alloc1 w (.cells #[.int .i64 k, .int .i64 A] 54)).alloc (by simp) (.cells #[.int .i64 0, .int .i64 0] 41))).trans (hb.mono (by simp; omega)))
  clear hb
  go_wp2_with fail
  refine (HA.out _).mono ?_
  rintro e w2 ⟨rfl, rfl⟩
  have hmm : ((m : Int) != (m : Int)) = false := by simp
  go_wp2_with fail
  refine (HD.out w1 (HB1.out.block _ HL.out)).mono ?_
  rintro e w3 ⟨rfl, hb3⟩
  have HG3 := Aside0.mk ((hb3.block _ (Array.getElem?_eq_some_iff.1 HG1.out).1).trans HG1.out)
  have HB3 := Aside0.mk (HB1.out.trans (hb3.mono HB1.out.size))
  clear hb3 hc1 hf1
  go_upto_region 6 with (fail)
  obtain ⟨O, hO⟩ : ∃ O, O = Obj.cells #[.int .i64 0, .int .i64 0, .int .i64 D2, .bool false] 90 := ⟨_, rfl⟩
  rw [← hO]
  obtain ⟨W, hW⟩ : ∃ W, W = w3.alloc O := ⟨_, rfl⟩
  rw [← hW]
  have hc : ∀ j, W.cell? ⟨w3.heap.size, j, none⟩ = #[Value.int .i64 0, .int .i64 0, .int .i64 D2, .bool false][j]? := by
    intro j
    rw [cell_of_row W _ j #[.int .i64 0, .int .i64 0, .int .i64 D2, .bool false] 90 (0, 0) (by rw [hW, ← hO]; exact heap_alloc_last w3 O)]
  have c2 := hc 2
  have c3 := hc 3
  simp at c2 c3
  have HG4 := Aside0.mk (show W.heap[w.heap.size + 1]? = some (.cells #[.int .i64 0, .int .i64 0] 41 (0, 0)) by rw [hW]; exact (Below.heap_alloc w3 O _ (Array.getElem?_eq_some_iff.1 HG3.out).1).trans HG3.out)
  have HB4 := Aside0.mk (show Below w.heap.size w W by rw [hW]; exact HB3.out.alloc HB3.out.size _)
  have g0 : W.cell? ⟨w.heap.size + 1, 0, none⟩ = some (.int .i64 0) := by rw [cell_of_row W _ 0 _ _ _ HG4.out]; rfl
  have g1 : W.cell? ⟨w.heap.size + 1, 1, none⟩ = some (.int .i64 0) := by rw [cell_of_row W _ 1 _ _ _ HG4.out]; rfl
  have f0 : W.frozen? ⟨w.heap.size + 1, 0, none⟩ = false := frozen_of_row W _ 0 _ _ HG4.out
  have f1 : W.frozen? ⟨w.heap.size + 1, 1, none⟩ = false := frozen_of_row W _ 1 _ _ HG4.out
  have hne : w3.heap.size ≠ w.heap.size + 1 := by have := HB3.out.size; have := (Array.getElem?_eq_some_iff.1 HG3.out).1; omega
  have hne2 : w.heap.size + 1 ≠ w3.heap.size := fun h => hne h.symm
  clear hc hO hW
  go_region
  all_goals
    go_wp2_with fail
    exact bodyPost_ret (results_ctt rfl _ _ (w.heap.size + 1) 41 _ (0, 0) _ rfl (show World.drew _ |>.heap[w.heap.size + 1]? = _ from two_cells _ _ HG4.out) Tryz.underlying41 rfl (by kernel_rfl)) rfl ⟨rfl, (two_below _ _ HB4.out (by omega)).drew⟩
end Go.Proofs.YtkeneiahhmbojaaGreatDoor
