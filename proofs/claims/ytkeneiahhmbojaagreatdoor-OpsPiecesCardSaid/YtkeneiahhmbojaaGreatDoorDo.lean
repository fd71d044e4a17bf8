/-
  do on whole numbers.
-/
import Derived.Test.YtkeneiahhmbojaaGreatDoorBi
import Derived.StillTailTactics
namespace Go.Proofs.YtkeneiahhmbojaaGreatDoor
open Go.RowKit Go.MapKept
open Go.Proofs.YtkeneiahhmbojaaGreatDoorW.PrintWords Go.Proofs.YtkeneiahhmbojaaGreatDoorW.PrintMore

/-- what it comes to: a done value -/
abbrev DoneN (R : Int) : Value := .agg #[.int .i64 2, .int .i64 R, .int .i64 0, .bool false]
set_option maxHeartbeats 4000000 in
set_option maxRecDepth 100000 in
theorem do_bin (k : Int) (hk : k ≠ 25 ∧ k ≠ 26 ∧ k ≠ 27 ∧ k ≠ 28 ∧ k ≠ 29 ∧ k ≠ 30 ∧ k ≠ 31 ∧ k ≠ 32 ∧ k ≠ 34 ∧ k ≠ 35 ∧ k ≠ 38 ∧ k ≠ 39 ∧ k ≠ 24 ∧ k ≠ 47 ∧ k ≠ 48 ∧ k ≠ 62 ∧ k ≠ 46 ∧ k ≠ 49 ∧ k ≠ 50 ∧ k ≠ 51 ∧ k ≠ 52 ∧ k ≠ 57 ∧ k ≠ 65 ∧ k ≠ 53 ∧ k ≠ 54 ∧ k ≠ 55 ∧ k ≠ 56 ∧ k ≠ 17 ∧ k ≠ 21 ∧ k ≠ 36 ∧ k ≠ 37 ∧ k ≠ 33)
    (p : Value) (A : Int) (g : Nat) (a b : Int) (D0 D1 D2 : Int) (D3 : Bool) (w : World) (hg : w.heap[g]? = some (.cells #[.int .i64 2, .int .i64 a, .int .i64 2, .int .i64 b] 41 (0, 0)))
    (hR : ∀ w, Calls Tryz.prog 54 #[.int .i64 k, .agg #[.int .i64 2, .int .i64 a], .agg #[.int .i64 2, .int .i64 b]] w fun e w' => e = .returned (.agg #[.int .i64 D0, .int .i64 D1, .int .i64 D2, .bool D3]) ∧ Below w.heap.size w w') :
    Calls Tryz.prog 34 #[p, .agg #[.int .i64 k, .int .i64 A], .slice (some ⟨g, 0, none⟩) 2 2] w fun e w' => e = .returned (.agg #[.int .i64 D0, .int .i64 D1, .int .i64 D2, .bool D3]) ∧ Below w.heap.size w w' := by
  have HF := Aside0.mk hR
  have hlt : g < w.heap.size := (Array.getElem?_eq_some_iff.1 hg).1
  have HL := Aside0.mk hlt
  obtain ⟨h1, h2, h3, h4, h5, h6, h7, h8, h9, h10, h11, h12, h13, h14, h15, h16, h17, h18, h19, h20, h21, h22, h23, h24, h25, h26, h27, h28, h29, h30, h31, h32⟩ := hk
  have q1 : (k == 25) = false := by simp [h1]
  have q2 : (k == 26) = false := by simp [h2]
  have q3 : (k == 27) = false := by simp [h3]
  have q4 : (k == 28) = false := by simp [h4]
  have q5 : (k == 29) = false := by simp [h5]
  have q6 : (k == 30) = false := by simp [h6]
  have q7 : (k == 31) = false := by simp [h7]
  have q8 : (k == 32) = false := by simp [h8]
  have q9 : (k == 34) = false := by simp [h9]
  have q10 : (k == 35) = false := by simp [h10]
  have q11 : (k == 38) = false := by simp [h11]
  have q12 : (k == 39) = false := by simp [h12]
  have q13 : (k == 24) = false := by simp [h13]
  have q14 : (k == 47) = false := by simp [h14]
  have q15 : (k == 48) = false := by simp [h15]
  have q16 : (k == 62) = false := by simp [h16]
  have q17 : (k == 46) = false := by simp [h17]
  have q18 : (k == 49) = false := by simp [h18]
  have q19 : (k == 50) = false := by simp [h19]
  have q20 : (k == 51) = false := by simp [h20]
  have q21 : (k == 52) = false := by simp [h21]
  have q22 : (k == 57) = false := by simp [h22]
  have q23 : (k == 65) = false := by simp [h23]
  have q24 : (k == 53) = false := by simp [h24]
  have q25 : (k == 54) = false := by simp [h25]
  have q26 : (k == 55) = false := by simp [h26]
  have q27 : (k == 56) = false := by simp [h27]
  have q28 : (k == 17) = false := by simp [h28]
  have q29 : (k == 21) = false := by simp [h29]
  have q30 : (k == 36) = false := by simp [h30]
  have q31 : (k == 37) = false := by simp [h31]
  have q32 : (k == 33) = false := by simp [h32]
  clear hR h1 h2 h3 h4 h5 h6 h7 h8 h9 h10 h11 h12 h13 h14 h15 h16 h17 h18 h19 h20 h21 h22 h23 h24 h25 h26 h27 h28 h29 h30 h31 h32
  go_enter Tryz.func34, Tryz.ntmps34
  go_upto_region 46 with (fail)
  obtain ⟨A1, hA1⟩ : ∃ o, o = Obj.cells #[.int .i64 k, .int .i64 A] 54 := ⟨_, rfl⟩
  obtain ⟨A2, hA2⟩ : ∃ o, o = Obj.cells #[.int .i64 0, .int .i64 0, .int .i64 0, .bool false] 90 := ⟨_, rfl⟩
  rw [← hA1, ← hA2]
  obtain ⟨W, hW⟩ : ∃ W, W = (w.alloc A1).alloc A2 := ⟨_, rfl⟩
  rw [← hW]
  have hB := show Below w.heap.size w W by rw [hW]; exact ((Below.refl _ _).alloc (Nat.le_refl _) _).alloc (by simp) _
  have hc : ∀ j, W.cell? ⟨g, j, none⟩ = #[Value.int .i64 2, .int .i64 a, .int .i64 2, .int .i64 b][j]? := by
    intro j
    rw [cell_of_row W g j _ 41 (0, 0) ((hB.block _ hlt).trans hg)]
  have c0 := hc 0
  have c1 := hc 1
  have c2 := hc 2
  have c3 := hc 3
  have e0 : W.cell? ⟨w.heap.size, 0, none⟩ = some (.int .i64 k) := by
    rw [cell_of_row W _ 0 #[.int .i64 k, .int .i64 A] 54 (0, 0) (by rw [hW, ← hA1]; exact heap_alloc2_old w A1 A2)]
    rfl
  have HG := Aside0.mk (show W.heap[w.heap.size + 1]? = some (.cells #[.int .i64 0, .int .i64 0, .int .i64 0, .bool false] 90 (0, 0)) by rw [hW, ← hA2]; exact heap_alloc2_new w A1 A2)
  have HB := Aside0.mk hB
  simp at c0 c1 c2 c3
  clear hc hg hlt hW hA1 hA2 hB
  go_still_tail 8, (by kernel_rfl)
  change wpList _ _ _ _ _ W.drew
  have HG2 := Aside0.mk (show W.drew.heap[w.heap.size + 1]? = some (.cells #[.int .i64 0, .int .i64 0, .int .i64 0, .bool false] 90 (0, 0)) from HG.out)
  have HB2 := Aside0.mk (show Below w.heap.size w W.drew from HB.out.drew)
  clear HG HB c0 c1 c2 c3 e0
  generalize W.drew = w2 at *
  go_wp2_with fail
  refine (HF.out _).mono ?_
  rintro e w3 ⟨rfl, hb3⟩
  have HG3 := Aside0.mk ((hb3.block _ (Array.getElem?_eq_some_iff.1 HG2.out).1).trans HG2.out)
  have HB3 := Aside0.mk (HB2.out.trans (hb3.mono HB2.out.size))
  clear hb3
  go_wp2_with (with_reducible refine wpList_store_row rfl 90 _ _ rfl (w.heap.size + 1) #[.int .i64 D0, .int .i64 D1, .int .i64 D2, .bool D3] rfl rfl 90 _ HG3.out (by kernel_rfl) (by kernel_rfl) (by kernel_rfl) ?_)
  exact bodyPost_ret (results_cell_row rfl _ _ (w.heap.size + 1) 90 _ (0, 0) _ rfl (setRow_heap _ _ _ _ _ _ HG3.out) Tryz.underlying90 rfl (by kernel_rfl)) rfl ⟨rfl, below_setRow HB3.out (by omega) _⟩
end Go.Proofs.YtkeneiahhmbojaaGreatDoor
