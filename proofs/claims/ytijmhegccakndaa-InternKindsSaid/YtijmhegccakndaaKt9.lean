/-
  An index of places: At.
-/
import Derived.Test.YtijmhegccakndaaKt8
namespace Go.Proofs.Ytijmhegccakndaa
open Go.RowKit Go.Maps Go.WideMaps
open Go.ChangeMaps (setBlock)
open Go.Proofs.YtijmhegccakndaaW.PrintWords Go.Proofs.YtijmhegccakndaaW.PrintMore

set_option maxRecDepth 100000 in
theorem at_yes_P (w : World) (b bm : Nat) (v : Value) (D : DataW Unit) (row : List Nat) (t : Nat) (i : Nat) (h : IxK KTp w b bm v D row) (hi : row[i]? = some t) :
    Calls Try.prog 31 #[.pointer (some ⟨b, 0, none⟩), .int .i64 (i : Int)] w fun e w' => e = .returned (.tuple #[KTp.val t, .bool true]) ∧ Below w.heap.size w w' := by
  have hlt : i < row.length := (List.getElem?_eq_some_iff.1 hi).1
  have hsm := h.small
  obtain ⟨g, cap, rfl, _, _⟩ := h.items.form (by omega)
  have hblt : b < w.heap.size := h.lt b (.inl rfl)
  have hglt : g < w.heap.size := h.lt g (.inr (.inr rfl))
  have ci : ∀ j, j < 2 → w.cell? ⟨g, i * 2 + j, none⟩ = (KTp.cells t)[j]? := by
    intro j hj
    rw [h.items.cellAt (i * 2 + j) (by rw [show KTp.n = 2 from rfl]; omega)]
    exact KT.row_cell okP row i t j hi hj
  have c1 := (cell_ofK h.block).2.1
  have HC := Aside0.mk (fun (o : Obj) (p : Addr) (hp : p.block < w.heap.size) => (World.cell?_of_block (w := w) (a := p) (Below.heap_alloc w o p.block hp) : (w.alloc o).cell? p = w.cell? p))
  have k1 : (w.alloc (.cells #[.int .i64 0, .int .i64 0] 44)).cell? ⟨b, 1, none⟩ = some (.slice (some ⟨g, 0, none⟩) row.length cap) := (HC.out _ _ hblt).trans c1
  have k2 : (w.alloc (.cells #[.int .i64 0, .int .i64 0] 44)).cell? ⟨g, i * 2, none⟩ = some (.int .i64 ((t / 2 : Nat) : Int)) := (HC.out _ _ hglt).trans (ci 0 (by decide))
  have k3 : (w.alloc (.cells #[.int .i64 0, .int .i64 0] 44)).cell? ⟨g, i * 2 + 1, none⟩ = some (.int .i64 ((t % 2 : Nat) : Int)) := (HC.out _ _ hglt).trans (ci 1 (by decide))
  obtain ⟨a0, h0⟩ : ∃ a : Int, a = ((t / 2 : Nat) : Int) := ⟨_, rfl⟩
  obtain ⟨a1, h1⟩ : ∃ a : Int, a = ((t % 2 : Nat) : Int) := ⟨_, rfl⟩
  rw [← h0] at k2
  rw [← h1] at k3
  rw [show KTp.val t = .agg #[.int .i64 a0, .int .i64 a1] by rw [h0, h1]; rfl]
  have p0 : decide ((i : Int) < 0) = false := decide_eq_false (by omega)
  have p1 : decide ((row.length : Int) ≤ (i : Int)) = false := decide_eq_false (by omega)
  have p2 : (i : Int) < (row.length : Int) := by omega
  have p3 : decide (row.length ≤ i) = false := decide_eq_false (by omega)
  clear h hi ci c1 h0 h1
  go_enter Try.func31, Try.ntmps31
  go_wp2_with fail
  exact bodyPost_ret (results_ct rfl _ _ w.heap.size 44 #[.int .i64 a0, .int .i64 a1] (0, 0) _ rfl (heap_alloc_new w _) Try.underlying44 rfl (by kernel_rfl)) rfl ⟨rfl, (Below.refl _ _).alloc (Nat.le_refl _) _⟩
set_option maxRecDepth 100000 in
theorem at_no_P (w : World) (b bm : Nat) (v : Value) (D : DataW Unit) (row : List Nat) (i : Nat) (h : IxK KTp w b bm v D row) (hi : row.length ≤ i) (hi2 : i ≤ 9223372036854775807) :
    Calls Try.prog 31 #[.pointer (some ⟨b, 0, none⟩), .int .i64 (i : Int)] w fun e w' => e = .returned (.tuple #[.agg #[.int .i64 0, .int .i64 0], .bool false]) ∧ Below w.heap.size w w' := by
  obtain ⟨A, c, rfl⟩ := h.slice
  have hblt : b < w.heap.size := h.lt b (.inl rfl)
  have c1 := (cell_ofK h.block).2.1
  have k1 : (w.alloc (.cells #[.int .i64 0, .int .i64 0] 44)).cell? ⟨b, 1, none⟩ = some (.slice A row.length c) := (World.cell?_of_block (w := w) (a := (⟨b, 1, none⟩ : Addr)) (Below.heap_alloc w _ b hblt)).trans c1
  have p0 : decide ((i : Int) < 0) = false := decide_eq_false (by omega)
  have p1 : decide ((row.length : Int) ≤ (i : Int)) = true := decide_eq_true (by omega)
  have p3 : decide (row.length ≤ i) = true := decide_eq_true hi
  clear h hi c1
  go_enter Try.func31, Try.ntmps31
  go_wp2_with fail
  exact bodyPost_ret (results_ct rfl _ _ w.heap.size 44 #[.int .i64 0, .int .i64 0] (0, 0) _ rfl ((Below.heap_alloc _ _ _ (by simp)).trans (heap_alloc_new w _)) Try.underlying44 rfl (by kernel_rfl)) rfl ⟨rfl, ((Below.refl _ _).alloc (Nat.le_refl _) _).alloc (by simp) _⟩
end Go.Proofs.Ytijmhegccakndaa
