/-
  An index of any of the law's kinds of things: New, Len, Find at each of the four kinds. (Printed by wip/tools/kt3.py.)
-/
import Derived.Test.YtijmhegccakndaaKt2
namespace Go.Proofs.Ytijmhegccakndaa
open Go.RowKit Go.Maps Go.WideMaps
open Go.ChangeMaps (setBlock)
open Go.Proofs.YtijmhegccakndaaW.PrintWords Go.Proofs.YtijmhegccakndaaW.PrintMore
variable {K : KT}

/-- the place of a thing in the row; and what Find answers -/
def poN (row : List Nat) (t : Nat) : Nat := row.idxOf t
def fiN (row : List Nat) (t : Nat) : Nat := if t ∈ row then poN row t else 0
theorem poN_get {row : List Nat} {t : Nat} (h : t ∈ row) : row[poN row t]? = some t := by
  unfold poN
  rw [List.getElem?_eq_getElem (List.idxOf_lt_length_of_mem h), List.getElem_idxOf]
theorem poN_not {row : List Nat} {t : Nat} (h : ¬ t ∈ row) : poN row t = row.length := List.idxOf_eq_length h
theorem IxK.look (ok : K.Ok) {w : World} {b bm : Nat} {v : Value} {D : DataW Unit} {row : List Nat} (h : IxK K w b bm v D row) (mt : TypeId) (hmt : Try.prog.underlying mt = some (.map K.key 3)) (t : Nat) (ht : t < 4) :
    (Instr.lookup mt (.map (some bm)) (K.val t) true).run Try.prog w = .ok (.tuple #[.int .i64 (fiN row t : Int), .bool (decide (t ∈ row))]) w := by
  obtain ⟨x, ps, hrun, hx⟩ := h.map.look_ok ok.keyed hmt (zero3 w) (plainElem_int (P := Try.prog) (H := Unit) Try.underlying3 (by decide)) (ok.keyOf t ht)
  obtain ⟨c, rfl, hc, hwc⟩ := plainElem_int_inv Try.underlying3 hx
  rw [hrun]
  have hhas : Maps.has D (K.lit t) = decide (t ∈ row) := by
    by_cases hm : t ∈ row
    · rw [(h.agree.has t ht).2 hm, decide_eq_true hm]
    · cases e : Maps.has D (K.lit t) with
      | false => rw [decide_eq_false hm]
      | true => exact absurd ((h.agree.has t ht).1 e) hm
  rw [hhas]
  have hcc : c = (fiN row t : Int) := by
    have h1 := congrArg Prod.fst hc
    simp only [] at h1
    unfold fiN
    by_cases hm : t ∈ row
    · rw [if_pos hm]
      rw [h.agree.at_ _ t (poN_get hm)] at h1
      simpa using h1.symm
    · rw [if_neg hm]
      have hno : Maps.has D (K.lit t) = false := by rw [hhas, decide_eq_false hm]
      rw [Maps.atKey_of_not_has hno] at h1
      simpa using h1.symm
  rw [hcc]

theorem new_S (w : World) :
    Calls Try.prog 10 #[] w fun e w' => e = .returned (.pointer (some ⟨w.heap.size + 1, 0, none⟩)) ∧ (w.alloc (.map #[] 0)).alloc (.cells #[.map (some w.heap.size), .slice none 0 0] 96) = w' := by
  have hmm := @run_makeMap Try.prog
  go_enter Try.func10, Try.ntmps10
  go_wp2
  go_ret
  exact ⟨rfl, rfl⟩
theorem len_S (w : World) (b bm : Nat) (v : Value) (D : DataW Unit) (row : List Nat) (h : IxK KTs w b bm v D row) :
    Calls Try.prog 14 #[.pointer (some ⟨b, 0, none⟩)] w fun e w' => e = .returned (.int .i64 (row.length : Int)) ∧ w = w' := by
  obtain ⟨A, c, rfl⟩ := h.slice
  have c1 := (cell_ofK h.block).2.1
  clear h
  go_enter Try.func14, Try.ntmps14
  go_wp2
  go_ret
  exact ⟨rfl, rfl⟩
theorem mapT_S : Try.prog.underlying 94 = some (.map KTs.key 3) := Try.underlying94
theorem find_S (w : World) (b bm : Nat) (v : Value) (D : DataW Unit) (row : List Nat) (t : Nat) (h : IxK KTs w b bm v D row) (ht : t < 4) :
    Calls Try.prog 15 #[.pointer (some ⟨b, 0, none⟩), KTs.val t] w fun e w' => e = .returned (.tuple #[.int .i64 (fiN row t : Int), .bool (decide (t ∈ row))]) ∧ Below w.heap.size w w' := by
  have c0 := (cell_ofK h.block).1
  have hlk := h.look okS 94 mapT_S t ht
  obtain ⟨x, hx⟩ : ∃ x, x = KTs.val t := ⟨_, rfl⟩
  rw [← hx] at hlk ⊢
  clear h hx ht
  go_enter Try.func15, Try.ntmps15
  go_wp2
  go_ret2
  exact ⟨rfl, Below.refl _ _⟩

theorem new_P (w : World) :
    Calls Try.prog 20 #[] w fun e w' => e = .returned (.pointer (some ⟨w.heap.size + 1, 0, none⟩)) ∧ (w.alloc (.map #[] 0)).alloc (.cells #[.map (some w.heap.size), .slice none 0 0] 101) = w' := by
  have hmm := @run_makeMap Try.prog
  go_enter Try.func20, Try.ntmps20
  go_wp2
  go_ret
  exact ⟨rfl, rfl⟩
theorem len_P (w : World) (b bm : Nat) (v : Value) (D : DataW Unit) (row : List Nat) (h : IxK KTp w b bm v D row) :
    Calls Try.prog 35 #[.pointer (some ⟨b, 0, none⟩)] w fun e w' => e = .returned (.int .i64 (row.length : Int)) ∧ w = w' := by
  obtain ⟨A, c, rfl⟩ := h.slice
  have c1 := (cell_ofK h.block).2.1
  clear h
  go_enter Try.func35, Try.ntmps35
  go_wp2
  go_ret
  exact ⟨rfl, rfl⟩
theorem mapT_P : Try.prog.underlying 98 = some (.map KTp.key 3) := Try.underlying98
set_option maxRecDepth 100000 in
theorem find_P (w : World) (b bm : Nat) (v : Value) (D : DataW Unit) (row : List Nat) (t : Nat) (h : IxK KTp w b bm v D row) (ht : t < 4) :
    Calls Try.prog 28 #[.pointer (some ⟨b, 0, none⟩), KTp.val t] w fun e w' => e = .returned (.tuple #[.int .i64 (fiN row t : Int), .bool (decide (t ∈ row))]) ∧ Below w.heap.size w w' := by
  have hb : ∀ o, (w.alloc o).cell? ⟨b, 0, none⟩ = some (.map (some bm)) := fun o => (cell_ofK (h.alloc o).block).1
  have hlk : ∀ o (n : Nat), (Instr.lookup 98 (.map (some bm)) (.agg #[Value.int .i64 ((t / 2 : Nat) : Int), Value.int .i64 ((t % 2 : Nat) : Int)]) true).run Try.prog ((w.alloc o).drewN n) = .ok (.tuple #[.int .i64 (fiN row t : Int), .bool (decide (t ∈ row))]) ((w.alloc o).drewN n) := fun o n => ((h.alloc o).drewN n).look okP 98 mapT_P t ht
  show Calls Try.prog 28 #[.pointer (some ⟨b, 0, none⟩), .agg #[Value.int .i64 ((t / 2 : Nat) : Int), Value.int .i64 ((t % 2 : Nat) : Int)]] w _
  obtain ⟨a0, h0⟩ : ∃ a : Int, a = ((t / 2 : Nat) : Int) := ⟨_, rfl⟩
  obtain ⟨a1, h1⟩ : ∃ a : Int, a = ((t % 2 : Nat) : Int) := ⟨_, rfl⟩
  simp only [← h0, ← h1] at hlk ⊢
  clear h ht h0 h1
  go_enter Try.func28, Try.ntmps28
  go_wp2_with fail
  have c0 := hb (.cells #[Value.int .i64 a0, Value.int .i64 a1] 44)
  have hl2 := hlk (.cells #[Value.int .i64 a0, Value.int .i64 a1] 44)
  clear hb hlk
  obtain ⟨W, hW⟩ : ∃ W, W = w.alloc (.cells #[Value.int .i64 a0, Value.int .i64 a1] 44) := ⟨_, rfl⟩
  have HBW := Aside0.mk (show Below w.heap.size w W by rw [hW]; exact (Below.refl _ _).alloc (Nat.le_refl _) _)
  have hcells := heap_alloc_new w (.cells #[Value.int .i64 a0, Value.int .i64 a1] 44)
  rw [← hW] at c0 hl2 hcells ⊢
  have e0 : W.cell? ⟨w.heap.size, 0, none⟩ = some (Value.int .i64 a0) := by simp [World.cell?, hcells]
  have e1 : W.cell? ⟨w.heap.size, 1, none⟩ = some (Value.int .i64 a1) := by simp [World.cell?, hcells]
  clear hcells hW
  repeat (go_quiet (fail); try go_wp2_with fail)
  go_ret2
  exact ⟨rfl, pw_below_drewN HBW.out _⟩

theorem new_B (w : World) :
    Calls Try.prog 21 #[] w fun e w' => e = .returned (.pointer (some ⟨w.heap.size + 1, 0, none⟩)) ∧ (w.alloc (.map #[] 0)).alloc (.cells #[.map (some w.heap.size), .slice none 0 0] 105) = w' := by
  have hmm := @run_makeMap Try.prog
  go_enter Try.func21, Try.ntmps21
  go_wp2
  go_ret
  exact ⟨rfl, rfl⟩
theorem len_B (w : World) (b bm : Nat) (v : Value) (D : DataW Unit) (row : List Nat) (h : IxK KTb w b bm v D row) :
    Calls Try.prog 36 #[.pointer (some ⟨b, 0, none⟩)] w fun e w' => e = .returned (.int .i64 (row.length : Int)) ∧ w = w' := by
  obtain ⟨A, c, rfl⟩ := h.slice
  have c1 := (cell_ofK h.block).2.1
  clear h
  go_enter Try.func36, Try.ntmps36
  go_wp2
  go_ret
  exact ⟨rfl, rfl⟩
theorem mapT_B : Try.prog.underlying 102 = some (.map KTb.key 3) := Try.underlying102
theorem find_B (w : World) (b bm : Nat) (v : Value) (D : DataW Unit) (row : List Nat) (t : Nat) (h : IxK KTb w b bm v D row) (ht : t < 4) :
    Calls Try.prog 29 #[.pointer (some ⟨b, 0, none⟩), KTb.val t] w fun e w' => e = .returned (.tuple #[.int .i64 (fiN row t : Int), .bool (decide (t ∈ row))]) ∧ Below w.heap.size w w' := by
  have c0 := (cell_ofK h.block).1
  have hlk := h.look okB 102 mapT_B t ht
  obtain ⟨x, hx⟩ : ∃ x, x = KTb.val t := ⟨_, rfl⟩
  rw [← hx] at hlk ⊢
  clear h hx ht
  go_enter Try.func29, Try.ntmps29
  go_wp2
  go_ret2
  exact ⟨rfl, Below.refl _ _⟩

theorem new_A (w : World) :
    Calls Try.prog 22 #[] w fun e w' => e = .returned (.pointer (some ⟨w.heap.size + 1, 0, none⟩)) ∧ (w.alloc (.map #[] 0)).alloc (.cells #[.map (some w.heap.size), .slice none 0 0] 109) = w' := by
  have hmm := @run_makeMap Try.prog
  go_enter Try.func22, Try.ntmps22
  go_wp2
  go_ret
  exact ⟨rfl, rfl⟩
theorem len_A (w : World) (b bm : Nat) (v : Value) (D : DataW Unit) (row : List Nat) (h : IxK KTa w b bm v D row) :
    Calls Try.prog 37 #[.pointer (some ⟨b, 0, none⟩)] w fun e w' => e = .returned (.int .i64 (row.length : Int)) ∧ w = w' := by
  obtain ⟨A, c, rfl⟩ := h.slice
  have c1 := (cell_ofK h.block).2.1
  clear h
  go_enter Try.func37, Try.ntmps37
  go_wp2
  go_ret
  exact ⟨rfl, rfl⟩
theorem mapT_A : Try.prog.underlying 106 = some (.map KTa.key 3) := Try.underlying106
set_option maxRecDepth 100000 in
theorem find_A (w : World) (b bm : Nat) (v : Value) (D : DataW Unit) (row : List Nat) (t : Nat) (h : IxK KTa w b bm v D row) (ht : t < 4) :
    Calls Try.prog 30 #[.pointer (some ⟨b, 0, none⟩), KTa.val t] w fun e w' => e = .returned (.tuple #[.int .i64 (fiN row t : Int), .bool (decide (t ∈ row))]) ∧ Below w.heap.size w w' := by
  have hb : ∀ o, (w.alloc o).cell? ⟨b, 0, none⟩ = some (.map (some bm)) := fun o => (cell_ofK (h.alloc o).block).1
  have hlk : ∀ o (n : Nat), (Instr.lookup 106 (.map (some bm)) (.agg #[Value.bool (decide (t / 2 = 1)), Value.bool (decide (t % 2 = 1))]) true).run Try.prog ((w.alloc o).drewN n) = .ok (.tuple #[.int .i64 (fiN row t : Int), .bool (decide (t ∈ row))]) ((w.alloc o).drewN n) := fun o n => ((h.alloc o).drewN n).look okA 106 mapT_A t ht
  show Calls Try.prog 30 #[.pointer (some ⟨b, 0, none⟩), .agg #[Value.bool (decide (t / 2 = 1)), Value.bool (decide (t % 2 = 1))]] w _
  obtain ⟨a0, h0⟩ : ∃ a : Bool, a = decide (t / 2 = 1) := ⟨_, rfl⟩
  obtain ⟨a1, h1⟩ : ∃ a : Bool, a = decide (t % 2 = 1) := ⟨_, rfl⟩
  simp only [← h0, ← h1] at hlk ⊢
  clear h ht h0 h1
  go_enter Try.func30, Try.ntmps30
  go_wp2_with fail
  have c0 := hb (.cells #[Value.bool a0, Value.bool a1] 50)
  have hl2 := hlk (.cells #[Value.bool a0, Value.bool a1] 50)
  clear hb hlk
  obtain ⟨W, hW⟩ : ∃ W, W = w.alloc (.cells #[Value.bool a0, Value.bool a1] 50) := ⟨_, rfl⟩
  have HBW := Aside0.mk (show Below w.heap.size w W by rw [hW]; exact (Below.refl _ _).alloc (Nat.le_refl _) _)
  have hcells := heap_alloc_new w (.cells #[Value.bool a0, Value.bool a1] 50)
  rw [← hW] at c0 hl2 hcells ⊢
  have e0 : W.cell? ⟨w.heap.size, 0, none⟩ = some (Value.bool a0) := by simp [World.cell?, hcells]
  have e1 : W.cell? ⟨w.heap.size, 1, none⟩ = some (Value.bool a1) := by simp [World.cell?, hcells]
  clear hcells hW
  repeat (go_quiet (fail); try go_wp2_with fail)
  go_ret2
  exact ⟨rfl, pw_below_drewN HBW.out _⟩
end Go.Proofs.Ytijmhegccakndaa
