/-
  An index of places or of pairs (things of two cells, boxed): Add. (Printed by wip/tools/kt5.py.)
-/
import Derived.Test.YtijmhegccakndaaKt4
import Derived.Deep.RegionLaw
namespace Go.Proofs.Ytijmhegccakndaa
open Go.RowKit Go.Maps Go.WideMaps
open Go.ChangeMaps (setBlock)
open Go.Proofs.YtijmhegccakndaaW.PrintWords Go.Proofs.YtijmhegccakndaaW.PrintMore
theorem AddedK.from_kept {K : KT} {w w0 : World} {b bm : Nat} {v : Value} {row : List Nat} {t : Nat} {e : Ending} {w' : World} (h : AddedK K w0 b bm v row t e w') (hk0 : Kp w w0 (Ix.S b bm v)) : AddedK K w b bm v row t e w' := by
  obtain ⟨he, v', D', hI, hk, ho⟩ := h
  refine ⟨he, v', D', hI, hk0.trans hk (fun j hj => .inl hj), ?_⟩
  rcases ho with ho | ⟨g, ho, hg⟩
  · exact .inl ho
  · exact .inr ⟨g, ho, Nat.le_trans hk0.size hg⟩
theorem step_run_append {P : Program} {w : World} {ops : Array Oper} {o : Oper} {a : Act} {Kc : Act → World → Prop} {Q : Exit → Act → World → Prop} {E : Prop} (hgd : o.guard = none) (s x : Operand) (t : TypeId)
    (ho : o.op = .call { callee := .builtin .append, args := #[s, x], argTypes := #[t, t] }) {v y v1 : Value} {w2 : World} (hs : a.eval s = v) (hx : a.eval x = y)
    (hr : (Builtin.append_ #[t, t] o.type #[v, y]).run P w = .ok v1 w2) (h : Kc (a.put o.dst v1) w2) : if Region.wanted o (yielded ops a.tmps) = true then Oper.wp P o a w Kc Q else E := by
  have hw : Region.wanted o (yielded ops a.tmps) = true := by simp [Region.wanted, hgd]
  rw [if_pos hw]
  unfold Oper.wp execOp
  simp only [ho, resolve, invoke, builtin, Sem.run_bind, Sem.run_pure, Result.andThen_ok, List.map_toArray, List.map_cons, List.map_nil, hs, hx, hr]
  exact h
theorem info_P : (Try.prog.info? 44).map (fun i => (i.zero, i.size, i.bytes)) = some (some (.agg #[.int .i64 0, .int .i64 0]), 2, 16) := by kernel_rfl
set_option maxRecDepth 100000 in
theorem add_box_P (w : World) (b bm : Nat) (v : Value) (D : DataW Unit) (row : List Nat) (t : Nat) (h : IxK KTp w b bm v D row) (ht : t < 4) (hm : ¬ t ∈ row) (a0 a1 : Int) (hkey : keyOf Try.prog 44 (.agg #[.int .i64 a0, .int .i64 a1]) = some (KTp.lit t)) (hcl : KTp.cells t = [.int .i64 a0, .int .i64 a1])
    (hlk : ∀ o (n : Nat), (Instr.lookup 98 (.map (some bm)) (.agg #[Value.int .i64 a0, Value.int .i64 a1]) true).run Try.prog ((w.alloc o).drewN n) = .ok (.tuple #[.int .i64 0, .bool false]) ((w.alloc o).drewN n)) :
    Calls Try.prog 32 #[.pointer (some ⟨b, 0, none⟩), .agg #[.int .i64 a0, .int .i64 a1]] w (AddedK KTp w b bm v row t) := by
  obtain ⟨A, cp, hv⟩ := h.slice
  have hb : ∀ o, (w.alloc o).cell? ⟨b, 0, none⟩ = some (.map (some bm)) ∧ (w.alloc o).cell? ⟨b, 1, none⟩ = some (.slice A row.length cp) := fun o => by rw [← hv]; exact ⟨(cell_ofK (h.alloc o).block).1, (cell_ofK (h.alloc o).block).2.1⟩
  have HI := Aside0.mk h
  have HA := Aside0.mk (h.agree.push okP ht hm)
  have hsm := h.small
  have HWF := Aside0.mk (show (Lit.int .i64 (row.length : Int)).wf = true from WalkArith.wf_i64 (by omega))
  have HRL := Aside0.mk (show row.length < maxLen by simp only [maxLen]; omega)
  clear hsm
  clear h ht hm hv
  go_enter Try.func32, Try.ntmps32
  go_wp2_with fail
  obtain ⟨c0, c1⟩ := hb (.cells #[.int .i64 a0, .int .i64 a1] 44)
  have hl2 := hlk (.cells #[.int .i64 a0, .int .i64 a1] 44)
  clear hb hlk
  have HW := Aside0.mk (HI.out.alloc (.cells #[.int .i64 a0, .int .i64 a1] 44))
  obtain ⟨W, hW⟩ : ∃ W, W = w.alloc (.cells #[.int .i64 a0, .int .i64 a1] 44) := ⟨_, rfl⟩
  have hcells := heap_alloc_new w (.cells #[.int .i64 a0, .int .i64 a1] 44)
  rw [← hW] at c0 c1 hl2 hcells HW ⊢
  have e0 : W.cell? ⟨w.heap.size, 0, none⟩ = some (.int .i64 a0) := by simp [World.cell?, hcells]
  have e1 : W.cell? ⟨w.heap.size, 1, none⟩ = some (.int .i64 a1) := by simp [World.cell?, hcells]
  have HWW := Aside0.mk hW
  clear hcells hW
  go_quiet (fail)
  go_wp2_with fail
  have HW2 := Aside0.mk (HW.out.drewN nq)
  obtain ⟨W2, hW2⟩ : ∃ W2, W2 = W.drewN nq := ⟨_, rfl⟩
  have f0 : W2.cell? ⟨w.heap.size, 0, none⟩ = some (.int .i64 a0) := by rw [hW2]; exact e0
  have f1 : W2.cell? ⟨w.heap.size, 1, none⟩ = some (.int .i64 a1) := by rw [hW2]; exact e1
  have d0 : W2.cell? ⟨b, 0, none⟩ = some (.map (some bm)) := by rw [hW2]; exact c0
  rw [← hW2] at HW2 ⊢
  have HWW2 := Aside0.mk hW2
  clear hW2 e0 e1 c0 c1 hl2
  obtain ⟨w1, hup, hown1, hturn1⟩ := (HW2.out.drewN 1).map.store (K := okP.keyed) mapT_P HRL.out hkey (plainElem_int (P := Try.prog) (H := Unit) Try.underlying3 HWF.out)
  have HOWN1 := Aside0.mk hown1
  have HTURN1 := Aside0.mk hturn1
  clear hown1 hturn1
  have d0' : W2.drew.cell? ⟨b, 0, none⟩ = some (.map (some bm)) := d0
  have f0' : W2.drew.cell? ⟨w.heap.size, 0, none⟩ = some (.int .i64 a0) := f0
  have f1' : W2.drew.cell? ⟨w.heap.size, 1, none⟩ = some (.int .i64 a1) := f1
  replace hup : (Instr.mapUpdate 98 (.map (some bm)) (.agg #[.int .i64 a0, .int .i64 a1]) (.int .i64 (row.length : Int))).run Try.prog W2.drew = .ok () w1 := hup
  have HK0 := Aside0.mk (show Kp w (W2.drewN 1) (Ix.S b bm v) by rw [HWW2.out, HWW.out]; exact (((Kp.refl w (Ix.S b bm v)).alloc _).drewN nq).drewN 1)
  have HW3 := Aside0.mk (HW2.out.drewN 1)
  clear d0 f0 f1
  go_region
  clear d0' f0' f1' hup
  obtain ⟨hbm, hbv, hbmv⟩ := HW3.out.apart okP
  have hgb : (W2.drewN 1).heap[w.heap.size]? = some (.cells #[.int .i64 a0, .int .i64 a1] 44 (0, 0)) := by
    rw [HWW2.out, HWW.out]
    exact heap_alloc_new w _
  have hbmlt : bm < w.heap.size := HI.out.lt bm (.inr (.inl rfl))
  have hblt : b < w.heap.size := HI.out.lt b (.inl rfl)
  have hg1 : w1.heap[w.heap.size]? = some (.cells #[.int .i64 a0, .int .i64 a1] 44 (0, 0)) := (turned_block HTURN1.out (by omega)).trans hgb
  have hb1 := cell1_ofK HW3.out.block HTURN1.out hbm
  have ho1 := IxK.items_turned HW3.out.items HTURN1.out hbmv
  obtain ⟨i0, hi, hz0, hz1, hz2⟩ := info_parts info_P
  have hsz1 : w1.heap.size = (W2.drewN 1).heap.size := turned_size HTURN1.out
  have hszw : w.heap.size < w1.heap.size := (Array.getElem?_eq_some_iff.1 hg1).1
  obtain ⟨v1, w2, happ, hR2, hg2, _, hat2⟩ := run_append_own_at (P := Try.prog) (w := (w1.alloc (.cells #[.int .i64 a0, .int .i64 a1] 44)).drew) 0 99 99 44 i0 _ 2 16 Try.underlying99 hi hz0 hz1 hz2 rfl (by decide) v row.length (KTp.row row) (show (w1.alloc (.cells #[.int .i64 a0, .int .i64 a1] 44)).drew.ownsRow 0 44 2 v row.length (KTp.row row) from World.ownsRow.alloc ho1 _) ⟨w1.heap.size, 0, none⟩ 1 1 [.int .i64 a0, .int .i64 a1] rfl (World.news_of_block (w := (w1.alloc (.cells #[.int .i64 a0, .int .i64 a1] 44)).drew) (heap_alloc_new w1 _)) (by intro u hu; simp at hu; rcases hu with rfl | rfl <;> rfl) (by simp only [maxLen]; have := HI.out.small; omega) (by have := HI.out.small; omega) (Nat.zero_le _)
  obtain ⟨A1, k1, rfl⟩ := own_slice hR2
  have hga := World.grownBy_alloc w1 (.cells #[.int .i64 a0, .int .i64 a1] 44) v.ownBlock
  have hgw2 : w1.grownBy w2 v.ownBlock := World.grownBy.trans (show w1.grownBy ((w1.alloc (.cells #[.int .i64 a0, .int .i64 a1] 44)).drew) v.ownBlock from ⟨hga.os, hga.tape, hga.output, hga.size, hga.block⟩) hg2
  have hb2 := block_grownK hb1 hgw2 hbv
  have q1 := (cell_ofK hb2).2.1
  have q2 := (cell_ofK hb2).2.2
  have u0 : w1.drew.cell? ⟨w.heap.size, 0, none⟩ = some (.int .i64 a0) := by show w1.cell? _ = _; simp [World.cell?, hg1]
  have u1 : w1.drew.cell? ⟨w.heap.size, 1, none⟩ = some (.int .i64 a1) := by show w1.cell? _ = _; simp [World.cell?, hg1]
  obtain ⟨A, cp, hv⟩ := HI.out.slice
  have hb1' := (cell_ofK hb1).2.1
  have u2 : w1.drew.cell? ⟨b, 1, none⟩ = some v := hb1'
  have u3 : (w1.alloc (.cells #[.int .i64 a0, .int .i64 a1] 44)).drew.cell? ⟨b, 1, none⟩ = some v := by
    show (w1.alloc (.cells #[.int .i64 a0, .int .i64 a1] 44)).cell? ⟨b, 1, none⟩ = some v
    rw [World.cell?_of_block (w := w1) (Below.heap_alloc _ _ _ (by show b < w1.heap.size; omega))]
    exact u2
  rw [hv] at happ u2 u3 hb1'
  have HEND := Aside0.mk (fun hat => (added_endK okP (HA.out) hbm hbmv HOWN1.out HTURN1.out hb2 (hcl ▸ hR2) hgw2 hat).from_kept HK0.out)
  have HAT := Aside0.mk (show (Value.slice A1 (row.length + 1) k1).ownBlock = v.ownBlock ∨ ∃ b, (Value.slice A1 (row.length + 1) k1).ownBlock = some b ∧ w1.heap.size ≤ b from hat2.imp id (fun h => ⟨_, h, by simp⟩))
  clear hsz1 hszw hbmlt hblt hat2 hg2 hgw2 hb2 hR2 hb1 ho1 hg1 hgb hbm hbv hbmv hi hz0 hz1 hz2 hv hb1'
  go_wp2_with fail
  go_region_law (refine step_run_append (by rfl) (.tmp 34) (.tmp 36) 99 (by rfl) (by rfl) (by rfl) happ ?_)
  all_goals (try go_wp2_with fail)
  all_goals go_ret
  all_goals exact HEND.out HAT.out
theorem add_new_P (w : World) (b bm : Nat) (v : Value) (D : DataW Unit) (row : List Nat) (t : Nat) (h : IxK KTp w b bm v D row) (ht : t < 4) (hm : ¬ t ∈ row) :
    Calls Try.prog 32 #[.pointer (some ⟨b, 0, none⟩), KTp.val t] w (AddedK KTp w b bm v row t) :=
  add_box_P w b bm v D row t h ht hm (((t / 2 : Nat) : Int)) (((t % 2 : Nat) : Int)) (okP.keyOf t ht) rfl (fun o n => by
    have hl := ((h.alloc o).drewN n).look okP 98 mapT_P t ht
    rw [decide_eq_false hm, show fiN row t = 0 by unfold fiN; rw [if_neg hm]] at hl
    exact hl)
set_option maxRecDepth 100000 in
theorem add_oldb_P (w : World) (b bm : Nat) (v : Value) (D : DataW Unit) (row : List Nat) (i : Nat) (h : IxK KTp w b bm v D row) (a0 a1 : Int)
    (hlk : ∀ o (n : Nat), (Instr.lookup 98 (.map (some bm)) (.agg #[Value.int .i64 a0, Value.int .i64 a1]) true).run Try.prog ((w.alloc o).drewN n) = .ok (.tuple #[.int .i64 (i : Int), .bool true]) ((w.alloc o).drewN n)) :
    Calls Try.prog 32 #[.pointer (some ⟨b, 0, none⟩), .agg #[.int .i64 a0, .int .i64 a1]] w fun e w' => e = .returned (.int .i64 (i : Int)) ∧ Below w.heap.size w w' := by
  have hb : ∀ o, (w.alloc o).cell? ⟨b, 0, none⟩ = some (.map (some bm)) := fun o => (cell_ofK (h.alloc o).block).1
  clear h
  go_enter Try.func32, Try.ntmps32
  go_wp2_with fail
  have c0 := hb (.cells #[.int .i64 a0, .int .i64 a1] 44)
  have hl2 := hlk (.cells #[.int .i64 a0, .int .i64 a1] 44)
  clear hb hlk
  obtain ⟨W, hW⟩ : ∃ W, W = w.alloc (.cells #[.int .i64 a0, .int .i64 a1] 44) := ⟨_, rfl⟩
  have HBW := Aside0.mk (show Below w.heap.size w W by rw [hW]; exact (Below.refl _ _).alloc (Nat.le_refl _) _)
  have hcells := heap_alloc_new w (.cells #[.int .i64 a0, .int .i64 a1] 44)
  rw [← hW] at c0 hl2 hcells ⊢
  have e0 : W.cell? ⟨w.heap.size, 0, none⟩ = some (.int .i64 a0) := by simp [World.cell?, hcells]
  have e1 : W.cell? ⟨w.heap.size, 1, none⟩ = some (.int .i64 a1) := by simp [World.cell?, hcells]
  clear hcells hW
  repeat (go_quiet (fail); try go_wp2_with fail)
  go_ret
  exact ⟨rfl, pw_below_drewN HBW.out _⟩
theorem add_old_P (w : World) (b bm : Nat) (v : Value) (D : DataW Unit) (row : List Nat) (t : Nat) (h : IxK KTp w b bm v D row) (ht : t < 4) (hm : t ∈ row) :
    Calls Try.prog 32 #[.pointer (some ⟨b, 0, none⟩), KTp.val t] w fun e w' => e = .returned (.int .i64 (poN row t : Int)) ∧ Below w.heap.size w w' :=
  add_oldb_P w b bm v D row (poN row t) h (((t / 2 : Nat) : Int)) (((t % 2 : Nat) : Int)) (fun o n => by
    have hl := ((h.alloc o).drewN n).look okP 98 mapT_P t ht
    rw [decide_eq_true hm, show fiN row t = poN row t by unfold fiN; rw [if_pos hm]] at hl
    exact hl)
theorem info_A : (Try.prog.info? 50).map (fun i => (i.zero, i.size, i.bytes)) = some (some (.agg #[.bool false, .bool false]), 2, 2) := by kernel_rfl
set_option maxRecDepth 100000 in
theorem add_box_A (w : World) (b bm : Nat) (v : Value) (D : DataW Unit) (row : List Nat) (t : Nat) (h : IxK KTa w b bm v D row) (ht : t < 4) (hm : ¬ t ∈ row) (a0 a1 : Bool) (hkey : keyOf Try.prog 50 (.agg #[.bool a0, .bool a1]) = some (KTa.lit t)) (hcl : KTa.cells t = [.bool a0, .bool a1])
    (hlk : ∀ o (n : Nat), (Instr.lookup 106 (.map (some bm)) (.agg #[Value.bool a0, Value.bool a1]) true).run Try.prog ((w.alloc o).drewN n) = .ok (.tuple #[.int .i64 0, .bool false]) ((w.alloc o).drewN n)) :
    Calls Try.prog 34 #[.pointer (some ⟨b, 0, none⟩), .agg #[.bool a0, .bool a1]] w (AddedK KTa w b bm v row t) := by
  obtain ⟨A, cp, hv⟩ := h.slice
  have hb : ∀ o, (w.alloc o).cell? ⟨b, 0, none⟩ = some (.map (some bm)) ∧ (w.alloc o).cell? ⟨b, 1, none⟩ = some (.slice A row.length cp) := fun o => by rw [← hv]; exact ⟨(cell_ofK (h.alloc o).block).1, (cell_ofK (h.alloc o).block).2.1⟩
  have HI := Aside0.mk h
  have HA := Aside0.mk (h.agree.push okA ht hm)
  have hsm := h.small
  have HWF := Aside0.mk (show (Lit.int .i64 (row.length : Int)).wf = true from WalkArith.wf_i64 (by omega))
  have HRL := Aside0.mk (show row.length < maxLen by simp only [maxLen]; omega)
  clear hsm
  clear h ht hm hv
  go_enter Try.func34, Try.ntmps34
  go_wp2_with fail
  obtain ⟨c0, c1⟩ := hb (.cells #[.bool a0, .bool a1] 50)
  have hl2 := hlk (.cells #[.bool a0, .bool a1] 50)
  clear hb hlk
  have HW := Aside0.mk (HI.out.alloc (.cells #[.bool a0, .bool a1] 50))
  obtain ⟨W, hW⟩ : ∃ W, W = w.alloc (.cells #[.bool a0, .bool a1] 50) := ⟨_, rfl⟩
  have hcells := heap_alloc_new w (.cells #[.bool a0, .bool a1] 50)
  rw [← hW] at c0 c1 hl2 hcells HW ⊢
  have e0 : W.cell? ⟨w.heap.size, 0, none⟩ = some (.bool a0) := by simp [World.cell?, hcells]
  have e1 : W.cell? ⟨w.heap.size, 1, none⟩ = some (.bool a1) := by simp [World.cell?, hcells]
  have HWW := Aside0.mk hW
  clear hcells hW
  go_quiet (fail)
  go_wp2_with fail
  have HW2 := Aside0.mk (HW.out.drewN nq)
  obtain ⟨W2, hW2⟩ : ∃ W2, W2 = W.drewN nq := ⟨_, rfl⟩
  have f0 : W2.cell? ⟨w.heap.size, 0, none⟩ = some (.bool a0) := by rw [hW2]; exact e0
  have f1 : W2.cell? ⟨w.heap.size, 1, none⟩ = some (.bool a1) := by rw [hW2]; exact e1
  have d0 : W2.cell? ⟨b, 0, none⟩ = some (.map (some bm)) := by rw [hW2]; exact c0
  rw [← hW2] at HW2 ⊢
  have HWW2 := Aside0.mk hW2
  clear hW2 e0 e1 c0 c1 hl2
  obtain ⟨w1, hup, hown1, hturn1⟩ := (HW2.out.drewN 1).map.store (K := okA.keyed) mapT_A HRL.out hkey (plainElem_int (P := Try.prog) (H := Unit) Try.underlying3 HWF.out)
  have HOWN1 := Aside0.mk hown1
  have HTURN1 := Aside0.mk hturn1
  clear hown1 hturn1
  have d0' : W2.drew.cell? ⟨b, 0, none⟩ = some (.map (some bm)) := d0
  have f0' : W2.drew.cell? ⟨w.heap.size, 0, none⟩ = some (.bool a0) := f0
  have f1' : W2.drew.cell? ⟨w.heap.size, 1, none⟩ = some (.bool a1) := f1
  replace hup : (Instr.mapUpdate 106 (.map (some bm)) (.agg #[.bool a0, .bool a1]) (.int .i64 (row.length : Int))).run Try.prog W2.drew = .ok () w1 := hup
  have HK0 := Aside0.mk (show Kp w (W2.drewN 1) (Ix.S b bm v) by rw [HWW2.out, HWW.out]; exact (((Kp.refl w (Ix.S b bm v)).alloc _).drewN nq).drewN 1)
  have HW3 := Aside0.mk (HW2.out.drewN 1)
  clear d0 f0 f1
  go_region
  clear d0' f0' f1' hup
  obtain ⟨hbm, hbv, hbmv⟩ := HW3.out.apart okA
  have hgb : (W2.drewN 1).heap[w.heap.size]? = some (.cells #[.bool a0, .bool a1] 50 (0, 0)) := by
    rw [HWW2.out, HWW.out]
    exact heap_alloc_new w _
  have hbmlt : bm < w.heap.size := HI.out.lt bm (.inr (.inl rfl))
  have hblt : b < w.heap.size := HI.out.lt b (.inl rfl)
  have hg1 : w1.heap[w.heap.size]? = some (.cells #[.bool a0, .bool a1] 50 (0, 0)) := (turned_block HTURN1.out (by omega)).trans hgb
  have hb1 := cell1_ofK HW3.out.block HTURN1.out hbm
  have ho1 := IxK.items_turned HW3.out.items HTURN1.out hbmv
  obtain ⟨i0, hi, hz0, hz1, hz2⟩ := info_parts info_A
  have hsz1 : w1.heap.size = (W2.drewN 1).heap.size := turned_size HTURN1.out
  have hszw : w.heap.size < w1.heap.size := (Array.getElem?_eq_some_iff.1 hg1).1
  obtain ⟨v1, w2, happ, hR2, hg2, _, hat2⟩ := run_append_own_at (P := Try.prog) (w := (w1.alloc (.cells #[.bool a0, .bool a1] 50)).drew) 0 107 107 50 i0 _ 2 2 Try.underlying107 hi hz0 hz1 hz2 rfl (by decide) v row.length (KTa.row row) (show (w1.alloc (.cells #[.bool a0, .bool a1] 50)).drew.ownsRow 0 50 2 v row.length (KTa.row row) from World.ownsRow.alloc ho1 _) ⟨w1.heap.size, 0, none⟩ 1 1 [.bool a0, .bool a1] rfl (World.news_of_block (w := (w1.alloc (.cells #[.bool a0, .bool a1] 50)).drew) (heap_alloc_new w1 _)) (by intro u hu; simp at hu; rcases hu with rfl | rfl <;> rfl) (by simp only [maxLen]; have := HI.out.small; omega) (by have := HI.out.small; omega) (Nat.zero_le _)
  obtain ⟨A1, k1, rfl⟩ := own_slice hR2
  have hga := World.grownBy_alloc w1 (.cells #[.bool a0, .bool a1] 50) v.ownBlock
  have hgw2 : w1.grownBy w2 v.ownBlock := World.grownBy.trans (show w1.grownBy ((w1.alloc (.cells #[.bool a0, .bool a1] 50)).drew) v.ownBlock from ⟨hga.os, hga.tape, hga.output, hga.size, hga.block⟩) hg2
  have hb2 := block_grownK hb1 hgw2 hbv
  have q1 := (cell_ofK hb2).2.1
  have q2 := (cell_ofK hb2).2.2
  have u0 : w1.drew.cell? ⟨w.heap.size, 0, none⟩ = some (.bool a0) := by show w1.cell? _ = _; simp [World.cell?, hg1]
  have u1 : w1.drew.cell? ⟨w.heap.size, 1, none⟩ = some (.bool a1) := by show w1.cell? _ = _; simp [World.cell?, hg1]
  obtain ⟨A, cp, hv⟩ := HI.out.slice
  have hb1' := (cell_ofK hb1).2.1
  have u2 : w1.drew.cell? ⟨b, 1, none⟩ = some v := hb1'
  have u3 : (w1.alloc (.cells #[.bool a0, .bool a1] 50)).drew.cell? ⟨b, 1, none⟩ = some v := by
    show (w1.alloc (.cells #[.bool a0, .bool a1] 50)).cell? ⟨b, 1, none⟩ = some v
    rw [World.cell?_of_block (w := w1) (Below.heap_alloc _ _ _ (by show b < w1.heap.size; omega))]
    exact u2
  rw [hv] at happ u2 u3 hb1'
  have HEND := Aside0.mk (fun hat => (added_endK okA (HA.out) hbm hbmv HOWN1.out HTURN1.out hb2 (hcl ▸ hR2) hgw2 hat).from_kept HK0.out)
  have HAT := Aside0.mk (show (Value.slice A1 (row.length + 1) k1).ownBlock = v.ownBlock ∨ ∃ b, (Value.slice A1 (row.length + 1) k1).ownBlock = some b ∧ w1.heap.size ≤ b from hat2.imp id (fun h => ⟨_, h, by simp⟩))
  clear hsz1 hszw hbmlt hblt hat2 hg2 hgw2 hb2 hR2 hb1 ho1 hg1 hgb hbm hbv hbmv hi hz0 hz1 hz2 hv hb1'
  go_wp2_with fail
  go_region_law (refine step_run_append (by rfl) (.tmp 34) (.tmp 36) 107 (by rfl) (by rfl) (by rfl) happ ?_)
  all_goals (try go_wp2_with fail)
  all_goals go_ret
  all_goals exact HEND.out HAT.out
theorem add_new_A (w : World) (b bm : Nat) (v : Value) (D : DataW Unit) (row : List Nat) (t : Nat) (h : IxK KTa w b bm v D row) (ht : t < 4) (hm : ¬ t ∈ row) :
    Calls Try.prog 34 #[.pointer (some ⟨b, 0, none⟩), KTa.val t] w (AddedK KTa w b bm v row t) :=
  add_box_A w b bm v D row t h ht hm (decide (t / 2 = 1)) (decide (t % 2 = 1)) (okA.keyOf t ht) rfl (fun o n => by
    have hl := ((h.alloc o).drewN n).look okA 106 mapT_A t ht
    rw [decide_eq_false hm, show fiN row t = 0 by unfold fiN; rw [if_neg hm]] at hl
    exact hl)
set_option maxRecDepth 100000 in
theorem add_oldb_A (w : World) (b bm : Nat) (v : Value) (D : DataW Unit) (row : List Nat) (i : Nat) (h : IxK KTa w b bm v D row) (a0 a1 : Bool)
    (hlk : ∀ o (n : Nat), (Instr.lookup 106 (.map (some bm)) (.agg #[Value.bool a0, Value.bool a1]) true).run Try.prog ((w.alloc o).drewN n) = .ok (.tuple #[.int .i64 (i : Int), .bool true]) ((w.alloc o).drewN n)) :
    Calls Try.prog 34 #[.pointer (some ⟨b, 0, none⟩), .agg #[.bool a0, .bool a1]] w fun e w' => e = .returned (.int .i64 (i : Int)) ∧ Below w.heap.size w w' := by
  have hb : ∀ o, (w.alloc o).cell? ⟨b, 0, none⟩ = some (.map (some bm)) := fun o => (cell_ofK (h.alloc o).block).1
  clear h
  go_enter Try.func34, Try.ntmps34
  go_wp2_with fail
  have c0 := hb (.cells #[.bool a0, .bool a1] 50)
  have hl2 := hlk (.cells #[.bool a0, .bool a1] 50)
  clear hb hlk
  obtain ⟨W, hW⟩ : ∃ W, W = w.alloc (.cells #[.bool a0, .bool a1] 50) := ⟨_, rfl⟩
  have HBW := Aside0.mk (show Below w.heap.size w W by rw [hW]; exact (Below.refl _ _).alloc (Nat.le_refl _) _)
  have hcells := heap_alloc_new w (.cells #[.bool a0, .bool a1] 50)
  rw [← hW] at c0 hl2 hcells ⊢
  have e0 : W.cell? ⟨w.heap.size, 0, none⟩ = some (.bool a0) := by simp [World.cell?, hcells]
  have e1 : W.cell? ⟨w.heap.size, 1, none⟩ = some (.bool a1) := by simp [World.cell?, hcells]
  clear hcells hW
  repeat (go_quiet (fail); try go_wp2_with fail)
  go_ret
  exact ⟨rfl, pw_below_drewN HBW.out _⟩
theorem add_old_A (w : World) (b bm : Nat) (v : Value) (D : DataW Unit) (row : List Nat) (t : Nat) (h : IxK KTa w b bm v D row) (ht : t < 4) (hm : t ∈ row) :
    Calls Try.prog 34 #[.pointer (some ⟨b, 0, none⟩), KTa.val t] w fun e w' => e = .returned (.int .i64 (poN row t : Int)) ∧ Below w.heap.size w w' :=
  add_oldb_A w b bm v D row (poN row t) h (decide (t / 2 = 1)) (decide (t % 2 = 1)) (fun o n => by
    have hl := ((h.alloc o).drewN n).look okA 106 mapT_A t ht
    rw [decide_eq_true hm, show fiN row t = poN row t by unfold fiN; rw [if_pos hm]] at hl
    exact hl)
end Go.Proofs.Ytijmhegccakndaa
