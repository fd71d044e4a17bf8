/-
  An index of places or of pairs (things of two cells, boxed): Cut. (Printed by wip/tools/kt8.py.)
-/
import Derived.Test.YtijmhegccakndaaKt7
import Derived.Deep.RegionLaw
namespace Go.Proofs.Ytijmhegccakndaa
open Go.RowKit Go.Maps Go.WideMaps
open Go.ChangeMaps (setBlock)
open Go.Proofs.YtijmhegccakndaaW.PrintWords Go.Proofs.YtijmhegccakndaaW.PrintMore
attribute [local go_sem] max2_int max_two
variable {K : KT}
theorem step_run_delete {P : Program} {w : World} {ops : Array Oper} {o : Oper} {a : Act} {Kc : Act → World → Prop} {Q : Exit → Act → World → Prop} {E : Prop} (hgd : o.guard = none) (s x : Operand) (t k : TypeId)
    (ho : o.op = .call { callee := .builtin .delete, args := #[s, x], argTypes := #[t, k] }) {v y v1 : Value} {w2 : World} (hs : a.eval s = v) (hx : a.eval x = y)
    (hr : (Builtin.delete_ #[t, k] o.type #[v, y]).run P w = .ok v1 w2) (h : Kc (a.put o.dst v1) w2) : if Region.wanted o (yielded ops a.tmps) = true then Oper.wp P o a w Kc Q else E := by
  have hw : Region.wanted o (yielded ops a.tmps) = true := by simp [Region.wanted, hgd]
  rw [if_pos hw]
  unfold Oper.wp execOp
  simp only [ho, resolve, invoke, builtin, Sem.run_bind, Sem.run_pure, Result.andThen_ok, List.map_toArray, List.map_cons, List.map_nil, hs, hx, hr]
  exact h
theorem zero_P (w : World) : (zeroValue 44).run Try.prog w = .ok (.agg #[.int .i64 0, .int .i64 0]) w := by kernel_rfl
theorem cut_none_P (w : World) (b bm : Nat) (v : Value) (D : DataW Unit) (row : List Nat) (n k : Int) (h : IxK KTp w b bm v D row) (hk : (if n < 0 then 0 else n) = k) (hn : (row.length : Int) ≤ k) :
    Calls Try.prog 25 #[.pointer (some ⟨b, 0, none⟩), .int .i64 n] w fun e w' => e = .returned (.tuple #[]) ∧ w = w' := by
  obtain ⟨A, cp, rfl⟩ := h.slice
  have c1 := (cell_ofK h.block).2.1
  clear h
  have p1 : decide ((row.length : Int) ≤ k) = true := decide_eq_true hn
  clear hn
  go_enter Try.func25, Try.ntmps25
  go_wp2
  refine bodyPost_ret (results_none rfl _ _ _) rfl ?_
  exact ⟨rfl, rfl⟩
set_option maxRecDepth 100000 in
theorem cut_some_P (w : World) (b bm : Nat) (v : Value) (D : DataW Unit) (row : List Nat) (n : Int) (m : Nat) (h : IxK KTp w b bm v D row) (hn : (if n < 0 then 0 else n) = (m : Int)) (hm : m < row.length) :
    Calls Try.prog 25 #[.pointer (some ⟨b, 0, none⟩), .int .i64 n] w (IsCutK KTp w b bm v row m) := by
  obtain ⟨g, cap, rfl, _, _⟩ := h.items.form (by omega)
  have HI := Aside0.mk h
  obtain ⟨c0, c1, _⟩ := cell_ofK h.block
  have hcap : row.length ≤ cap := by
    rcases h.items.2 with ⟨hv, _⟩ | ⟨g', cap', cur, hv, _, _, h1, _⟩
    · cases hv
    · cases hv; exact h1
  have hmx := h.small
  obtain ⟨i9, hi9, hz0, hz1, hz2⟩ := info_parts info_P
  have hcutf := cut_from (P := Try.prog) 99 44 .i64 Try.underlying99 hi9 2 hz1 (some ⟨g, 0, none⟩) row.length cap (m : Int) (by omega) (by omega)
  have hcutt := cut_to (P := Try.prog) 99 44 .i64 Try.underlying99 hi9 (some ⟨g, 0, none⟩) row.length cap (m : Int) (by omega) (by omega) hcap
  have HS := Aside0.mk hz1
  have hcm : cap ≠ m := by omega
  have p1 : decide ((row.length : Int) ≤ (m : Int)) = false := decide_eq_false (by omega)
  have p2 : decide (row.length ≤ m) = false := decide_eq_false (by omega)
  simp only [Int.toNat_natCast, if_neg hcm, Option.map_some, add_plain] at hcutf hcutt
  have hml : (m : Int) < (row.length : Int) := by omega
  clear h hz0 hz1 hz2
  go_enter Try.func25, Try.ntmps25
  go_wp2
  go_loopw [22, 5] (fun i _ wr => ∃ (k : Nat) (Dk : DataW Unit), i = .int .i64 (k : Int) ∧ k ≤ row.length - m ∧ Aside0 (wr.ownsMap Try.prog 44 (plainElem Try.prog 3) bm row.length Dk) ∧ Aside0 (AgreePK KTp Dk row m (m + k)) ∧ Aside0 (w.grownBy wr (some bm))) (fun i _ _ => row.length - m - (intOf i).toNat)
  case atStart => exact ⟨0, D, rfl, Nat.zero_le _, ⟨HI.out.map⟩, ⟨AgreePK.start HI.out.agree m⟩, ⟨World.grownBy.refl _ _⟩⟩
  case round =>
    obtain ⟨k, Dk, rfl, hk, HM, HP, HG⟩ := hrel
    by_cases hlt : k < row.length - m
    · obtain ⟨t, ht⟩ : ∃ t, row[m + k]? = some t := ⟨_, List.getElem?_eq_getElem (by omega)⟩
      obtain ⟨n1, n2, n3⟩ := HI.out.apart3 okP
      have hsz := HI.out.agree.small t (List.mem_of_getElem? ht)
      have hkey0 := okP.keyOf t hsz
      have hbr := (HG.out.block b (HI.out.lt b (.inl rfl)) (by simpa using n1)).trans HI.out.block
      have d0 := (cell_ofK hbr).1
      have hc0 := KT.row_cell okP row (m + k) t 0 ht (by decide)
      have hc1 := KT.row_cell okP row (m + k) t 1 ht (by decide)
      have ci : ∀ j, j < 2 → wr.cell? ⟨g, (m + k) * 2 + j, none⟩ = (KTp.cells t)[j]? := by
        intro j hj
        rw [World.cell?_of_block (w := w) (HG.out.block g (HI.out.lt g (.inr (.inr rfl))) (by simpa using n3)), HI.out.items.cellAt ((m + k) * 2 + j) (by rw [show KTp.n = 2 from rfl]; omega)]
        exact KT.row_cell okP row (m + k) t j ht hj
      rw [show (m + k) * 2 = m * 2 + k * 2 by omega] at ci
      have ci0 : wr.cell? ⟨g, m * 2 + k * 2, none⟩ = some (.int .i64 (((t / 2 : Nat) : Int))) := ci 0 (by decide)
      have ci1 : wr.cell? ⟨g, m * 2 + k * 2 + 1, none⟩ = some (.int .i64 (((t % 2 : Nat) : Int))) := ci 1 (by decide)
      have hown := HM.out
      have HSTEP := Aside0.mk (HP.out.step okP HI.out.agree.apart HI.out.agree.small ht (by omega))
      have hl3 : (k : Int) < ((row.length - m : Nat) : Int) := by omega
      obtain ⟨a0, h0⟩ : ∃ a : Int, a = (((t / 2 : Nat) : Int)) := ⟨_, rfl⟩
      obtain ⟨a1, h1⟩ : ∃ a : Int, a = (((t % 2 : Nat) : Int)) := ⟨_, rfl⟩
      have hkey : keyOf Try.prog 44 (.agg #[.int .i64 a0, .int .i64 a1]) = some (KTp.lit t) := by rw [h0, h1]; exact hkey0
      clear hkey0
      rw [← h0] at ci0
      rw [← h1] at ci1
      clear ht n1 n2 n3 hsz hbr h0 h1 hc0 hc1 ci
      go_wp2_with fail
      have hbm : b ≠ bm := (HI.out.apart3 okP).1
      have hbr2 := (HG.out.block b (HI.out.lt b (.inl rfl)) (by simpa using hbm)).trans HI.out.block
      have hblt : b < wr.heap.size := (Array.getElem?_eq_some_iff.1 hbr2).1
      have e0 : (wr.alloc (.cells #[.int .i64 a0, .int .i64 a1] 44)).drew.cell? ⟨b, 0, none⟩ = some (.map (some bm)) := by
        show (wr.alloc (.cells #[.int .i64 a0, .int .i64 a1] 44)).cell? ⟨b, 0, none⟩ = some (.map (some bm))
        rw [World.cell?_of_block (w := wr) (Below.heap_alloc _ _ _ (by show b < wr.heap.size; exact hblt))]
        exact d0
      have hnew := heap_alloc_new wr (.cells #[.int .i64 a0, .int .i64 a1] 44)
      have e1 : (wr.alloc (.cells #[.int .i64 a0, .int .i64 a1] 44)).drew.cell? ⟨wr.heap.size, 0, none⟩ = some (.int .i64 a0) := by
        show (wr.alloc (.cells #[.int .i64 a0, .int .i64 a1] 44)).cell? _ = _
        rw [Lib.cell_of_heap hnew]
        rfl
      have e2 : (wr.alloc (.cells #[.int .i64 a0, .int .i64 a1] 44)).drew.cell? ⟨wr.heap.size, 1, none⟩ = some (.int .i64 a1) := by
        show (wr.alloc (.cells #[.int .i64 a0, .int .i64 a1] 44)).cell? _ = _
        rw [Lib.cell_of_heap hnew]
        rfl
      obtain ⟨w1, hdel, hown1, hturn1⟩ := ((hown.alloc (.cells #[.int .i64 a0, .int .i64 a1] 44)).drew).drop okP.keyed mapT_P hkey 0
      have HOWN1 := Aside0.mk hown1
      have hga := World.grownBy_alloc wr (.cells #[.int .i64 a0, .int .i64 a1] 44) (some bm)
      have HG1 := Aside0.mk (HG.out.trans (World.grownBy.trans (show wr.grownBy ((wr.alloc (.cells #[.int .i64 a0, .int .i64 a1] 44)).drew) (some bm) from ⟨hga.os, hga.tape, hga.output, hga.size, hga.block⟩) (turned_grown hturn1)))
      clear hown1 hturn1 hga hnew hbm hbr2 hblt hkey hown
      go_region_law (refine step_run_delete (by rfl) (.tmp 29) (.tmp 30) 98 44 (by rfl) (by rfl) (by rfl) hdel ?_)
      all_goals (try go_wp2_with fail)
      all_goals exact ⟨⟨k + 1, _, by go_num, by omega, HOWN1, HSTEP, HG1⟩, by first | (simp [intOf]; done) | (simp [intOf]; omega)⟩
    · have hl3 : ¬ (k : Int) < ((row.length - m : Nat) : Int) := by omega
      obtain rfl : k = row.length - m := by omega
      have HP2 := Aside0.mk (show AgreePK KTp Dk row m row.length by have := HP.out; rwa [show m + (row.length - m) = row.length by omega] at this)
      obtain ⟨n1, n2, n3⟩ := HI.out.apart3 okP
      have hbr := (HG.out.block b (HI.out.lt b (.inl rfl)) (by simpa using n1)).trans HI.out.block
      have d1 := (cell_ofK hbr).2.1
      have hzl : (Builtin.zeroCells (Value.agg #[.int .i64 0, .int .i64 0]).cells (row.length - m)).toList.length = (row.length - m) * 2 := by simp [Builtin.zeroCells, Value.cells]
      have HEND := Aside0.mk (cut_endK okP (Builtin.zeroCells (Value.agg #[.int .i64 0, .int .i64 0]).cells (row.length - m)).toList (by rw [hzl]; rfl) HI.out hm HM.out HP2.out HG.out)
      obtain ⟨cur, hgw, hcs, hcl⟩ : ∃ cur, w.heap[g]? = some (.cells cur 44 (0, 0)) ∧ cur.size = cap * 2 ∧ row.length ≤ cap := by
        rcases HI.out.items.2 with ⟨hv, _⟩ | ⟨g', cap', cur, hv, _, hg, r1, r2, r3, r4⟩
        · cases hv
        · cases hv; exact ⟨cur, hg, r3, r1⟩
      have hgr := (HG.out.block g (HI.out.lt g (.inr (.inr rfl))) (by simpa using n3)).trans hgw
      have hclr := fun ty => run_clearK 99 44 (.agg #[.int .i64 0, .int .i64 0]) Try.underlying99 zero_P ty g (m * 2) (row.length - m) (cap - m) wr cur (by omega) hgr (by rw [← Array.length_toList, hzl]; omega) (by
        intro u hu
        simp [Builtin.zeroCells, Value.cells] at hu
        obtain ⟨i, _, rfl⟩ := hu
        rcases Nat.mod_two_eq_zero_or_one i with e | e <;> simp [e] <;> rfl)
      have hb2 := (setCells_far (Builtin.zeroCells (Value.agg #[.int .i64 0, .int .i64 0]).cells (row.length - m)).toList (m * 2) b n2).trans hbr
      obtain ⟨w2, hw2⟩ : ∃ w2, wr.setCells g (m * 2) (Builtin.zeroCells (Value.agg #[.int .i64 0, .int .i64 0]).cells (row.length - m)).toList = w2 := ⟨_, rfl⟩
      rw [show m * KTp.n = m * 2 from rfl] at HEND
      rw [hw2] at hb2 HEND
      simp only [hw2] at hclr
      have e1 := (cell_ofK hb2).2.1
      have f1 := (cell_ofK hb2).2.2
      clear hw2 hb2 hgr hcs hcl hgw hbr n1 n2 n3 HP HM HP2 hzl
      go_wp2
      go_end0
      exact HEND.out
theorem zero_A (w : World) : (zeroValue 50).run Try.prog w = .ok (.agg #[.bool false, .bool false]) w := by kernel_rfl
theorem cut_none_A (w : World) (b bm : Nat) (v : Value) (D : DataW Unit) (row : List Nat) (n k : Int) (h : IxK KTa w b bm v D row) (hk : (if n < 0 then 0 else n) = k) (hn : (row.length : Int) ≤ k) :
    Calls Try.prog 27 #[.pointer (some ⟨b, 0, none⟩), .int .i64 n] w fun e w' => e = .returned (.tuple #[]) ∧ w = w' := by
  obtain ⟨A, cp, rfl⟩ := h.slice
  have c1 := (cell_ofK h.block).2.1
  clear h
  have p1 : decide ((row.length : Int) ≤ k) = true := decide_eq_true hn
  clear hn
  go_enter Try.func27, Try.ntmps27
  go_wp2
  refine bodyPost_ret (results_none rfl _ _ _) rfl ?_
  exact ⟨rfl, rfl⟩
set_option maxRecDepth 100000 in
theorem cut_some_A (w : World) (b bm : Nat) (v : Value) (D : DataW Unit) (row : List Nat) (n : Int) (m : Nat) (h : IxK KTa w b bm v D row) (hn : (if n < 0 then 0 else n) = (m : Int)) (hm : m < row.length) :
    Calls Try.prog 27 #[.pointer (some ⟨b, 0, none⟩), .int .i64 n] w (IsCutK KTa w b bm v row m) := by
  obtain ⟨g, cap, rfl, _, _⟩ := h.items.form (by omega)
  have HI := Aside0.mk h
  obtain ⟨c0, c1, _⟩ := cell_ofK h.block
  have hcap : row.length ≤ cap := by
    rcases h.items.2 with ⟨hv, _⟩ | ⟨g', cap', cur, hv, _, _, h1, _⟩
    · cases hv
    · cases hv; exact h1
  have hmx := h.small
  obtain ⟨i9, hi9, hz0, hz1, hz2⟩ := info_parts info_A
  have hcutf := cut_from (P := Try.prog) 107 50 .i64 Try.underlying107 hi9 2 hz1 (some ⟨g, 0, none⟩) row.length cap (m : Int) (by omega) (by omega)
  have hcutt := cut_to (P := Try.prog) 107 50 .i64 Try.underlying107 hi9 (some ⟨g, 0, none⟩) row.length cap (m : Int) (by omega) (by omega) hcap
  have HS := Aside0.mk hz1
  have hcm : cap ≠ m := by omega
  have p1 : decide ((row.length : Int) ≤ (m : Int)) = false := decide_eq_false (by omega)
  have p2 : decide (row.length ≤ m) = false := decide_eq_false (by omega)
  simp only [Int.toNat_natCast, if_neg hcm, Option.map_some, add_plain] at hcutf hcutt
  have hml : (m : Int) < (row.length : Int) := by omega
  clear h hz0 hz1 hz2
  go_enter Try.func27, Try.ntmps27
  go_wp2
  go_loopw [22, 5] (fun i _ wr => ∃ (k : Nat) (Dk : DataW Unit), i = .int .i64 (k : Int) ∧ k ≤ row.length - m ∧ Aside0 (wr.ownsMap Try.prog 50 (plainElem Try.prog 3) bm row.length Dk) ∧ Aside0 (AgreePK KTa Dk row m (m + k)) ∧ Aside0 (w.grownBy wr (some bm))) (fun i _ _ => row.length - m - (intOf i).toNat)
  case atStart => exact ⟨0, D, rfl, Nat.zero_le _, ⟨HI.out.map⟩, ⟨AgreePK.start HI.out.agree m⟩, ⟨World.grownBy.refl _ _⟩⟩
  case round =>
    obtain ⟨k, Dk, rfl, hk, HM, HP, HG⟩ := hrel
    by_cases hlt : k < row.length - m
    · obtain ⟨t, ht⟩ : ∃ t, row[m + k]? = some t := ⟨_, List.getElem?_eq_getElem (by omega)⟩
      obtain ⟨n1, n2, n3⟩ := HI.out.apart3 okA
      have hsz := HI.out.agree.small t (List.mem_of_getElem? ht)
      have hkey0 := okA.keyOf t hsz
      have hbr := (HG.out.block b (HI.out.lt b (.inl rfl)) (by simpa using n1)).trans HI.out.block
      have d0 := (cell_ofK hbr).1
      have hc0 := KT.row_cell okA row (m + k) t 0 ht (by decide)
      have hc1 := KT.row_cell okA row (m + k) t 1 ht (by decide)
      have ci : ∀ j, j < 2 → wr.cell? ⟨g, (m + k) * 2 + j, none⟩ = (KTa.cells t)[j]? := by
        intro j hj
        rw [World.cell?_of_block (w := w) (HG.out.block g (HI.out.lt g (.inr (.inr rfl))) (by simpa using n3)), HI.out.items.cellAt ((m + k) * 2 + j) (by rw [show KTa.n = 2 from rfl]; omega)]
        exact KT.row_cell okA row (m + k) t j ht hj
      rw [show (m + k) * 2 = m * 2 + k * 2 by omega] at ci
      have ci0 : wr.cell? ⟨g, m * 2 + k * 2, none⟩ = some (.bool (decide (t / 2 = 1))) := ci 0 (by decide)
      have ci1 : wr.cell? ⟨g, m * 2 + k * 2 + 1, none⟩ = some (.bool (decide (t % 2 = 1))) := ci 1 (by decide)
      have hown := HM.out
      have HSTEP := Aside0.mk (HP.out.step okA HI.out.agree.apart HI.out.agree.small ht (by omega))
      have hl3 : (k : Int) < ((row.length - m : Nat) : Int) := by omega
      obtain ⟨a0, h0⟩ : ∃ a : Bool, a = (decide (t / 2 = 1)) := ⟨_, rfl⟩
      obtain ⟨a1, h1⟩ : ∃ a : Bool, a = (decide (t % 2 = 1)) := ⟨_, rfl⟩
      have hkey : keyOf Try.prog 50 (.agg #[.bool a0, .bool a1]) = some (KTa.lit t) := by rw [h0, h1]; exact hkey0
      clear hkey0
      rw [← h0] at ci0
      rw [← h1] at ci1
      clear ht n1 n2 n3 hsz hbr h0 h1 hc0 hc1 ci
      go_wp2_with fail
      have hbm : b ≠ bm := (HI.out.apart3 okA).1
      have hbr2 := (HG.out.block b (HI.out.lt b (.inl rfl)) (by simpa using hbm)).trans HI.out.block
      have hblt : b < wr.heap.size := (Array.getElem?_eq_some_iff.1 hbr2).1
      have e0 : (wr.alloc (.cells #[.bool a0, .bool a1] 50)).drew.cell? ⟨b, 0, none⟩ = some (.map (some bm)) := by
        show (wr.alloc (.cells #[.bool a0, .bool a1] 50)).cell? ⟨b, 0, none⟩ = some (.map (some bm))
        rw [World.cell?_of_block (w := wr) (Below.heap_alloc _ _ _ (by show b < wr.heap.size; exact hblt))]
        exact d0
      have hnew := heap_alloc_new wr (.cells #[.bool a0, .bool a1] 50)
      have e1 : (wr.alloc (.cells #[.bool a0, .bool a1] 50)).drew.cell? ⟨wr.heap.size, 0, none⟩ = some (.bool a0) := by
        show (wr.alloc (.cells #[.bool a0, .bool a1] 50)).cell? _ = _
        rw [Lib.cell_of_heap hnew]
        rfl
      have e2 : (wr.alloc (.cells #[.bool a0, .bool a1] 50)).drew.cell? ⟨wr.heap.size, 1, none⟩ = some (.bool a1) := by
        show (wr.alloc (.cells #[.bool a0, .bool a1] 50)).cell? _ = _
        rw [Lib.cell_of_heap hnew]
        rfl
      obtain ⟨w1, hdel, hown1, hturn1⟩ := ((hown.alloc (.cells #[.bool a0, .bool a1] 50)).drew).drop okA.keyed mapT_A hkey 0
      have HOWN1 := Aside0.mk hown1
      have hga := World.grownBy_alloc wr (.cells #[.bool a0, .bool a1] 50) (some bm)
      have HG1 := Aside0.mk (HG.out.trans (World.grownBy.trans (show wr.grownBy ((wr.alloc (.cells #[.bool a0, .bool a1] 50)).drew) (some bm) from ⟨hga.os, hga.tape, hga.output, hga.size, hga.block⟩) (turned_grown hturn1)))
      clear hown1 hturn1 hga hnew hbm hbr2 hblt hkey hown
      go_region_law (refine step_run_delete (by rfl) (.tmp 29) (.tmp 30) 106 50 (by rfl) (by rfl) (by rfl) hdel ?_)
      all_goals (try go_wp2_with fail)
      all_goals exact ⟨⟨k + 1, _, by go_num, by omega, HOWN1, HSTEP, HG1⟩, by first | (simp [intOf]; done) | (simp [intOf]; omega)⟩
    · have hl3 : ¬ (k : Int) < ((row.length - m : Nat) : Int) := by omega
      obtain rfl : k = row.length - m := by omega
      have HP2 := Aside0.mk (show AgreePK KTa Dk row m row.length by have := HP.out; rwa [show m + (row.length - m) = row.length by omega] at this)
      obtain ⟨n1, n2, n3⟩ := HI.out.apart3 okA
      have hbr := (HG.out.block b (HI.out.lt b (.inl rfl)) (by simpa using n1)).trans HI.out.block
      have d1 := (cell_ofK hbr).2.1
      have hzl : (Builtin.zeroCells (Value.agg #[.bool false, .bool false]).cells (row.length - m)).toList.length = (row.length - m) * 2 := by simp [Builtin.zeroCells, Value.cells]
      have HEND := Aside0.mk (cut_endK okA (Builtin.zeroCells (Value.agg #[.bool false, .bool false]).cells (row.length - m)).toList (by rw [hzl]; rfl) HI.out hm HM.out HP2.out HG.out)
      obtain ⟨cur, hgw, hcs, hcl⟩ : ∃ cur, w.heap[g]? = some (.cells cur 50 (0, 0)) ∧ cur.size = cap * 2 ∧ row.length ≤ cap := by
        rcases HI.out.items.2 with ⟨hv, _⟩ | ⟨g', cap', cur, hv, _, hg, r1, r2, r3, r4⟩
        · cases hv
        · cases hv; exact ⟨cur, hg, r3, r1⟩
      have hgr := (HG.out.block g (HI.out.lt g (.inr (.inr rfl))) (by simpa using n3)).trans hgw
      have hclr := fun ty => run_clearK 107 50 (.agg #[.bool false, .bool false]) Try.underlying107 zero_A ty g (m * 2) (row.length - m) (cap - m) wr cur (by omega) hgr (by rw [← Array.length_toList, hzl]; omega) (by
        intro u hu
        simp [Builtin.zeroCells, Value.cells] at hu
        obtain ⟨i, _, rfl⟩ := hu
        rcases Nat.mod_two_eq_zero_or_one i with e | e <;> simp [e] <;> rfl)
      have hb2 := (setCells_far (Builtin.zeroCells (Value.agg #[.bool false, .bool false]).cells (row.length - m)).toList (m * 2) b n2).trans hbr
      obtain ⟨w2, hw2⟩ : ∃ w2, wr.setCells g (m * 2) (Builtin.zeroCells (Value.agg #[.bool false, .bool false]).cells (row.length - m)).toList = w2 := ⟨_, rfl⟩
      rw [show m * KTa.n = m * 2 from rfl] at HEND
      rw [hw2] at hb2 HEND
      simp only [hw2] at hclr
      have e1 := (cell_ofK hb2).2.1
      have f1 := (cell_ofK hb2).2.2
      clear hw2 hb2 hgr hcs hcl hgw hbr n1 n2 n3 HP HM HP2 hzl
      go_wp2
      go_end0
      exact HEND.out
end Go.Proofs.Ytijmhegccakndaa
