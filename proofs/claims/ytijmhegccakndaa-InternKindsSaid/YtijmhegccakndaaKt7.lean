/-
  An index of texts or of bytes: Cut. (Printed by wip/tools/kt7.py.)
-/
import Derived.Test.YtijmhegccakndaaKt6
namespace Go.Proofs.Ytijmhegccakndaa
open Go.RowKit Go.Maps Go.WideMaps
open Go.ChangeMaps (setBlock)
open Go.Proofs.YtijmhegccakndaaW.PrintWords Go.Proofs.YtijmhegccakndaaW.PrintMore
attribute [local go_sem] max2_int max_two
variable {K : KT}

theorem zero_S (w : World) : (zeroValue 9).run Try.prog w = .ok (.string ⟨#[]⟩ : Value) w := by kernel_rfl
theorem cut_none_S (w : World) (b bm : Nat) (v : Value) (D : DataW Unit) (row : List Nat) (n k : Int) (h : IxK KTs w b bm v D row) (hk : (if n < 0 then 0 else n) = k) (hn : (row.length : Int) ≤ k) :
    Calls Try.prog 19 #[.pointer (some ⟨b, 0, none⟩), .int .i64 n] w fun e w' => e = .returned (.tuple #[]) ∧ w = w' := by
  obtain ⟨A, cp, rfl⟩ := h.slice
  have c1 := (cell_ofK h.block).2.1
  clear h
  have p1 : decide ((row.length : Int) ≤ k) = true := decide_eq_true hn
  clear hn
  go_enter Try.func19, Try.ntmps19
  go_wp2
  refine bodyPost_ret (results_none rfl _ _ _) rfl ?_
  exact ⟨rfl, rfl⟩
set_option maxRecDepth 100000 in
theorem cut_some_S (w : World) (b bm : Nat) (v : Value) (D : DataW Unit) (row : List Nat) (n : Int) (m : Nat) (h : IxK KTs w b bm v D row) (hn : (if n < 0 then 0 else n) = (m : Int)) (hm : m < row.length) :
    Calls Try.prog 19 #[.pointer (some ⟨b, 0, none⟩), .int .i64 n] w (IsCutK KTs w b bm v row m) := by
  obtain ⟨g, cap, rfl, _, _⟩ := h.items.form (by omega)
  have HI := Aside0.mk h
  obtain ⟨c0, c1, _⟩ := cell_ofK h.block
  have hcap : row.length ≤ cap := by
    rcases h.items.2 with ⟨hv, _⟩ | ⟨g', cap', cur, hv, _, _, h1, _⟩
    · cases hv
    · cases hv; exact h1
  have hmx := h.small
  obtain ⟨i9, hi9, hz0, hz1, hz2⟩ := info_parts info_S
  have hcutf := cut_from (P := Try.prog) 22 9 .i64 Try.underlying22 hi9 1 hz1 (some ⟨g, 0, none⟩) row.length cap (m : Int) (by omega) (by omega)
  have hcutt := cut_to (P := Try.prog) 22 9 .i64 Try.underlying22 hi9 (some ⟨g, 0, none⟩) row.length cap (m : Int) (by omega) (by omega) hcap
  have HS := Aside0.mk hz1
  have hcm : cap ≠ m := by omega
  have p1 : decide ((row.length : Int) ≤ (m : Int)) = false := decide_eq_false (by omega)
  have p2 : decide (row.length ≤ m) = false := decide_eq_false (by omega)
  simp only [Int.toNat_natCast, if_neg hcm, Option.map_some, Nat.mul_one, add_plain] at hcutf hcutt
  have hml : (m : Int) < (row.length : Int) := by omega
  clear h hz0 hz1 hz2
  go_enter Try.func19, Try.ntmps19
  go_wp2
  go_loopw [22, 5] (fun i _ wr => ∃ (k : Nat) (Dk : DataW Unit), i = .int .i64 (k : Int) ∧ k ≤ row.length - m ∧ Aside0 (wr.ownsMap Try.prog 9 (plainElem Try.prog 3) bm row.length Dk) ∧ Aside0 (AgreePK KTs Dk row m (m + k)) ∧ Aside0 (w.grownBy wr (some bm))) (fun i _ _ => row.length - m - (intOf i).toNat)
  case atStart => exact ⟨0, D, rfl, Nat.zero_le _, ⟨HI.out.map⟩, ⟨AgreePK.start HI.out.agree m⟩, ⟨World.grownBy.refl _ _⟩⟩
  case round =>
    obtain ⟨k, Dk, rfl, hk, HM, HP, HG⟩ := hrel
    by_cases hlt : k < row.length - m
    · obtain ⟨t, ht⟩ : ∃ t, row[m + k]? = some t := ⟨_, List.getElem?_eq_getElem (by omega)⟩
      obtain ⟨n1, n2, n3⟩ := HI.out.apart3 okS
      have hsz := HI.out.agree.small t (List.mem_of_getElem? ht)
      have hkey := okS.keyOf t hsz
      have hbr := (HG.out.block b (HI.out.lt b (.inl rfl)) (by simpa using n1)).trans HI.out.block
      have d0 := (cell_ofK hbr).1
      have ci : wr.cell? ⟨g, m + k, none⟩ = some (Value.string (tx t)) := by
        rw [World.cell?_of_block (w := w) (HG.out.block g (HI.out.lt g (.inr (.inr rfl))) (by simpa using n3)), HI.out.items.cellAt (m + k) (by rw [show KTs.n = 1 from rfl]; omega)]
        have := KT.row_cell okS row (m + k) t 0 ht (by decide)
        rw [show KTs.n = 1 from rfl, Nat.mul_one, Nat.add_zero] at this
        exact this
      have hown := HM.out
      have HSTEP := Aside0.mk (HP.out.step okS HI.out.agree.apart HI.out.agree.small ht (by omega))
      have hl3 : (k : Int) < ((row.length - m : Nat) : Int) := by omega
      rw [show KTs.val t = Value.string (tx t) from rfl] at hkey
      obtain ⟨x, hx⟩ : ∃ x : ByteArray, x = (tx t) := ⟨_, rfl⟩
      rw [← hx] at hkey ci
      clear ht n1 n2 n3 hsz hbr hx
      go_wp2_with (at_delete; refine wpList_delete_own _ rfl _ _ 94 9 rfl 3 okS.keyed Try.underlying94 _ bm _ Dk rfl hown _ _ rfl hkey ?_; intro w1 hown1 hturn1; replace hown1 := Aside0.mk hown1; replace hturn1 := Aside0.mk hturn1)
      go_roundw
      case rel => exact ⟨k + 1, _, by go_num, by omega, hown1, HSTEP, ⟨HG.out.trans (turned_grown hturn1.out)⟩⟩
      case measure => simp [intOf]; omega
    · have hl3 : ¬ (k : Int) < ((row.length - m : Nat) : Int) := by omega
      obtain rfl : k = row.length - m := by omega
      have HP2 := Aside0.mk (show AgreePK KTs Dk row m row.length by have := HP.out; rwa [show m + (row.length - m) = row.length by omega] at this)
      obtain ⟨n1, n2, n3⟩ := HI.out.apart3 okS
      have hbr := (HG.out.block b (HI.out.lt b (.inl rfl)) (by simpa using n1)).trans HI.out.block
      have d1 := (cell_ofK hbr).2.1
      have hzl : (Builtin.zeroCells (.string ⟨#[]⟩ : Value).cells (row.length - m)).toList.length = row.length - m := by simp [Builtin.zeroCells, Value.cells]
      have HEND := Aside0.mk (cut_endK okS (Builtin.zeroCells (.string ⟨#[]⟩ : Value).cells (row.length - m)).toList (by rw [hzl, show KTs.n = 1 from rfl, Nat.mul_one]) HI.out hm HM.out HP2.out HG.out)
      obtain ⟨cur, hgw, hcs⟩ : ∃ cur, w.heap[g]? = some (.cells cur 9 (0, 0)) ∧ cur.size = cap * 1 := by
        rcases HI.out.items.2 with ⟨hv, _⟩ | ⟨g', cap', cur, hv, _, hg, r1, r2, r3, r4⟩
        · cases hv
        · cases hv; exact ⟨cur, hg, r3⟩
      have hgr := (HG.out.block g (HI.out.lt g (.inr (.inr rfl))) (by simpa using n3)).trans hgw
      have hclr := fun ty => run_clearK 22 9 (.string ⟨#[]⟩ : Value) Try.underlying22 zero_S ty g m (row.length - m) (cap - m) wr cur (by omega) hgr (by rw [← Array.length_toList, hzl]; omega) (by
        intro u hu
        simp [Builtin.zeroCells, Value.cells] at hu
        obtain ⟨_, _, rfl⟩ := hu
        simp [Nat.mod_one]
        rfl)
      have hb2 := (setCells_far (Builtin.zeroCells (.string ⟨#[]⟩ : Value).cells (row.length - m)).toList m b n2).trans hbr
      obtain ⟨w2, hw2⟩ : ∃ w2, wr.setCells g m (Builtin.zeroCells (.string ⟨#[]⟩ : Value).cells (row.length - m)).toList = w2 := ⟨_, rfl⟩
      rw [show m * KTs.n = m from Nat.mul_one m] at HEND
      rw [hw2] at hb2 HEND
      simp only [hw2] at hclr
      have e1 := (cell_ofK hb2).2.1
      have f1 := (cell_ofK hb2).2.2
      clear hw2 hb2 hgr hcs hgw hbr n1 n2 n3 HP HM HP2 hzl
      go_wp2
      go_end0
      exact HEND.out

theorem zero_B (w : World) : (zeroValue 47).run Try.prog w = .ok (.int .i8 0 : Value) w := by kernel_rfl
theorem cut_none_B (w : World) (b bm : Nat) (v : Value) (D : DataW Unit) (row : List Nat) (n k : Int) (h : IxK KTb w b bm v D row) (hk : (if n < 0 then 0 else n) = k) (hn : (row.length : Int) ≤ k) :
    Calls Try.prog 26 #[.pointer (some ⟨b, 0, none⟩), .int .i64 n] w fun e w' => e = .returned (.tuple #[]) ∧ w = w' := by
  obtain ⟨A, cp, rfl⟩ := h.slice
  have c1 := (cell_ofK h.block).2.1
  clear h
  have p1 : decide ((row.length : Int) ≤ k) = true := decide_eq_true hn
  clear hn
  go_enter Try.func26, Try.ntmps26
  go_wp2
  refine bodyPost_ret (results_none rfl _ _ _) rfl ?_
  exact ⟨rfl, rfl⟩
set_option maxRecDepth 100000 in
theorem cut_some_B (w : World) (b bm : Nat) (v : Value) (D : DataW Unit) (row : List Nat) (n : Int) (m : Nat) (h : IxK KTb w b bm v D row) (hn : (if n < 0 then 0 else n) = (m : Int)) (hm : m < row.length) :
    Calls Try.prog 26 #[.pointer (some ⟨b, 0, none⟩), .int .i64 n] w (IsCutK KTb w b bm v row m) := by
  obtain ⟨g, cap, rfl, _, _⟩ := h.items.form (by omega)
  have HI := Aside0.mk h
  obtain ⟨c0, c1, _⟩ := cell_ofK h.block
  have hcap : row.length ≤ cap := by
    rcases h.items.2 with ⟨hv, _⟩ | ⟨g', cap', cur, hv, _, _, h1, _⟩
    · cases hv
    · cases hv; exact h1
  have hmx := h.small
  obtain ⟨i9, hi9, hz0, hz1, hz2⟩ := info_parts info_B
  have hcutf := cut_from (P := Try.prog) 103 47 .i64 Try.underlying103 hi9 1 hz1 (some ⟨g, 0, none⟩) row.length cap (m : Int) (by omega) (by omega)
  have hcutt := cut_to (P := Try.prog) 103 47 .i64 Try.underlying103 hi9 (some ⟨g, 0, none⟩) row.length cap (m : Int) (by omega) (by omega) hcap
  have HS := Aside0.mk hz1
  have hcm : cap ≠ m := by omega
  have p1 : decide ((row.length : Int) ≤ (m : Int)) = false := decide_eq_false (by omega)
  have p2 : decide (row.length ≤ m) = false := decide_eq_false (by omega)
  simp only [Int.toNat_natCast, if_neg hcm, Option.map_some, Nat.mul_one, add_plain] at hcutf hcutt
  have hml : (m : Int) < (row.length : Int) := by omega
  clear h hz0 hz1 hz2
  go_enter Try.func26, Try.ntmps26
  go_wp2
  go_loopw [22, 5] (fun i _ wr => ∃ (k : Nat) (Dk : DataW Unit), i = .int .i64 (k : Int) ∧ k ≤ row.length - m ∧ Aside0 (wr.ownsMap Try.prog 47 (plainElem Try.prog 3) bm row.length Dk) ∧ Aside0 (AgreePK KTb Dk row m (m + k)) ∧ Aside0 (w.grownBy wr (some bm))) (fun i _ _ => row.length - m - (intOf i).toNat)
  case atStart => exact ⟨0, D, rfl, Nat.zero_le _, ⟨HI.out.map⟩, ⟨AgreePK.start HI.out.agree m⟩, ⟨World.grownBy.refl _ _⟩⟩
  case round =>
    obtain ⟨k, Dk, rfl, hk, HM, HP, HG⟩ := hrel
    by_cases hlt : k < row.length - m
    · obtain ⟨t, ht⟩ : ∃ t, row[m + k]? = some t := ⟨_, List.getElem?_eq_getElem (by omega)⟩
      obtain ⟨n1, n2, n3⟩ := HI.out.apart3 okB
      have hsz := HI.out.agree.small t (List.mem_of_getElem? ht)
      have hkey := okB.keyOf t hsz
      have hbr := (HG.out.block b (HI.out.lt b (.inl rfl)) (by simpa using n1)).trans HI.out.block
      have d0 := (cell_ofK hbr).1
      have ci : wr.cell? ⟨g, m + k, none⟩ = some (Value.int .i8 ((t : Int) - 2)) := by
        rw [World.cell?_of_block (w := w) (HG.out.block g (HI.out.lt g (.inr (.inr rfl))) (by simpa using n3)), HI.out.items.cellAt (m + k) (by rw [show KTb.n = 1 from rfl]; omega)]
        have := KT.row_cell okB row (m + k) t 0 ht (by decide)
        rw [show KTb.n = 1 from rfl, Nat.mul_one, Nat.add_zero] at this
        exact this
      have hown := HM.out
      have HSTEP := Aside0.mk (HP.out.step okB HI.out.agree.apart HI.out.agree.small ht (by omega))
      have hl3 : (k : Int) < ((row.length - m : Nat) : Int) := by omega
      rw [show KTb.val t = Value.int .i8 ((t : Int) - 2) from rfl] at hkey
      obtain ⟨x, hx⟩ : ∃ x : Int, x = ((t : Int) - 2) := ⟨_, rfl⟩
      rw [← hx] at hkey ci
      clear ht n1 n2 n3 hsz hbr hx
      go_wp2_with (at_delete; refine wpList_delete_own _ rfl _ _ 102 47 rfl 3 okB.keyed Try.underlying102 _ bm _ Dk rfl hown _ _ rfl hkey ?_; intro w1 hown1 hturn1; replace hown1 := Aside0.mk hown1; replace hturn1 := Aside0.mk hturn1)
      go_roundw
      case rel => exact ⟨k + 1, _, by go_num, by omega, hown1, HSTEP, ⟨HG.out.trans (turned_grown hturn1.out)⟩⟩
      case measure => simp [intOf]; omega
    · have hl3 : ¬ (k : Int) < ((row.length - m : Nat) : Int) := by omega
      obtain rfl : k = row.length - m := by omega
      have HP2 := Aside0.mk (show AgreePK KTb Dk row m row.length by have := HP.out; rwa [show m + (row.length - m) = row.length by omega] at this)
      obtain ⟨n1, n2, n3⟩ := HI.out.apart3 okB
      have hbr := (HG.out.block b (HI.out.lt b (.inl rfl)) (by simpa using n1)).trans HI.out.block
      have d1 := (cell_ofK hbr).2.1
      have hzl : (Builtin.zeroCells (.int .i8 0 : Value).cells (row.length - m)).toList.length = row.length - m := by simp [Builtin.zeroCells, Value.cells]
      have HEND := Aside0.mk (cut_endK okB (Builtin.zeroCells (.int .i8 0 : Value).cells (row.length - m)).toList (by rw [hzl, show KTb.n = 1 from rfl, Nat.mul_one]) HI.out hm HM.out HP2.out HG.out)
      obtain ⟨cur, hgw, hcs⟩ : ∃ cur, w.heap[g]? = some (.cells cur 47 (0, 0)) ∧ cur.size = cap * 1 := by
        rcases HI.out.items.2 with ⟨hv, _⟩ | ⟨g', cap', cur, hv, _, hg, r1, r2, r3, r4⟩
        · cases hv
        · cases hv; exact ⟨cur, hg, r3⟩
      have hgr := (HG.out.block g (HI.out.lt g (.inr (.inr rfl))) (by simpa using n3)).trans hgw
      have hclr := fun ty => run_clearK 103 47 (.int .i8 0 : Value) Try.underlying103 zero_B ty g m (row.length - m) (cap - m) wr cur (by omega) hgr (by rw [← Array.length_toList, hzl]; omega) (by
        intro u hu
        simp [Builtin.zeroCells, Value.cells] at hu
        obtain ⟨_, _, rfl⟩ := hu
        simp [Nat.mod_one]
        rfl)
      have hb2 := (setCells_far (Builtin.zeroCells (.int .i8 0 : Value).cells (row.length - m)).toList m b n2).trans hbr
      obtain ⟨w2, hw2⟩ : ∃ w2, wr.setCells g m (Builtin.zeroCells (.int .i8 0 : Value).cells (row.length - m)).toList = w2 := ⟨_, rfl⟩
      rw [show m * KTb.n = m from Nat.mul_one m] at HEND
      rw [hw2] at hb2 HEND
      simp only [hw2] at hclr
      have e1 := (cell_ofK hb2).2.1
      have f1 := (cell_ofK hb2).2.2
      clear hw2 hb2 hgr hcs hgw hbr n1 n2 n3 HP HM HP2 hzl
      go_wp2
      go_end0
      exact HEND.out
end Go.Proofs.Ytijmhegccakndaa
