/-
  append to a full slice of values: a new row, or the same.
  bind at a function: a bound function is made.
  bind at a function of too many values.
  bind at no function: a trap.
-/
import Derived.Test.YtkeneiahhmbojaaGreatDoorGa
import Derived.Test.YtkeneiahhmbojaaGreatDoorGb
import Derived.Test.YtkeneiahhmbojaaGreatDoorGs
namespace Go.Proofs.YtkeneiahhmbojaaGreatDoor
open Go.RowKit Go.MapKept
open Go.Proofs.YtkeneiahhmbojaaGreatDoorW.PrintWords Go.Proofs.YtkeneiahhmbojaaGreatDoorW.PrintMore
open POpsBinds

theorem full_row (W : World) (xs ys : List S41) (olds news : List Value) (z : Value) (hz : z.cells.size = 2) (ho : Reps (k41.K W) 2 xs olds) (hn : Reps (k41.K W) 2 ys news) (hl : xs.length + ys.length ≤ 1000) (sCap : Nat) (_hs : sCap < xs.length + ys.length) :
    Kd.C k41 (W.drew.alloc (.cells (olds.toArray ++ news.toArray ++ Builtin.zeroCells z.cells (grownCap W (xs.length + ys.length) sCap 41 - (xs.length + ys.length))) 41)) (some ⟨W.heap.size, 0, none⟩) (xs ++ ys).length (xs ++ ys) := by
  have toM : ∀ (V : World) (p : S41) (c : List Value), k41.K W p c → k41.M V W.heap.size (fun k => (fun _ => True) k ∧ some k ≠ (Value.slice (some ⟨W.heap.size, 0, none⟩) (xs.length + ys.length) (grownCap W (xs.length + ys.length) sCap 41)).ownBlock) p c := fun V p c h => by rw [k41_open h]; exact k41_mkM _ _ _ _
  have hge := grownCap_ge W (xs.length + ys.length) sCap 41
  have hcm : grownCap W (xs.length + ys.length) sCap 41 ≤ maxLen := grownCap_le_maxLen W (xs.length + ys.length) sCap 41 (by simp only [maxLen]; omega)
  have hlen : (olds ++ news).length = (xs.length + ys.length) * 2 := by rw [List.length_append, ho.1, hn.1, Nat.add_mul]
  have hR : k41.R 41 (W.drew.alloc (.cells (olds.toArray ++ news.toArray ++ Builtin.zeroCells z.cells (grownCap W (xs.length + ys.length) sCap 41 - (xs.length + ys.length))) 41)) W.heap.size (fun _ => True) (.slice (some ⟨W.heap.size, 0, none⟩) (xs.length + ys.length) (grownCap W (xs.length + ys.length) sCap 41)) (xs ++ ys) := by
    refine ⟨fun _ _ => trivial, olds ++ news, ?_, Kd.reps_append (ho.imp_ (fun p c h => toM _ p c h)) (hn.imp_ (fun p c h => toM _ p c h))⟩
    rw [List.length_append]
    refine ⟨hlen, .inr ⟨W.heap.size, _, _, rfl, Nat.le_refl _, heap_alloc_new W.drew _, hge, hcm, ?_, ?_⟩⟩
    · simp only [Array.size_append, List.size_toArray, size_zeroCells, hz, ho.1, hn.1, ← Nat.add_mul]
      show (xs.length + ys.length + _) * 2 = _ * 2
      congr 1
      omega
    · show List.take ((xs.length + ys.length) * 2) _ = _
      simp only [Array.toList_append, List.append_assoc]
      rw [← List.append_assoc, ← hlen]
      exact List.take_left
  have h2 := (Kd.R_reads' hR).2.2
  exact h2
theorem full_run (W : World) (A : Option Addr) (xs ys : List S41) (hx : Kd.C k41 W A xs.length xs) (B : Option Addr) (c : Nat) (hy : Kd.C k41 W B ys.length ys) (hl : xs.length + ys.length ≤ 1000) :
    ∃ A1 c1 w1, (Builtin.append_ #[55, 55] 55 #[.slice A xs.length xs.length, .slice B ys.length c]).run Tryz.prog W = .ok (.slice A1 (xs ++ ys).length c1) w1 ∧ Kd.C k41 w1 A1 (xs ++ ys).length (xs ++ ys) ∧ Below W.heap.size W w1 := by
  obtain ⟨i0, hi, hzz⟩ := Option.map_eq_some_iff.1 info41
  simp only [Prod.mk.injEq] at hzz
  obtain ⟨hz0, hz1, hz2⟩ := hzz
  have ht := Tryz.underlying55
  rcases Nat.eq_zero_or_pos ys.length with h0 | hp
  · obtain rfl : ys = [] := List.eq_nil_of_length_eq_zero h0
    refine ⟨A, xs.length, W, ?_, by rw [List.append_nil]; exact hx, Below.refl _ _⟩
    cases A <;> cases B <;> simp [Builtin.append_, run_underlying ht, sizeOf, typeInfo, hi, Builtin.lenOf, Builtin.firstCells, storeCells, loadCells, loadCellsFrom]
  · obtain ⟨b, rfl, _⟩ := hy.2.2 hp
    obtain ⟨news, hnr, hnc⟩ := ReadsRow.inner_ hy
    have hnl : news.length = ys.length * i0.size := by rw [hz1]; exact hnr.1
    have hlen : (xs ++ ys).length = xs.length + ys.length := List.length_append
    rcases A with _ | a
    · have hx0 : xs = [] := by
        rcases Nat.eq_zero_or_pos xs.length with h0 | h0
        · exact List.eq_nil_of_length_eq_zero h0
        · obtain ⟨ad, h, _⟩ := hx.2.2 h0
          cases h
      subst hx0
      have hr := run_append_nil (P := Tryz.prog) (w := W) 55 55 41 i0 _ ht hi hz0 b ys.length c news hnl hnc hp (by simp at hl; omega) (by simp at hl; rw [hz2]; omega)
      have hC := full_row W [] ys [] news (.agg #[.int .i64 0, .int .i64 0]) rfl (Reps.none _ _) hnr hl 0 (by simpa using hp)
      simp only [List.length_nil, Nat.zero_add, List.nil_append, Array.empty_append] at hC ⊢
      exact ⟨_, _, _, hr, hC, below_alloc (below_drew (Below.refl _ _)) _⟩
    · obtain ⟨olds, hor, hoc⟩ := ReadsRow.inner_ hx
      have hr := run_append_grow (P := Tryz.prog) (w := W) 55 55 41 i0 _ ht hi hz0 a xs.length xs.length olds (by rw [hz1]; exact hor.1) hoc b ys.length c news hnl hnc (by omega) (by omega) (growslice_fits (by omega) (by rw [hz2]; omega))
      rw [hlen]
      have hC := full_row W xs ys olds news (.agg #[.int .i64 0, .int .i64 0]) rfl hor hnr hl xs.length (by omega)
      rw [hlen] at hC
      exact ⟨_, _, _, hr, hC, below_alloc (below_drew (Below.refl _ _)) _⟩
section
variable {ops : Array Oper} {rest : List Oper} {o : Oper} {a : Act} {Q : Exit → Act → World → Prop}
theorem C_append_full (W : World) (hgd : o.guard = none) (s x : Operand) (ho : o.op = .call { callee := .builtin .append, args := #[s, x], argTypes := #[55, 55] }) (hty : o.type = 55)
    (A : Option Addr) (xs ys : List S41) (B : Option Addr) (c : Nat) (hs : a.eval s = .slice A xs.length xs.length) (hx : a.eval x = .slice B ys.length c)
    (hX : Kd.C k41 W A xs.length xs) (hY : Kd.C k41 W B ys.length ys) (hl : xs.length + ys.length ≤ 1000)
    (h : ∀ A1 c1 w1, Kd.C k41 w1 A1 (xs ++ ys).length (xs ++ ys) → Below W.heap.size W w1 → wpList Tryz.prog ops Q rest (a.put o.dst (.slice A1 (xs ++ ys).length c1)) w1) :
    wpList Tryz.prog ops Q (o :: rest) a W := by
  obtain ⟨A1, c1, w1, hr, hC, hb⟩ := full_run W A xs ys hX B c hY hl
  refine wpList_plain hgd fun K hK => ?_
  unfold Oper.wp execOp
  simp only [ho, hty, resolve, invoke, builtin, Sem.run_bind, Sem.run_pure, Result.andThen_ok, List.map_toArray, List.map_cons, List.map_nil, hs, hx, hr]
  exact hK _ _ (h A1 c1 w1 hC hb)
end
/-- x[:n:n] -/
theorem cut_full (A : Option Addr) (n c : Nat) (hc : n ≤ c) (hn : n ≤ 1000) (W : World) :
    (Instr.slice 55 (.slice A n c) none (some (.int .i64 (n : Int))) (some (.int .i64 (n : Int)))).run Tryz.prog W = .ok (.slice A n n) W := by
  obtain ⟨i0, hi, hzz⟩ := Option.map_eq_some_iff.1 info41
  have ht := Tryz.underlying55
  have ha : (A.map fun x => x.add 0) = A := by cases A <;> simp [Addr.add]
  have hel : Tryz.prog.elem 55 = 41 := by simp [Program.elem, ht]
  have hu : Tryz.prog.underlying 55 = some (.slice (Tryz.prog.elem 55)) := by rw [hel]; exact ht
  rw [run_slice_hm W 55 A n c hu .i64 .i64 n n (by omega) (by omega) (by omega), hel]
  simp [sizeOf, typeInfo, hi, sliced, Result.andThen, ha]
end Go.Proofs.YtkeneiahhmbojaaGreatDoor

namespace Go.Proofs.YtkeneiahhmbojaaGreatDoor
open Go.RowKit Go.MapKept
open Go.Proofs.YtkeneiahhmbojaaGreatDoorW.PrintWords Go.Proofs.YtkeneiahhmbojaaGreatDoorW.PrintMore
open POpsBinds

set_option maxRecDepth 100000 in
set_option maxHeartbeats 4000000 in
theorem bind_func (W : World) (n0 pw hp fb cc : Nat) (sp p : Int) (v p0 p3 : Value) (bs : List Nat) (A : Option Addr) (c : Nat) (l : List S41) (hpw : W.heap[pw]? = some (.cells #[p0, .slice (some ⟨fb, 0, none⟩) 1 cc, .pointer (some ⟨hp, 0, none⟩), p3] 38 (0, 0))) (hh : W.heap[hp]? = some (.cells #[.int .i64 1048576, .int .i64 sp, v] 94 (0, 0))) (hth : kTh.R 96 W n0 (fun _ => True) v bs) (hlen : bs.length ≤ 8) (hf : ∀ X, Below W.heap.size W X → X.cell? ⟨fb, 1, none⟩ = some (.int .i64 p)) (hr : Kd.C k41 W A l.length l) (hl : l.length ≤ 64) (hn0 : n0 ≤ W.heap.size) (hfit : (l.length : Int) ≤ p) (hsp : 0 ≤ sp) (hb : sp + (2 + (l.length : Int)) ≤ 1048576) :
    Calls Tryz.prog 50 #[.pointer (some ⟨pw, 0, none⟩), .agg #[.int .i64 5, .int .i64 0], .slice A l.length c] W fun e w' => e = .returned (.agg #[.int .i64 8, .int .i64 (bs.length : Int), .int .i64 0, .bool false]) ∧ ∃ t v' vi, w'.heap[hp]? = some (.cells #[.int .i64 1048576, .int .i64 (sp + (2 + (l.length : Int))), v'] 94 (0, 0)) ∧ kTh.R 96 w' n0 (fun _ => True) v' (bs ++ [t]) ∧ w'.heap[t]? = some (.cells #[.int .i64 0, vi] 132 (0, 0)) ∧ k41.R 41 w' W.heap.size (fun _ => True) vi l ∧ Kp W w' (fun k => k = hp ∨ some k = v.ownBlock) ∧ W.heap.size ≤ t := by
  have HPW := Aside0.mk hpw
  have HH := Aside0.mk (And.intro hh (And.intro hth (And.intro hlen (And.intro hf (And.intro hr hl)))))
  have hplt := (Array.getElem?_eq_some_iff.1 hpw).1
  have c0 : W.cell? ⟨pw, 1, none⟩ = some (.slice (some ⟨fb, 0, none⟩) 1 cc) := by rw [cell_of_row _ _ 1 _ _ _ hpw]; rfl
  have z0 : pw < W.heap.size + 1 := by omega
  have z1 : pw ≠ W.heap.size := by omega
  have z2 : pw ≠ W.heap.size + 1 := by omega
  clear hpw hh hth hlen hf hr hl
  go_enter Tryz.func50, Tryz.ntmps50
  have HB := Aside0.mk (below_alloc (below_alloc (Below.refl W.heap.size W) (.cells #[.int .i64 5, .int .i64 0] 41)) (.cells #[.int .i64 0, .int .i64 0, .int .i64 0, .bool false] 90))
  have HRR := Aside0.mk (ReadsRow.imp_ (R' := k41.K W) (Kd.C_below HH.out.2.2.2.2.1 (below_alloc (Below.refl _ W) (.cells #[.int .i64 5, .int .i64 0] 41))) (below_alloc (Below.refl _ (W.alloc (.cells #[.int .i64 5, .int .i64 0] 41))) (.cells #[.int .i64 0, .int .i64 0, .int .i64 0, .bool false] 90)) (fun x cs h => by rw [k41_open h]; exact k41_mk _ _))
  go_wp2_with (first | ((with_reducible refine gate_builtin (b := .append) (xs := #[.tmp 48, .tmp 49]) rfl ?_); at_builtin; refine Kd.R_append_rows k41 (Rr := k41.K W) (w0 := W) W.heap.size rfl (.tmp 48) (.tmp 49) 55 41 (.agg #[.int .i64 0, .int .i64 0]) 16 rfl Tryz.underlying55 info41 rfl (by decide) (by omega) (.slice none 0 0) ([] : List S41) l A l.length c (fun _ => True) (fun _ => False) rfl rfl (Kd.R_nil _ _ _ _ _) ?aR ?aK (fun _ h => h.elim) (fun _ _ => trivial) ?aB ?aS ?aL ?_; (case aR => exact HRR.out); (case aK => intro x cs h; rw [k41_open h]; exact k41_mkM _ _ _ _); (case aB => exact HB.out); (case aS => simp; omega); (case aL => have := HH.out.2.2.2.2.2; simp; omega); intro v1 w1 ho hb hg hat; obtain ⟨A1, cc1, rfl⟩ := Kd.R_slice ho; have HO := Aside0.mk (And.intro ho (And.intro hb hg)); have d0 : w1.cell? ⟨pw, 1, none⟩ = some (.slice (some ⟨fb, 0, none⟩) 1 cc) := (by rw [cell_of_row _ _ 1 _ _ _ ((hb.block pw hplt).trans HPW.out)]; rfl); have d1 : w1.cell? ⟨pw, 2, none⟩ = some (.pointer (some ⟨hp, 0, none⟩)) := (by rw [cell_of_row _ _ 2 _ _ _ ((hb.block pw hplt).trans HPW.out)]; rfl); have d2 : w1.cell? ⟨fb, 1, none⟩ = some (.int .i64 p) := HH.out.2.2.2.1 w1 hb; have d3 : decide (p < (l.length : Int)) = false := (by simp; omega); clear ho hb hg hat c0))
  refine (heapBound_calls w1 n0 hp sp 0 v bs A1 cc1 l ((HO.out.2.1.block hp (Array.getElem?_eq_some_iff.1 HH.out.1).1).trans HH.out.1) (Kd.R_below HH.out.2.1 HO.out.2.1) (Kd.R_reads' HO.out.1).2.2 HH.out.2.2.2.2.2 (by omega) hsp hb HH.out.2.2.1 (Nat.le_trans hn0 HO.out.2.1.size)).mono ?_
  rintro e w2 ⟨rfl, t, v', vi, h1, h2, h3, h4, hk, hge⟩
  have HZ := Aside0.mk (And.intro h1 (And.intro h2 (And.intro h3 (And.intro h4 (And.intro hk hge)))))
  clear h1 h2 h3 h4 hk hge
  go_wp2_with (fail)
  refine (ops_roomy.calls 8 (bs.length : Int) true 8 (bs.length : Int) 0 false w2 rfl).mono ?_
  rintro e w3 ⟨rfl, hb3⟩
  have hv : ∀ k, W.heap.size ≤ k → some k ≠ v.ownBlock := fun k hk he => by have := Kd.R_lt HH.out.2.1 k he.symm; omega
  have hhl := (Array.getElem?_eq_some_iff.1 HH.out.1).1
  have hg1 := (HO.out.2.2.block (W.heap.size + 1) (by simp) (by simp [Value.ownBlock])).trans (heap_alloc2_new W (.cells #[.int .i64 5, .int .i64 0] 41) (.cells #[.int .i64 0, .int .i64 0, .int .i64 0, .bool false] 90))
  have hg2 := (HZ.out.2.2.2.2.1.block _ (Array.getElem?_eq_some_iff.1 hg1).1 (fun hc => hc.elim (by omega) (hv _ (by omega)))).trans hg1
  have hg3 := (hb3.block _ (Array.getElem?_eq_some_iff.1 hg2).1).trans hg2
  have HG := Aside0.mk (And.intro hg3 hb3)
  have hgl := (Array.getElem?_eq_some_iff.1 hg1).1
  clear hg1 hg2 hg3 hb3 hv
  go_wp2_with (with_reducible refine wpList_store_row rfl 90 _ _ rfl (W.heap.size + 1) #[.int .i64 8, .int .i64 (bs.length : Int), .int .i64 0, .bool false] rfl rfl 90 _ HG.out.1 (by kernel_rfl) (by kernel_rfl) (by kernel_rfl) ?_)
  obtain ⟨h1, h2, h3, h4, hk, hge⟩ := HZ.out
  obtain ⟨hr, hb3⟩ := HG.out
  have k1 : Kp W w1 (fun k => k = hp ∨ some k = v.ownBlock) := ⟨HO.out.2.1.os, HO.out.2.1.tape, HO.out.2.1.output, HO.out.2.1.size, fun k h _ => HO.out.2.1.block k h⟩
  have k3 := (k1.trans hk (fun j hj => .inl hj)).trans (S' := fun _ => False) ⟨hb3.os, hb3.tape, hb3.output, hb3.size, fun k h _ => hb3.block k h⟩ (fun j hj => hj.elim)
  have hl1 := (Array.getElem?_eq_some_iff.1 h1).1
  have hl3 := (Array.getElem?_eq_some_iff.1 h3).1
  refine bodyPost_ret (results_cell_row rfl _ _ (W.heap.size + 1) 90 _ (0, 0) _ rfl (setRow_heap _ _ _ _ _ _ hr) Tryz.underlying90 rfl (by kernel_rfl)) rfl ⟨rfl, t, v', vi, ?_, ?_, ?_, ?_, ?_, ?_⟩
  · exact (setRow_other _ _ _ _ (by omega)).trans ((hb3.block hp hl1).trans h1)
  · exact Kd.R_mono (Kd.R_step (Kd.R_types (Kd.R_below h2 hb3) hr (by decide)) (fun k hk' _ => setRow_other _ _ _ _ hk'.2)) (fun _ _ => trivial)
  · exact (setRow_other _ _ _ _ (by omega)).trans ((hb3.block t hl3).trans h3)
  · exact Kd.R_lower (Kd.R_mono (Kd.R_step (Kd.R_types (Kd.R_below h4 hb3) hr (by decide)) (fun k hk' _ => setRow_other _ _ _ _ hk'.2)) (fun _ _ => trivial)) HO.out.2.1.size
  · exact k3.trans (Kp.setRow w3 (W.heap.size + 1) _) (fun j hj => .inr (by omega))
  · have := HO.out.2.1.size; omega
end Go.Proofs.YtkeneiahhmbojaaGreatDoor

namespace Go.Proofs.YtkeneiahhmbojaaGreatDoor
open Go.RowKit Go.MapKept
open Go.Proofs.YtkeneiahhmbojaaGreatDoorW.PrintWords Go.Proofs.YtkeneiahhmbojaaGreatDoorW.PrintMore
open POpsBinds

set_option maxRecDepth 100000 in
set_option maxHeartbeats 4000000 in
theorem bind_many (W : World) (n0 pw hp fb cc : Nat) (sp p : Int) (v p0 p3 : Value) (bs : List Nat) (A : Option Addr) (c : Nat) (l : List S41) (hpw : W.heap[pw]? = some (.cells #[p0, .slice (some ⟨fb, 0, none⟩) 1 cc, .pointer (some ⟨hp, 0, none⟩), p3] 38 (0, 0))) (hh : W.heap[hp]? = some (.cells #[.int .i64 1048576, .int .i64 sp, v] 94 (0, 0))) (hth : kTh.R 96 W n0 (fun _ => True) v bs) (hlen : bs.length ≤ 8) (hf : ∀ X, Below W.heap.size W X → X.cell? ⟨fb, 1, none⟩ = some (.int .i64 p)) (hr : Kd.C k41 W A l.length l) (hl : l.length ≤ 64) (hfit : p < (l.length : Int)) :
    Calls Tryz.prog 50 #[.pointer (some ⟨pw, 0, none⟩), .agg #[.int .i64 5, .int .i64 0], .slice A l.length c] W fun e w' => e = .returned (.agg #[.int .i64 0, .int .i64 0, .int .i64 5, .bool false]) ∧ Below W.heap.size W w' := by
  have HPW := Aside0.mk hpw
  have HH := Aside0.mk (And.intro hh (And.intro hth (And.intro hlen (And.intro hf (And.intro hr hl)))))
  have hplt := (Array.getElem?_eq_some_iff.1 hpw).1
  have c0 : W.cell? ⟨pw, 1, none⟩ = some (.slice (some ⟨fb, 0, none⟩) 1 cc) := by rw [cell_of_row _ _ 1 _ _ _ hpw]; rfl
  have z0 : pw < W.heap.size + 1 := by omega
  have z1 : pw ≠ W.heap.size := by omega
  have z2 : pw ≠ W.heap.size + 1 := by omega
  clear hpw hh hth hlen hf hr hl
  go_enter Tryz.func50, Tryz.ntmps50
  have HB := Aside0.mk (below_alloc (below_alloc (Below.refl W.heap.size W) (.cells #[.int .i64 5, .int .i64 0] 41)) (.cells #[.int .i64 0, .int .i64 0, .int .i64 0, .bool false] 90))
  have HRR := Aside0.mk (ReadsRow.imp_ (R' := k41.K W) (Kd.C_below HH.out.2.2.2.2.1 (below_alloc (Below.refl _ W) (.cells #[.int .i64 5, .int .i64 0] 41))) (below_alloc (Below.refl _ (W.alloc (.cells #[.int .i64 5, .int .i64 0] 41))) (.cells #[.int .i64 0, .int .i64 0, .int .i64 0, .bool false] 90)) (fun x cs h => by rw [k41_open h]; exact k41_mk _ _))
  go_wp2_with (first | ((with_reducible refine gate_builtin (b := .append) (xs := #[.tmp 48, .tmp 49]) rfl ?_); at_builtin; refine Kd.R_append_rows k41 (Rr := k41.K W) (w0 := W) W.heap.size rfl (.tmp 48) (.tmp 49) 55 41 (.agg #[.int .i64 0, .int .i64 0]) 16 rfl Tryz.underlying55 info41 rfl (by decide) (by omega) (.slice none 0 0) ([] : List S41) l A l.length c (fun _ => True) (fun _ => False) rfl rfl (Kd.R_nil _ _ _ _ _) ?aR ?aK (fun _ h => h.elim) (fun _ _ => trivial) ?aB ?aS ?aL ?_; (case aR => exact HRR.out); (case aK => intro x cs h; rw [k41_open h]; exact k41_mkM _ _ _ _); (case aB => exact HB.out); (case aS => simp; omega); (case aL => have := HH.out.2.2.2.2.2; simp; omega); intro v1 w1 ho hb hg hat; obtain ⟨A1, cc1, rfl⟩ := Kd.R_slice ho; have HO := Aside0.mk (And.intro ho (And.intro hb hg)); have d0 : w1.cell? ⟨pw, 1, none⟩ = some (.slice (some ⟨fb, 0, none⟩) 1 cc) := (by rw [cell_of_row _ _ 1 _ _ _ ((hb.block pw hplt).trans HPW.out)]; rfl); have d2 : w1.cell? ⟨fb, 1, none⟩ = some (.int .i64 p) := HH.out.2.2.2.1 w1 hb; have d3 : decide (p < (l.length : Int)) = true := (by simp; omega); clear ho hb hg hat c0))
  refine (trap_calls 5 w1).mono ?_
  rintro e w3 ⟨rfl, hb3⟩
  have hg1 := (HO.out.2.2.block (W.heap.size + 1) (by simp) (by simp [Value.ownBlock])).trans (heap_alloc2_new W (.cells #[.int .i64 5, .int .i64 0] 41) (.cells #[.int .i64 0, .int .i64 0, .int .i64 0, .bool false] 90))
  have hg3 := (hb3.block _ (Array.getElem?_eq_some_iff.1 hg1).1).trans hg1
  have HG := Aside0.mk (And.intro hg3 hb3)
  clear hg1 hg3 hb3
  go_wp2_with (with_reducible refine wpList_store_row rfl 90 _ _ rfl (W.heap.size + 1) #[.int .i64 0, .int .i64 0, .int .i64 5, .bool false] rfl rfl 90 _ HG.out.1 (by kernel_rfl) (by kernel_rfl) (by kernel_rfl) ?_)
  obtain ⟨hr, hb3⟩ := HG.out
  refine bodyPost_ret (results_cell_row rfl _ _ (W.heap.size + 1) 90 _ (0, 0) _ rfl (setRow_heap _ _ _ _ _ _ hr) Tryz.underlying90 rfl (by kernel_rfl)) rfl ⟨rfl, ?_⟩
  exact below_setRow (HO.out.2.1.trans (hb3.mono HO.out.2.1.size)) (by omega) _
end Go.Proofs.YtkeneiahhmbojaaGreatDoor

namespace Go.Proofs.YtkeneiahhmbojaaGreatDoor
open Go.RowKit Go.MapKept
open Go.Proofs.YtkeneiahhmbojaaGreatDoorW.PrintWords Go.Proofs.YtkeneiahhmbojaaGreatDoorW.PrintMore
open POpsBinds
set_option linter.unusedVariables false

set_option maxRecDepth 100000 in
theorem bind_none (W : World) (pw n c : Nat) (A : Option Addr) :
    Calls Tryz.prog 50 #[.pointer (some ⟨pw, 0, none⟩), .agg #[.int .i64 0, .int .i64 0], .slice A n c] W fun e w' => e = .returned (.agg #[.int .i64 0, .int .i64 0, .int .i64 1, .bool false]) ∧ Below W.heap.size W w' := by
  go_enter Tryz.func50, Tryz.ntmps50
  have HB := Aside0.mk (below_alloc (below_alloc (Below.refl W.heap.size W) (.cells #[.int .i64 0, .int .i64 0] 41)) (.cells #[.int .i64 0, .int .i64 0, .int .i64 0, .bool false] 90))
  go_wp2_with fail
  refine (trap_calls 1 _).mono ?_
  rintro e w3 ⟨rfl, hb3⟩
  have hg1 := heap_alloc2_new W (.cells #[.int .i64 0, .int .i64 0] 41) (.cells #[.int .i64 0, .int .i64 0, .int .i64 0, .bool false] 90)
  have hg3 := (hb3.block _ (Array.getElem?_eq_some_iff.1 hg1).1).trans hg1
  have HG := Aside0.mk (And.intro hg3 hb3)
  clear hg1 hg3 hb3
  go_wp2_with (with_reducible refine wpList_store_row rfl 90 _ _ rfl (W.heap.size + 1) #[.int .i64 0, .int .i64 0, .int .i64 1, .bool false] rfl rfl 90 _ HG.out.1 (by kernel_rfl) (by kernel_rfl) (by kernel_rfl) ?_)
  obtain ⟨hr, hb3⟩ := HG.out
  refine bodyPost_ret (results_cell_row rfl _ _ (W.heap.size + 1) 90 _ (0, 0) _ rfl (setRow_heap _ _ _ _ _ _ hr) Tryz.underlying90 rfl (by kernel_rfl)) rfl ⟨rfl, ?_⟩
  exact below_setRow (HB.out.trans (hb3.mono HB.out.size)) (by omega) _
end Go.Proofs.YtkeneiahhmbojaaGreatDoor
