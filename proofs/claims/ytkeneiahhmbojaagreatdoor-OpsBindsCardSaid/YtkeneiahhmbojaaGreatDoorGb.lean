/-
  The object of a bound function.
  Object of a heap.
  Len of a heap.
  made, with a program of one function without code.
-/
import Derived.Test.YtkeneiahhmbojaaGreatDoorGa
import Derived.Test.YtkeneiahhmbojaaGreatDoorGk
namespace Go.Proofs.YtkeneiahhmbojaaGreatDoor
open Go.RowKit Go.MapKept
open Go.Proofs.YtkeneiahhmbojaaGreatDoorW.PrintWords Go.Proofs.YtkeneiahhmbojaaGreatDoorW.PrintMore
open POpsBinds

theorem set6_row (w : World) (g : Nat) (a b c d e f x y z u v q : Value) (t : TypeId) (h : w.heap[g]? = some (.cells #[a, b, c, d, e, f] t (0, 0))) : ((((((w.setCell ⟨g, 0, none⟩ x).setCell ⟨g, 1, none⟩ y).setCell ⟨g, 2, none⟩ z).setCell ⟨g, 3, none⟩ u).setCell ⟨g, 4, none⟩ v).setCell ⟨g, 5, none⟩ q).heap[g]? = some (.cells #[x, y, z, u, v, q] t (0, 0)) := by
  have hlt := (Array.getElem?_eq_some_iff.1 h).1
  have h2 := (Array.getElem?_eq_some_iff.1 h).2
  simp [World.setCell, hlt, Array.getElem_modify, h2]
theorem obj_end (W w1 : World) (x y z u v q : Value) (n : Nat) (A1 : Option Addr) (cc1 : Nat) (l : List S41) (hv : k41.R 41 w1 n (fun _ => True) (.slice A1 l.length cc1) l) (hn : W.heap.size < n) (hB : Below W.heap.size W w1) :
    k41.R 41 ((((((w1.setCell ⟨W.heap.size, 0, none⟩ x).setCell ⟨W.heap.size, 1, none⟩ y).setCell ⟨W.heap.size, 2, none⟩ z).setCell ⟨W.heap.size, 3, none⟩ u).setCell ⟨W.heap.size, 4, none⟩ v).setCell ⟨W.heap.size, 5, none⟩ q) W.heap.size (fun _ => True) (.slice A1 l.length cc1) l ∧ Below W.heap.size W ((((((w1.setCell ⟨W.heap.size, 0, none⟩ x).setCell ⟨W.heap.size, 1, none⟩ y).setCell ⟨W.heap.size, 2, none⟩ z).setCell ⟨W.heap.size, 3, none⟩ u).setCell ⟨W.heap.size, 4, none⟩ v).setCell ⟨W.heap.size, 5, none⟩ q) := by
  have ho : ∀ k : Nat, k ≠ W.heap.size → ((((((w1.setCell ⟨W.heap.size, 0, none⟩ x).setCell ⟨W.heap.size, 1, none⟩ y).setCell ⟨W.heap.size, 2, none⟩ z).setCell ⟨W.heap.size, 3, none⟩ u).setCell ⟨W.heap.size, 4, none⟩ v).setCell ⟨W.heap.size, 5, none⟩ q).heap[k]? = w1.heap[k]? := fun k h => by
    rw [Below.heap_setCell _ _ _ _ h, Below.heap_setCell _ _ _ _ h, Below.heap_setCell _ _ _ _ h, Below.heap_setCell _ _ _ _ h, Below.heap_setCell _ _ _ _ h, Below.heap_setCell _ _ _ _ h]
  have hr := Kd.R_step (Kd.R_bound hv) (w1 := ((((((w1.setCell ⟨W.heap.size, 0, none⟩ x).setCell ⟨W.heap.size, 1, none⟩ y).setCell ⟨W.heap.size, 2, none⟩ z).setCell ⟨W.heap.size, 3, none⟩ u).setCell ⟨W.heap.size, 4, none⟩ v).setCell ⟨W.heap.size, 5, none⟩ q)) (fun k hk _ => ho k (by have := hk.2.1; omega))
  have k0 : Kp W w1 (fun _ => False) := ⟨hB.os, hB.tape, hB.output, hB.size, fun k hk _ => hB.block k hk⟩
  have k6 := Kp.setCell (Kp.setCell (Kp.setCell (Kp.setCell (Kp.setCell (Kp.setCell (k0) (p := ⟨W.heap.size, 0, none⟩) (.inr (Nat.le_refl _)) x) (p := ⟨W.heap.size, 1, none⟩) (.inr (Nat.le_refl _)) y) (p := ⟨W.heap.size, 2, none⟩) (.inr (Nat.le_refl _)) z) (p := ⟨W.heap.size, 3, none⟩) (.inr (Nat.le_refl _)) u) (p := ⟨W.heap.size, 4, none⟩) (.inr (Nat.le_refl _)) v) (p := ⟨W.heap.size, 5, none⟩) (.inr (Nat.le_refl _)) q
  exact ⟨Kd.R_lower (Kd.R_mono hr (fun _ _ => trivial)) (by omega), k6.os, k6.tape, k6.output, k6.size, fun k hk => k6.block k hk (fun h => h)⟩
set_option maxRecDepth 100000 in
set_option maxHeartbeats 2000000 in
theorem object_calls (W : World) (t : Nat) (fn : Int) (A : Option Addr) (c : Nat) (l : List S41) (ht : W.heap[t]? = some (.cells #[.int .i64 fn, .slice A l.length c] 132 (0, 0))) (hr : Kd.C k41 W A l.length l) (hl : l.length ≤ 64) :
    Calls Tryz.prog 327 #[.pointer (some ⟨t, 0, none⟩)] W fun e w' => ∃ A' c', e = .returned (.agg #[.int .i64 8, .slice A' l.length c', .slice none 0 0, .int .i64 fn, .int .i64 0, .bool false]) ∧ k41.R 41 w' W.heap.size (fun _ => True) (.slice A' l.length c') l ∧ Below W.heap.size W w' := by
  have HR := Aside0.mk hr
  have HL := Aside0.mk hl
  have hlt := (Array.getElem?_eq_some_iff.1 ht).1
  have c0 : W.cell? ⟨t, 0, none⟩ = some (.int .i64 fn) := by rw [cell_of_row _ _ 0 _ _ _ ht]; rfl
  have c1 : W.cell? ⟨t, 1, none⟩ = some (.slice A l.length c) := by rw [cell_of_row _ _ 1 _ _ _ ht]; rfl
  have z0 : t < W.heap.size + 1 := by omega
  have z1 : t ≠ W.heap.size := by omega
  clear ht hr hl
  go_enter Tryz.func327, Tryz.ntmps327
  go_wp2_with fail
  have HB := Aside0.mk (below_alloc (Below.refl W.heap.size W) (.cells #[.int .i64 0, .slice none 0 0, .slice none 0 0, .int .i64 0, .int .i64 0, .bool false] 66))
  have d0 : (W.alloc (.cells #[.int .i64 0, .slice none 0 0, .slice none 0 0, .int .i64 0, .int .i64 0, .bool false] 66)).cell? ⟨t, 0, none⟩ = some (.int .i64 fn) := by go_simp
  have d1 : (W.alloc (.cells #[.int .i64 0, .slice none 0 0, .slice none 0 0, .int .i64 0, .int .i64 0, .bool false] 66)).cell? ⟨t, 1, none⟩ = some (.slice A l.length c) := by go_simp
  have hx := heap_alloc_last W (.cells #[.int .i64 0, .slice none 0 0, .slice none 0 0, .int .i64 0, .int .i64 0, .bool false] 66)
  have hs : W.heap.size < (W.alloc (.cells #[.int .i64 0, .slice none 0 0, .slice none 0 0, .int .i64 0, .int .i64 0, .bool false] 66)).heap.size := by simp
  have HR2 := Aside0.mk (Kd.C_below HR.out (below_alloc (Below.refl _ W) (.cells #[.int .i64 0, .slice none 0 0, .slice none 0 0, .int .i64 0, .int .i64 0, .bool false] 66)))
  revert HB d0 d1 hx hs HR2
  generalize W.alloc (.cells #[.int .i64 0, .slice none 0 0, .slice none 0 0, .int .i64 0, .int .i64 0, .bool false] 66) = V
  intro HB d0 d1 hx hs HR2
  have HX := Aside0.mk hx
  have z2 : t < V.heap.size := by omega
  have x0 : V.cell? ⟨W.heap.size, 0, none⟩ = some (.int .i64 0) := by rw [cell_of_row _ _ 0 _ _ _ hx]; rfl
  have y0 : V.frozen? ⟨W.heap.size, 0, none⟩ = false := frozen_of_row V _ 0 _ _ hx
  have x1 : V.cell? ⟨W.heap.size, 1, none⟩ = some (.slice none 0 0) := by rw [cell_of_row _ _ 1 _ _ _ hx]; rfl
  have y1 : V.frozen? ⟨W.heap.size, 1, none⟩ = false := frozen_of_row V _ 1 _ _ hx
  have x2 : V.cell? ⟨W.heap.size, 2, none⟩ = some (.slice none 0 0) := by rw [cell_of_row _ _ 2 _ _ _ hx]; rfl
  have y2 : V.frozen? ⟨W.heap.size, 2, none⟩ = false := frozen_of_row V _ 2 _ _ hx
  have x3 : V.cell? ⟨W.heap.size, 3, none⟩ = some (.int .i64 0) := by rw [cell_of_row _ _ 3 _ _ _ hx]; rfl
  have y3 : V.frozen? ⟨W.heap.size, 3, none⟩ = false := frozen_of_row V _ 3 _ _ hx
  have x4 : V.cell? ⟨W.heap.size, 4, none⟩ = some (.int .i64 0) := by rw [cell_of_row _ _ 4 _ _ _ hx]; rfl
  have y4 : V.frozen? ⟨W.heap.size, 4, none⟩ = false := frozen_of_row V _ 4 _ _ hx
  have x5 : V.cell? ⟨W.heap.size, 5, none⟩ = some (.bool false) := by rw [cell_of_row _ _ 5 _ _ _ hx]; rfl
  have y5 : V.frozen? ⟨W.heap.size, 5, none⟩ = false := frozen_of_row V _ 5 _ _ hx
  clear c0 c1 z0 z1 hx
  go_region_with (go_at_call 55; refine (clone_calls A c l _ (by first | exact HR2.out | exact Kd.C_below HR2.out (below_drew (Below.refl _ _))) (by have := HL.out; omega)).mono ?_; rintro e w1 ⟨vi, rfl, hvi, hb1⟩; obtain ⟨A1, cc1, rfl⟩ := Kd.R_slice hvi; obtain ⟨hc1, hf1⟩ := bcell hb1; (try simp only [World.size_drew] at hc1 hf1); have HV := Aside0.mk (And.intro hvi hb1); clear hvi hb1)
  all_goals
    go_wp2_with (fail)
    have hr1 := (HV.out.2.block W.heap.size hs).trans HX.out
    have hB1 : Below W.heap.size W w1 := by
      refine Below.trans ?_ (HV.out.2.mono (Nat.le_of_lt hs))
      first
        | exact HB.out
        | exact below_drew HB.out
    have HE := obj_end W w1 (.int .i64 8) (.slice A1 l.length cc1) (.slice none 0 0) (.int .i64 fn) (.int .i64 0) (.bool false) _ A1 cc1 l HV.out.1 hs hB1
    exact bodyPost_ret (results_cell_row rfl _ _ W.heap.size 66 #[.int .i64 8, .slice A1 l.length cc1, .slice none 0 0, .int .i64 fn, .int .i64 0, .bool false] (0, 0) _ rfl (set6_row _ _ _ _ _ _ _ _ _ _ _ _ _ _ _ hr1) Tryz.underlying66 rfl (by kernel_rfl)) rfl ⟨A1, cc1, rfl, HE⟩
end Go.Proofs.YtkeneiahhmbojaaGreatDoor

namespace Go.Proofs.YtkeneiahhmbojaaGreatDoor
open Go.RowKit Go.MapKept
open Go.Proofs.YtkeneiahhmbojaaGreatDoorW.PrintWords Go.Proofs.YtkeneiahhmbojaaGreatDoorW.PrintMore
open POpsBinds

theorem m_object (a : Addr) (w : World) : (method 499 130 (.pointer (some a)) "portage/heap.object").run Tryz.prog w = .ok (327, .pointer (some a)) w := by kernel_rfl
set_option maxRecDepth 100000 in
set_option maxHeartbeats 2000000 in
theorem heapObject_calls (W : World) (n0 hp j t : Nat) (sp fn : Int) (v : Value) (bs : List Nat) (A : Option Addr) (c : Nat) (l : List S41) (hh : W.heap[hp]? = some (.cells #[.int .i64 1048576, .int .i64 sp, v] 94 (0, 0))) (hth : kTh.R 96 W n0 (fun _ => True) v bs) (hj : bs[j]? = some t) (hlen : bs.length ≤ 8) (ht : W.heap[t]? = some (.cells #[.int .i64 fn, .slice A l.length c] 132 (0, 0))) (hr : Kd.C k41 W A l.length l) (hl : l.length ≤ 64) :
    Calls Tryz.prog 22 #[.pointer (some ⟨hp, 0, none⟩), .int .i64 (j : Int)] W fun e w' => ∃ A' c', e = .returned (.tuple #[.agg #[.int .i64 8, .slice A' l.length c', .slice none 0 0, .int .i64 fn, .int .i64 0, .bool false], .bool true]) ∧ k41.R 41 w' W.heap.size (fun _ => True) (.slice A' l.length c') l ∧ Below W.heap.size W w' := by
  have hjl : j < bs.length := (List.getElem?_eq_some_iff.1 hj).1
  obtain ⟨g, cc0, rfl, _, hg1, _⟩ := Kd.R_form hth (by omega)
  obtain ⟨_, _, hC⟩ := Kd.R_reads' hth
  obtain ⟨ad, hA, hcell⟩ := hC.2.2 (by omega)
  cases hA
  obtain ⟨cs, hcs, hcK, hcc⟩ := hcell j t hj
  have e0 : W.cell? ⟨g, j, none⟩ = some (.iface 130 (.pointer (some ⟨t, 0, none⟩))) := by
    have h1 : cs = [ifB t] := hcK
    have h2 := hcc 0 (ifB t) (by rw [h1]; rfl)
    rw [show j * kTh.sz + 0 = j from Nat.mul_one j, add_plain] at h2
    exact h2
  have hg2 : g ≠ W.heap.size := by omega
  have HR := Aside0.mk hr
  have HL := Aside0.mk hl
  have HT := Aside0.mk ht
  have hlt := (Array.getElem?_eq_some_iff.1 hh).1
  have htl := (Array.getElem?_eq_some_iff.1 ht).1
  have c2 : W.cell? ⟨hp, 2, none⟩ = some (.slice (some ⟨g, 0, none⟩) bs.length cc0) := by rw [cell_of_row _ _ 2 _ _ _ hh]; rfl
  have f1 : decide ((j : Int) < 0) = false := by simp
  have f2 : decide ((j : Int) ≥ (bs.length : Int)) = false := by simp; omega
  have q := m_object ⟨t, 0, none⟩
  clear hr hl ht hh hth hC hcell hcs hcK hcc
  go_enter Tryz.func22, Tryz.ntmps22
  go_wp2_with fail
  have HBA := Aside0.mk (below_alloc (Below.refl W.heap.size W) (.cells #[.int .i64 0, .slice none 0 0, .slice none 0 0, .int .i64 0, .int .i64 0, .bool false] 66))
  refine (object_calls _ t fn A c l ((Below.heap_alloc _ _ _ htl).trans HT.out) (Kd.C_below HR.out (below_alloc (Below.refl _ W) _)) HL.out).mono ?_
  rintro e w1 ⟨A1, cc1, rfl, hv, hb⟩
  have hr1 := (hb.block W.heap.size (by simp)).trans (heap_alloc_last W (.cells #[.int .i64 0, .slice none 0 0, .slice none 0 0, .int .i64 0, .int .i64 0, .bool false] 66))
  have x0 : w1.cell? ⟨W.heap.size, 0, none⟩ = some (.int .i64 0) := by rw [cell_of_row _ _ 0 _ _ _ hr1]; rfl
  have y0 : w1.frozen? ⟨W.heap.size, 0, none⟩ = false := frozen_of_row w1 _ 0 _ _ hr1
  have x1 : w1.cell? ⟨W.heap.size, 1, none⟩ = some (.slice none 0 0) := by rw [cell_of_row _ _ 1 _ _ _ hr1]; rfl
  have y1 : w1.frozen? ⟨W.heap.size, 1, none⟩ = false := frozen_of_row w1 _ 1 _ _ hr1
  have x2 : w1.cell? ⟨W.heap.size, 2, none⟩ = some (.slice none 0 0) := by rw [cell_of_row _ _ 2 _ _ _ hr1]; rfl
  have y2 : w1.frozen? ⟨W.heap.size, 2, none⟩ = false := frozen_of_row w1 _ 2 _ _ hr1
  have x3 : w1.cell? ⟨W.heap.size, 3, none⟩ = some (.int .i64 0) := by rw [cell_of_row _ _ 3 _ _ _ hr1]; rfl
  have y3 : w1.frozen? ⟨W.heap.size, 3, none⟩ = false := frozen_of_row w1 _ 3 _ _ hr1
  have x4 : w1.cell? ⟨W.heap.size, 4, none⟩ = some (.int .i64 0) := by rw [cell_of_row _ _ 4 _ _ _ hr1]; rfl
  have y4 : w1.frozen? ⟨W.heap.size, 4, none⟩ = false := frozen_of_row w1 _ 4 _ _ hr1
  have x5 : w1.cell? ⟨W.heap.size, 5, none⟩ = some (.bool false) := by rw [cell_of_row _ _ 5 _ _ _ hr1]; rfl
  have y5 : w1.frozen? ⟨W.heap.size, 5, none⟩ = false := frozen_of_row w1 _ 5 _ _ hr1
  have HR1 := Aside0.mk hr1
  have HV := Aside0.mk (And.intro hv (HBA.out.trans (hb.mono (by simp))))
  clear hr1 hv hb
  go_wp2_with (fail)
  have HE := obj_end W w1 (.int .i64 8) (.slice A1 l.length cc1) (.slice none 0 0) (.int .i64 fn) (.int .i64 0) (.bool false) _ A1 cc1 l HV.out.1 (by simp) HV.out.2
  exact bodyPost_ret (results_ct rfl _ _ W.heap.size 66 #[.int .i64 8, .slice A1 l.length cc1, .slice none 0 0, .int .i64 fn, .int .i64 0, .bool false] (0, 0) _ rfl (set6_row _ _ _ _ _ _ _ _ _ _ _ _ _ _ _ HR1.out) Tryz.underlying66 rfl (by kernel_rfl)) rfl ⟨A1, cc1, rfl, HE⟩
end Go.Proofs.YtkeneiahhmbojaaGreatDoor

namespace Go.Proofs.YtkeneiahhmbojaaGreatDoor
open Go.RowKit Go.MapKept
open Go.Proofs.YtkeneiahhmbojaaGreatDoorW.PrintWords Go.Proofs.YtkeneiahhmbojaaGreatDoorW.PrintMore
open POpsBinds

set_option maxRecDepth 100000 in
theorem heapLen_calls (W : World) (n0 hp : Nat) (sp : Int) (v : Value) (bs : List Nat) (hh : W.heap[hp]? = some (.cells #[.int .i64 1048576, .int .i64 sp, v] 94 (0, 0))) (hth : kTh.R 96 W n0 (fun _ => True) v bs) :
    Calls Tryz.prog 21 #[.pointer (some ⟨hp, 0, none⟩)] W fun e w' => e = .returned (.int .i64 (bs.length : Int)) ∧ W = w' := by
  obtain ⟨A, c, rfl, _, _⟩ := Kd.R_reads hth
  have c2 : W.cell? ⟨hp, 2, none⟩ = some (.slice A bs.length c) := by rw [cell_of_row _ _ 2 _ _ _ hh]; rfl
  clear hh hth
  go_enter Tryz.func21, Tryz.ntmps21
  go_wp2_with fail
  go_ret
  exact ⟨rfl, rfl⟩
end Go.Proofs.YtkeneiahhmbojaaGreatDoor

namespace Go.Proofs.YtkeneiahhmbojaaGreatDoor
open Go.RowKit Go.MapKept
open Go.Proofs.YtkeneiahhmbojaaGreatDoorW.PrintWords Go.Proofs.YtkeneiahhmbojaaGreatDoorW.PrintMore
open POpsBinds

def fP (p : Int) : S61 := ⟨⟨#[102]⟩, p, p, [], []⟩
theorem copy_fP (p : Int) : portageref0_CopyProgram.f 20 [] [fP p] = some ([], [fP p]) := by kernel_rfl
theorem made_f (p : Int) (g : Nat) (W : World) (hg : W.heap[g]? = some (.cells #[.string ⟨#[102]⟩, .int .i64 p, .int .i64 p, .slice none 0 0, .slice none 0 0] 61 (0, 0))) :
    Calls Tryz.prog 16 #[.agg #[.slice none 0 0, .slice (some ⟨g, 0, none⟩) 1 1, .slice none 0 0, .slice none 0 0, .int .i64 1048576, .int .i64 0]] W (IsMadeP W 1048576 [] (fun _ q1 W2 W3 => Kd.S k61 61 W3 W2.heap.size (fun _ => True) q1 [fP p])) :=
  made_prog _ 1048576 _ _ none 0 [] W (Kd.C_nil _ _) List.nodup_nil (by simp) (by simp) load_big fun X hX => by
    have b2 := (hX.block _ (Array.getElem?_eq_some_iff.1 hg).1).trans hg
    have hf : k61.C X (some ⟨g, 0, none⟩) 1 [fP p] := C_row1 b2 rfl (k61_mk X (fP p) (Nat.le_refl _) (Kd.C_nil _ _) (Nat.le_refl _) (Kd.C_nil _ _))
    exact (portageref0_CopyProgram.calls 20 none 0 [] _ 1 [fP p] [] [fP p] X (Kd.C_nil _ _) (by decide) hf (Nat.le_refl 1) (copy_fP p)).mono fun e w' ⟨v0, v1, he, _, hs, hb⟩ => ⟨⟨_, _, he, hs⟩, hb⟩
end Go.Proofs.YtkeneiahhmbojaaGreatDoor
