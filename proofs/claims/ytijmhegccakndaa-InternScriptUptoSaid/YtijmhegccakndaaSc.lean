/-
  step: cut, held against the row.
-/
import Derived.Test.YtijmhegccakndaaSq
namespace Go.Proofs.Ytijmhegccakndaa
open Go.RowKit
open Go.Proofs.YtijmhegccakndaaW.PrintWords Go.Proofs.YtijmhegccakndaaW.PrintMore
set_option linter.unusedVariables false

theorem cutRow_le (r : List ByteArray) (n : Int) : (cutRow r n).length ≤ r.length := by unfold cutRow; rw [List.length_take]; omega
section
variable (w0 W : World) (S : Nat → Prop) (b : Nat) (r : List ByteArray) (v : Value) (x0 x1 x2 : Int) (t : ByteArray) (A4 : Option Addr) (n4 c4 : Nat)
set_option maxRecDepth 100000 in
set_option maxHeartbeats 4000000 in
theorem step_cut (h : AtS W S b r) (hS : ∀ k, S k → w0.heap.size ≤ k) (hB : Below w0.heap.size w0 W) (hv : Kd.string.R 9 W w0.heap.size (fun k => v.ownBlock = some k) v r) (hd : ∀ k, v.ownBlock = some k → ¬ S k) (hn : (r.length + 1) * 16 ≤ 140737488355328) :
    Calls Try.prog 49 #[.pointer (some ⟨b, 0, none⟩), v, .agg #[.int .i64 x0, .int .i64 x1, .int .i64 x2, .string t, .slice A4 n4 c4], .int .i64 5] W fun e w' => ∃ v' r', e = .returned (.tuple #[v', .bool true]) ∧ Sd w0.heap.size W S b v r v' r' w' := by
  obtain ⟨A, c, rfl⟩ := Kd.R_slice hv
  have HH := Aside0.mk (And.intro h (And.intro hS (And.intro hB (And.intro hv (And.intro hd hn)))))
  have hXB : Below W.heap.size W (W.alloc (.cells #[.int .i64 x0, .int .i64 x1, .int .i64 x2, .string t, .slice A4 n4 c4] 87)) := below_alloc (Below.refl _ _) _
  have HX := Aside0.mk hXB
  have HO := Aside0.mk (heap_alloc_new W (.cells #[.int .i64 x0, .int .i64 x1, .int .i64 x2, .string t, .slice A4 n4 c4] 87))
  have HC := Aside0.mk (cut_S (W.alloc (.cells #[.int .i64 x0, .int .i64 x1, .int .i64 x2, .string t, .slice A4 n4 c4] 87)) (fun k => S k ∧ k < W.heap.size) b r x2 (h.lt.kept fun k hk hlt => hXB.block k hlt))
  clear h hS hB hv hd hn hXB
  go_enter Try.func49, Try.ntmps49
  go_wp2_with fail
  refine HC.out.mono ?_
  rintro e w1 ⟨rfl, hA1, hK1⟩
  have hown : ∀ k, (Value.slice A r.length c).ownBlock = some k → k < W.heap.size := Kd.R_lt HH.out.2.2.2.1
  have hrow := (hK1.block W.heap.size (by simp) (fun hc => by have := hc.2; omega)).trans HO.out
  have k2 : w1.cell? ⟨W.heap.size, 2, none⟩ = some (.int .i64 x2) := by rw [cell_of_row _ _ 2 _ _ _ hrow]; rfl
  have hR1 : Kd.string.R 9 w1 w0.heap.size (fun k => (Value.slice A r.length c).ownBlock = some k) (.slice A r.length c) r := Kd.R_step (Kd.R_below HH.out.2.2.2.1 HX.out) (fun k hk hlt => hK1.block k hlt (fun hc => HH.out.2.2.2.2.1 k hk hc.1))
  have HR1 := Aside0.mk (And.intro hA1 (And.intro hK1 hR1))
  clear hA1 hK1 hown hrow hR1
  have hrl : r.length < 8796093022208 := by have := HH.out.2.2.2.2.2; omega
  go_wp2_with fail
  refine (PInternWalk.portageref05_Cut.calls (r.length + 1) A c r x2 (cutRow r x2) w1 (Kd.R_reads' HR1.out.2.2).2.2 (Kd.R_reads' HR1.out.2.2).2.1 (cut_f r x2 (r.length + 1) hrl (by omega))).mono ?_
  rintro e w2 ⟨v1, rfl, hR2, hb2⟩
  have HR2 := Aside0.mk (And.intro hR2 hb2)
  clear hR2 hb2
  go_wp2_with fail
  go_ret2
  obtain ⟨hA1, hK1, _⟩ := HR1.out
  obtain ⟨hR2, hb2⟩ := HR2.out
  have hs1 : W.heap.size + 1 ≤ w1.heap.size := by have := hK1.size; simpa using this
  have hbase : ∀ k, v1.ownBlock = some k → w1.heap.size ≤ k := Kd.R_base hR2
  have hw0 := HH.out.2.2.1.size
  refine ⟨v1, cutRow r x2, rfl, ⟨(hA1.kept fun k hk hlt => hb2.block k hlt).mono fun k hk => ⟨.inl hk.1, fun hc => by have := hbase k hc; have := hk.2; omega⟩, Kd.R_lower (Kd.R_reok rfl hR2 (fun k hk => hk)) (by omega), fun k hk => .inr (by have := hbase k hk; omega), ?_, by have := cutRow_le r x2; omega⟩⟩
  exact ((((Kp.refl W (fun k => S k ∨ (Value.slice A r.length c).ownBlock = some k)).alloc _).trans hK1 (fun j hj => .inl (.inl hj.1)))).trans (S' := fun _ => False) ⟨hb2.os, hb2.tape, hb2.output, hb2.size, fun k hk _ => hb2.block k hk⟩ (fun j hj => hj.elim)
end
end Go.Proofs.Ytijmhegccakndaa
