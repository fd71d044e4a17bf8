/-
  step: find, at, len, held against the row.
-/
import Derived.Test.YtijmhegccakndaaSp
namespace Go.Proofs.Ytijmhegccakndaa
open Go.RowKit
open Go.Proofs.YtijmhegccakndaaW.PrintWords Go.Proofs.YtijmhegccakndaaW.PrintMore
set_option linter.unusedVariables false

theorem Sd.same {n0 : Nat} {W w' : World} {S : Nat → Prop} {b : Nat} {v : Value} {r : List ByteArray} (h : AtS W S b r) (hv : Kd.string.R 9 W n0 (fun k => v.ownBlock = some k) v r) (hd : ∀ k, v.ownBlock = some k → ¬ S k) (hb : Below W.heap.size W w') : Sd n0 W S b v r v r w' :=
  ⟨(h.kept fun k _ hlt => hb.block k hlt).mono fun k hk => ⟨.inl hk, fun hc => hd k hc hk⟩, Kd.R_below hv hb, fun k hk => .inl hk, ⟨hb.os, hb.tape, hb.output, hb.size, fun k hk _ => hb.block k hk⟩, by omega⟩
theorem at_f (r : List ByteArray) (n : Int) : PInternScript.portageref05_At.f r n = some (aT r n, aB r n) := by
  unfold PInternScript.portageref05_At.f aT aB
  by_cases h1 : n < 0
  · rw [if_pos h1, if_neg (by omega), decide_eq_false (by omega)]
  · rw [if_neg h1]
    by_cases h2 : n ≥ (r.length : Int)
    · rw [if_pos h2, if_neg (by omega), decide_eq_false (by omega)]
    · rw [if_neg h2, if_pos (by omega), if_pos (by omega), if_pos ⟨by omega, by omega⟩, decide_eq_true ⟨by omega, by omega⟩]
section
variable (w0 W : World) (S : Nat → Prop) (b : Nat) (r : List ByteArray) (v : Value) (x0 x1 x2 : Int) (t : ByteArray) (A4 : Option Addr) (n4 c4 : Nat)
set_option maxRecDepth 100000 in
set_option maxHeartbeats 4000000 in
theorem step_find (h : AtS W S b r) (hS : ∀ k, S k → w0.heap.size ≤ k) (hB : Below w0.heap.size w0 W) (hv : Kd.string.R 9 W w0.heap.size (fun k => v.ownBlock = some k) v r) (hd : ∀ k, v.ownBlock = some k → ¬ S k) (ht : t.size ≤ maxLen) :
    Calls Try.prog 49 #[.pointer (some ⟨b, 0, none⟩), v, .agg #[.int .i64 x0, .int .i64 x1, .int .i64 x2, .string t, .slice A4 n4 c4], .int .i64 1] W fun e w' => ∃ v' r', e = .returned (.tuple #[v', .bool true]) ∧ Sd w0.heap.size W S b v r v' r' w' := by
  obtain ⟨A, c, rfl⟩ := Kd.R_slice hv
  have HH := Aside0.mk (And.intro h (And.intro hS (And.intro hB (And.intro hv (And.intro hd ht)))))
  have hXB : Below W.heap.size W (W.alloc (.cells #[.int .i64 x0, .int .i64 x1, .int .i64 x2, .string t, .slice A4 n4 c4] 87)) := below_alloc (Below.refl _ _) _
  have HX := Aside0.mk hXB
  have hN : (fN r t == fN r t) = true := by simp
  have hM : (fB r t == fB r t) = true := by simp
  clear h hS hB hv hd ht hXB
  go_enter Try.func49, Try.ntmps49
  go_wp2_with fail
  refine (find_ref A c r t _ (Kd.C_below (Kd.R_reads' HH.out.2.2.2.1).2.2 HX.out)).mono ?_
  rintro e _ ⟨rfl, rfl⟩
  go_wp2_with fail
  refine (find_at _ w0.heap.size b r t (((HH.out.1.kept fun k _ hlt => HX.out.block k hlt).at HH.out.2.1)) HH.out.2.2.2.2.2).mono ?_
  rintro e _ ⟨rfl, rfl⟩
  go_wp2_with fail
  go_ret2
  exact ⟨_, r, rfl, Sd.same HH.out.1 HH.out.2.2.2.1 HH.out.2.2.2.2.1 HX.out⟩
set_option maxRecDepth 100000 in
set_option maxHeartbeats 4000000 in
theorem step_at (h : AtS W S b r) (hS : ∀ k, S k → w0.heap.size ≤ k) (hB : Below w0.heap.size w0 W) (hv : Kd.string.R 9 W w0.heap.size (fun k => v.ownBlock = some k) v r) (hd : ∀ k, v.ownBlock = some k → ¬ S k) :
    Calls Try.prog 49 #[.pointer (some ⟨b, 0, none⟩), v, .agg #[.int .i64 x0, .int .i64 x1, .int .i64 x2, .string t, .slice A4 n4 c4], .int .i64 2] W fun e w' => ∃ v' r', e = .returned (.tuple #[v', .bool true]) ∧ Sd w0.heap.size W S b v r v' r' w' := by
  obtain ⟨A, c, rfl⟩ := Kd.R_slice hv
  have HH := Aside0.mk (And.intro h (And.intro hS (And.intro hB (And.intro hv hd))))
  have hXB : Below W.heap.size W (W.alloc (.cells #[.int .i64 x0, .int .i64 x1, .int .i64 x2, .string t, .slice A4 n4 c4] 87)) := below_alloc (Below.refl _ _) _
  have HX := Aside0.mk hXB
  have hN : ((aT r x2).toList == (aT r x2).toList) = true := by simp
  have hM : (aB r x2 == aB r x2) = true := by simp
  clear h hS hB hv hd hXB
  go_enter Try.func49, Try.ntmps49
  go_wp2_with fail
  refine (PInternScript.portageref05_At.calls A c r x2 (aT r x2) (aB r x2) _ (Kd.C_below (Kd.R_reads' HH.out.2.2.2.1).2.2 HX.out) (Kd.R_reads' HH.out.2.2.2.1).2.1 (at_f r x2)).mono ?_
  rintro e w1 ⟨rfl, hd1⟩
  have hb1 := hd1.below
  have k2 : w1.cell? ⟨W.heap.size, 2, none⟩ = some (.int .i64 x2) := by
    rw [cell_of_row _ _ 2 _ _ _ ((hb1.block W.heap.size (by simp)).trans (heap_alloc_new W (.cells #[.int .i64 x0, .int .i64 x1, .int .i64 x2, .string t, .slice A4 n4 c4] 87)))]
    rfl
  have HB1 := Aside0.mk (HX.out.trans (hb1.mono (by simp)))
  clear hd1 hb1
  go_wp2_with fail
  refine (at_at _ w0.heap.size b r x2 (((HH.out.1.kept fun k _ hlt => HB1.out.block k hlt).at HH.out.2.1))).mono ?_
  rintro e _ ⟨rfl, rfl⟩
  go_wp2_with fail
  go_ret2
  exact ⟨_, r, rfl, Sd.same HH.out.1 HH.out.2.2.2.1 HH.out.2.2.2.2 HB1.out⟩
set_option maxRecDepth 100000 in
set_option maxHeartbeats 4000000 in
theorem step_len (h : AtS W S b r) (hS : ∀ k, S k → w0.heap.size ≤ k) (hB : Below w0.heap.size w0 W) (hv : Kd.string.R 9 W w0.heap.size (fun k => v.ownBlock = some k) v r) (hd : ∀ k, v.ownBlock = some k → ¬ S k) :
    Calls Try.prog 49 #[.pointer (some ⟨b, 0, none⟩), v, .agg #[.int .i64 x0, .int .i64 x1, .int .i64 x2, .string t, .slice A4 n4 c4], .int .i64 3] W fun e w' => ∃ v' r', e = .returned (.tuple #[v', .bool true]) ∧ Sd w0.heap.size W S b v r v' r' w' := by
  obtain ⟨A, c, rfl⟩ := Kd.R_slice hv
  have HH := Aside0.mk (And.intro h (And.intro hS (And.intro hB (And.intro hv hd))))
  have hXB : Below W.heap.size W (W.alloc (.cells #[.int .i64 x0, .int .i64 x1, .int .i64 x2, .string t, .slice A4 n4 c4] 87)) := below_alloc (Below.refl _ _) _
  have HX := Aside0.mk hXB
  clear h hS hB hv hd hXB
  have HL := Aside0.mk (fun X (hX : Below W.heap.size W X) => len_at X w0.heap.size b r ((HH.out.1.kept fun k _ hlt => hX.block k hlt).at HH.out.2.1))
  go_enter Try.func49, Try.ntmps49
  go_wp2_with fail
  refine (HL.out _ HX.out).mono ?_
  rintro e _ ⟨rfl, rfl⟩
  go_wp2_with fail
  go_ret2
  exact ⟨_, r, rfl, Sd.same HH.out.1 HH.out.2.2.2.1 HH.out.2.2.2.2 HX.out⟩
end
end Go.Proofs.Ytijmhegccakndaa
