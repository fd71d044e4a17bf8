/-
  step: one call of an index, held against the row.
-/
import Derived.Test.YtijmhegccakndaaLo
import Derived.Test.YtijmhegccakndaaTwo
import Derived.Test.YtijmhegccakndaaCut
namespace Go.Proofs.Ytijmhegccakndaa
open Go.RowKit
open Go.Proofs.YtijmhegccakndaaW.PrintWords Go.Proofs.YtijmhegccakndaaW.PrintMore
set_option linter.unusedVariables false

/-- an index and the row that it is held against, behind a step -/
structure Sd (n0 : Nat) (W : World) (S : Nat → Prop) (b : Nat) (v : Value) (r : List ByteArray) (v' : Value) (r' : List ByteArray) (w' : World) : Prop where
  ix : AtS w' (fun k => (S k ∨ W.heap.size ≤ k) ∧ v'.ownBlock ≠ some k) b r'
  rr : Kd.string.R 9 w' n0 (fun k => v'.ownBlock = some k) v' r'
  up : ∀ k, v'.ownBlock = some k → v.ownBlock = some k ∨ W.heap.size ≤ k
  kp : Kp W w' (fun k => S k ∨ v.ownBlock = some k)
  le : r'.length ≤ r.length + 1
set_option maxRecDepth 100000 in
set_option maxHeartbeats 4000000 in
theorem step_add (w0 W : World) (S : Nat → Prop) (b : Nat) (r : List ByteArray) (v : Value) (x0 x1 x2 : Int) (t : ByteArray) (A4 : Option Addr) (n4 c4 : Nat) (h : AtS W S b r) (hS : ∀ k, S k → w0.heap.size ≤ k) (hB : Below w0.heap.size w0 W) (hv : Kd.string.R 9 W w0.heap.size (fun k => v.ownBlock = some k) v r) (hd : ∀ k, v.ownBlock = some k → ¬ S k) (ht : t.size ≤ maxLen) (hn : (r.length + 1) * 16 ≤ 140737488355328) :
    Calls Try.prog 49 #[.pointer (some ⟨b, 0, none⟩), v, .agg #[.int .i64 x0, .int .i64 x1, .int .i64 x2, .string t, .slice A4 n4 c4], .int .i64 0] W fun e w' => ∃ v' r', e = .returned (.tuple #[v', .bool true]) ∧ Sd w0.heap.size W S b v r v' r' w' := by
  obtain ⟨A, c, rfl⟩ := Kd.R_slice hv
  have HH := Aside0.mk (And.intro h (And.intro hS (And.intro hB (And.intro hv (And.intro hd (And.intro ht hn))))))
  clear h hS hB hv hd ht hn
  go_enter Try.func49, Try.ntmps49
  have hXB : Below W.heap.size W (W.alloc (.cells #[.int .i64 x0, .int .i64 x1, .int .i64 x2, .string t, .slice A4 n4 c4] 87)) := below_alloc (Below.refl _ _) _
  have HX := Aside0.mk hXB
  have HO := Aside0.mk (heap_alloc_new W (.cells #[.int .i64 x0, .int .i64 x1, .int .i64 x2, .string t, .slice A4 n4 c4] 87))
  have hrl : r.length < 8796093022208 := by have := HH.out.2.2.2.2.2.2; omega
  go_wp2_with fail
  refine (PInternWalk.portageref05_Add.calls (r.length + 1) (fun k => (Value.slice A r.length c).ownBlock = some k) (.slice A r.length c) r t (rowAdd r t) (posOf r t : Int) w0 _ (HH.out.2.2.1.trans (hXB.mono HH.out.2.2.1.size)) (Kd.R_below HH.out.2.2.2.1 hXB) (add_f r t _ hrl (by omega))).mono ?_
  rintro e w1 ⟨v1, rfl, hR, hB1, hK1⟩
  have hown : ∀ k, (Value.slice A r.length c).ownBlock = some k → k < W.heap.size := Kd.R_lt HH.out.2.2.2.1
  have hrow := (hK1.2 W.heap.size (by simp) (fun hc => by have := hown _ hc; omega)).trans HO.out
  have k3 : w1.cell? ⟨W.heap.size, 3, none⟩ = some (.string t) := by rw [cell_of_row _ _ 3 _ _ _ hrow]; rfl
  have hA1 : AtS w1 (fun k => S k ∧ k < W.heap.size) b r := (HH.out.1.lt.kept (w' := _) fun k hk hlt => hXB.block k hlt).kept fun k hk hlt => hK1.2 k hlt (fun hc => HH.out.2.2.2.2.1 k hc hk.1)
  have HR1 := Aside0.mk (And.intro hR (And.intro hB1 (And.intro hK1 hA1)))
  clear hXB hR hB1 hK1 hown hrow hA1
  go_wp2_with fail
  refine (add_S w1 _ b r t HR1.out.2.2.2 HH.out.2.2.2.2.2.1 HH.out.2.2.2.2.2.2).mono ?_
  rintro e w2 ⟨rfl, hA2, hK2⟩
  have HA2 := Aside0.mk (And.intro hA2 hK2)
  clear hA2 hK2
  go_wp2_with fail
  go_ret2
  obtain ⟨hR, hB1, hK1, hA1⟩ := HR1.out
  have hs1 : W.heap.size + 1 ≤ w1.heap.size := by have := hK1.1; simpa using this
  have hown : ∀ k, (Value.slice A r.length c).ownBlock = some k → k < W.heap.size := Kd.R_lt HH.out.2.2.2.1
  have hup : ∀ k, v1.ownBlock = some k → (Value.slice A r.length c).ownBlock = some k ∨ W.heap.size + 1 ≤ k := fun k hk => by
    have := hR.1 k hk
    simpa using this
  have hlt : ∀ k, v1.ownBlock = some k → k < w1.heap.size := Kd.R_lt hR
  refine ⟨v1, rowAdd r t, rfl, ⟨HA2.out.1.mono fun k hk => ⟨hk.imp (fun h => h.1) (fun h => by omega), fun hc => ?_⟩, ?_, fun k hk => (hup k hk).imp id (fun h => by omega), ?_, by have := (length_rowAdd r t).2; omega⟩⟩
  · rcases hk with hk | hk
    · rcases hup k hc with h | h
      · exact HH.out.2.2.2.2.1 k h hk.1
      · omega
    · have := hlt k hc
      omega
  · refine Kd.R_step (Kd.R_reok rfl hR (fun k hk => hk)) (fun k hk hlt => HA2.out.2.block k hlt (fun hc => ?_))
    rcases hup k hk with h | h
    · exact HH.out.2.2.2.2.1 k h hc.1
    · omega
  · have k1 : Kp (W.alloc (.cells #[.int .i64 x0, .int .i64 x1, .int .i64 x2, .string t, .slice A4 n4 c4] 87)) w1 (fun k => S k ∨ (Value.slice A r.length c).ownBlock = some k) := ⟨hB1.os.trans (by have := HH.out.2.2.1.os; exact this.symm), hB1.tape.trans (by have := HH.out.2.2.1.tape; exact this.symm), hB1.output.trans (by have := HH.out.2.2.1.output; exact this.symm), hK1.1, fun k hk hn => hK1.2 k hk (fun hc => hn (.inr hc))⟩
    exact (((Kp.refl W _).alloc _).trans k1 (fun j hj => .inl hj)).trans HA2.out.2 (fun j hj => .inl (.inl hj.1))
end Go.Proofs.Ytijmhegccakndaa
