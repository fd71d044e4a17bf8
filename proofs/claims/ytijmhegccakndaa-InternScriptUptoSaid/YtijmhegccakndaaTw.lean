/-
  InternScript: two indexes, the rows that they are held against, the lists handed out and wanted.
-/
import Derived.Test.YtijmhegccakndaaSc
import Derived.Test.YtijmhegccakndaaIt
namespace Go.Proofs.Ytijmhegccakndaa
open Go.RowKit
open Go.Proofs.YtijmhegccakndaaW.PrintWords Go.Proofs.YtijmhegccakndaaW.PrintMore
set_option linter.unusedVariables false

/-- f tells whose a block is: 0, 1 the indexes', 2, 3 the rows', 4 a list's that was handed out, 5 a list's that is wanted, 6, 7 the lists' of such lists, 8 the two arrays' -/
structure Tw (w0 : World) (xb rb : Nat) (f : Nat → Nat) (b0 b1 : Nat) (p0 p1 u0 u1 v0 v1 : Value) (r0 r1 : List ByteArray) (vo vw : Value) (hs : List (Nat × Nat)) (ws : List (Option Nat × Nat × Nat)) (ls lw : List (List ByteArray)) (W : World) : Prop where
  lo : Below w0.heap.size w0 W
  xr : W.heap[xb]? = some (.cells #[p0, p1] 83 (0, 0))
  rr : W.heap[rb]? = some (.cells #[u0, u1] 84 (0, 0))
  fx : f xb = 8
  fr : f rb = 8
  i0 : AtS W (fun k => f k = 0 ∧ w0.heap.size ≤ k) b0 r0
  i1 : AtS W (fun k => f k = 1 ∧ w0.heap.size ≤ k) b1 r1
  s0 : Kd.string.R 9 W w0.heap.size (fun k => v0.ownBlock = some k) v0 r0
  s1 : Kd.string.R 9 W w0.heap.size (fun k => v1.ownBlock = some k) v1 r1
  t0 : ∀ k, v0.ownBlock = some k → f k = 2
  t1 : ∀ k, v1.ownBlock = some k → f k = 3
  oo : kH.R 22 W w0.heap.size (fun k => f k = 6) vo hs
  gg : Gs W w0.heap.size hs ls
  tg : ∀ (k g n : Nat), hs[k]? = some (g, n) → f g = 4
  ww : kW.R 22 W w0.heap.size (fun k => f k = 7) vw ws
  wn : Wn W w0.heap.size ws lw
  tw : ∀ (k : Nat) (x : Option Nat × Nat × Nat), ws[k]? = some x → ∀ b, (hVal x).ownBlock = some b → f b = 5

variable {w0 W w' : World} {xb rb : Nat} {f f' : Nat → Nat} {b0 b1 : Nat} {p0 p1 u0 u1 v0 v1 : Value} {r0 r1 : List ByteArray} {vo vw : Value} {hs : List (Nat × Nat)} {ws : List (Option Nat × Nat × Nat)} {ls lw : List (List ByteArray)}

theorem Wn.at (h : Wn W w0.heap.size ws ls) {k : Nat} {x : Option Nat × Nat × Nat} (hx : ws[k]? = some x) : ∃ l, ls[k]? = some l ∧ Kd.string.R 9 W w0.heap.size (fun b => some b = (hVal x).ownBlock) (hVal x) l := by
  obtain ⟨l, hl⟩ : ∃ l, ls[k]? = some l := ⟨_, List.getElem?_eq_getElem (by have := (List.getElem?_eq_some_iff.1 hx).1; have := h.1; omega)⟩
  exact ⟨l, hl, (h.2 k x l hx hl).2⟩
/-- blocks laid, draws -/
theorem Tw.below (h : Tw w0 xb rb f b0 b1 p0 p1 u0 u1 v0 v1 r0 r1 vo vw hs ws ls lw W) (hb : Below W.heap.size W w') : Tw w0 xb rb f b0 b1 p0 p1 u0 u1 v0 v1 r0 r1 vo vw hs ws ls lw w' :=
  ⟨h.lo.trans (hb.mono h.lo.size), (hb.block _ (Array.getElem?_eq_some_iff.1 h.xr).1).trans h.xr, (hb.block _ (Array.getElem?_eq_some_iff.1 h.rr).1).trans h.rr, h.fx, h.fr, h.i0.kept fun k _ hlt => hb.block k hlt, h.i1.kept fun k _ hlt => hb.block k hlt, Kd.R_below h.s0 hb, Kd.R_below h.s1 hb, h.t0, h.t1, Kd.R_below h.oo hb, h.gg.below hb, h.tg, Kd.R_below h.ww hb, h.wn.below hb, h.tw⟩
/-- a step of the first index -/
theorem Tw.step0 (h : Tw w0 xb rb f b0 b1 p0 p1 u0 u1 v0 v1 r0 r1 vo vw hs ws ls lw W) {v' : Value} {r' : List ByteArray} (hS : Sd w0.heap.size W (fun k => (f k = 0 ∧ w0.heap.size ≤ k) ∧ k < W.heap.size) b0 v0 r0 v' r' w') : ∃ f', Tw w0 xb rb f' b0 b1 p0 p1 u0 u1 v' v1 r' r1 vo vw hs ws ls lw w' := by
  have keep : ∀ k, k < W.heap.size → f k ≠ 0 → f k ≠ 2 → w'.heap[k]? = W.heap[k]? := fun k hk n0 n2 => hS.kp.block k hk (fun hc => hc.elim (fun h => n0 h.1.1) (fun h2 => n2 (h.t0 k h2)))
  have hlo : Below w0.heap.size W w' := hS.kp.below (fun j hj => hj.elim (fun h => h.1.2) (fun h2 => Kd.R_base h.s0 j h2)) h.lo.size
  have fo : ∀ k, k < W.heap.size → (fun k => if k < W.heap.size then f k else if v'.ownBlock = some k then 2 else 0) k = f k := fun k hk => if_pos hk
  have hlx := (Array.getElem?_eq_some_iff.1 h.xr).1
  have hlr := (Array.getElem?_eq_some_iff.1 h.rr).1
  refine ⟨fun k => if k < W.heap.size then f k else if v'.ownBlock = some k then 2 else 0, ⟨h.lo.trans hlo, (keep xb hlx (by rw [h.fx]; decide) (by rw [h.fx]; decide)).trans h.xr, (keep rb hlr (by rw [h.fr]; decide) (by rw [h.fr]; decide)).trans h.rr, (fo xb hlx).trans h.fx, (fo rb hlr).trans h.fr, hS.ix.mono fun k hk => ?_, ?_, hS.rr, ?_, fun k hk => ?_, fun k hk => (fo k (Kd.R_lt h.s1 k hk)).trans (h.t1 k hk), ?_, ?_, fun k g n hg => (fo g (h.gg.lt hg).2).trans (h.tg k g n hg), ?_, ?_, fun k x hx b hb => ?_⟩⟩
  · have hw := h.lo.size
    rcases hk with ⟨hk | hk, hne⟩
    · exact ⟨(fo k hk.2).trans hk.1.1, hk.1.2⟩
    · exact ⟨(if_neg (by omega)).trans (if_neg hne), by omega⟩
  · exact (h.i1.lt.kept fun k hk hlt => keep k hlt (by rw [hk.1.1]; decide) (by rw [hk.1.1]; decide)).mono fun k hk => ⟨(fo k hk.2).trans hk.1.1, hk.1.2⟩
  · exact Kd.R_step h.s1 fun k hk hlt => keep k hlt (by rw [h.t1 k hk]; decide) (by rw [h.t1 k hk]; decide)
  · rcases hS.up k hk with h2 | h2
    · exact (fo k (Kd.R_lt h.s0 k h2)).trans (h.t0 k h2)
    · exact (if_neg (by omega)).trans (if_pos hk)
  · exact Kd.R_mono (Kd.R_step (Kd.R_bound h.oo) fun k hk hlt => keep k hlt (by rw [hk.1]; decide) (by rw [hk.1]; decide)) fun k hk => (fo k hk.2.2.1).trans hk.1
  · exact h.gg.kept fun k g n hg hlt => keep g hlt (by rw [h.tg k g n hg]; decide) (by rw [h.tg k g n hg]; decide)
  · exact Kd.R_mono (Kd.R_step (Kd.R_bound h.ww) fun k hk hlt => keep k hlt (by rw [hk.1]; decide) (by rw [hk.1]; decide)) fun k hk => (fo k hk.2.2.1).trans hk.1
  · exact ⟨h.wn.1, fun k x l hx hl => ⟨(h.wn.2 k x l hx hl).1, Kd.R_step (h.wn.2 k x l hx hl).2 fun b hb hlt => keep b hlt (by rw [h.tw k x hx b hb.symm]; decide) (by rw [h.tw k x hx b hb.symm]; decide)⟩⟩
  · obtain ⟨l, _, hr⟩ := h.wn.at hx
    exact (fo b (Kd.R_lt hr b hb)).trans (h.tw k x hx b hb)
/-- a step of the second index -/
theorem Tw.step1 (h : Tw w0 xb rb f b0 b1 p0 p1 u0 u1 v0 v1 r0 r1 vo vw hs ws ls lw W) {v' : Value} {r' : List ByteArray} (hS : Sd w0.heap.size W (fun k => (f k = 1 ∧ w0.heap.size ≤ k) ∧ k < W.heap.size) b1 v1 r1 v' r' w') : ∃ f', Tw w0 xb rb f' b0 b1 p0 p1 u0 u1 v0 v' r0 r' vo vw hs ws ls lw w' := by
  have keep : ∀ k, k < W.heap.size → f k ≠ 1 → f k ≠ 3 → w'.heap[k]? = W.heap[k]? := fun k hk n0 n2 => hS.kp.block k hk (fun hc => hc.elim (fun h => n0 h.1.1) (fun h2 => n2 (h.t1 k h2)))
  have hlo : Below w0.heap.size W w' := hS.kp.below (fun j hj => hj.elim (fun h => h.1.2) (fun h2 => Kd.R_base h.s1 j h2)) h.lo.size
  have fo : ∀ k, k < W.heap.size → (fun k => if k < W.heap.size then f k else if v'.ownBlock = some k then 3 else 1) k = f k := fun k hk => if_pos hk
  have hlx := (Array.getElem?_eq_some_iff.1 h.xr).1
  have hlr := (Array.getElem?_eq_some_iff.1 h.rr).1
  refine ⟨fun k => if k < W.heap.size then f k else if v'.ownBlock = some k then 3 else 1, ⟨h.lo.trans hlo, (keep xb hlx (by rw [h.fx]; decide) (by rw [h.fx]; decide)).trans h.xr, (keep rb hlr (by rw [h.fr]; decide) (by rw [h.fr]; decide)).trans h.rr, (fo xb hlx).trans h.fx, (fo rb hlr).trans h.fr, ?_, hS.ix.mono fun k hk => ?_, ?_, hS.rr, fun k hk => (fo k (Kd.R_lt h.s0 k hk)).trans (h.t0 k hk), fun k hk => ?_, ?_, ?_, fun k g n hg => (fo g (h.gg.lt hg).2).trans (h.tg k g n hg), ?_, ?_, fun k x hx b hb => ?_⟩⟩
  · exact (h.i0.lt.kept fun k hk hlt => keep k hlt (by rw [hk.1.1]; decide) (by rw [hk.1.1]; decide)).mono fun k hk => ⟨(fo k hk.2).trans hk.1.1, hk.1.2⟩
  · have hw := h.lo.size
    rcases hk with ⟨hk | hk, hne⟩
    · exact ⟨(fo k hk.2).trans hk.1.1, hk.1.2⟩
    · exact ⟨(if_neg (by omega)).trans (if_neg hne), by omega⟩
  · exact Kd.R_step h.s0 fun k hk hlt => keep k hlt (by rw [h.t0 k hk]; decide) (by rw [h.t0 k hk]; decide)
  · rcases hS.up k hk with h2 | h2
    · exact (fo k (Kd.R_lt h.s1 k h2)).trans (h.t1 k h2)
    · exact (if_neg (by omega)).trans (if_pos hk)
  · exact Kd.R_mono (Kd.R_step (Kd.R_bound h.oo) fun k hk hlt => keep k hlt (by rw [hk.1]; decide) (by rw [hk.1]; decide)) fun k hk => (fo k hk.2.2.1).trans hk.1
  · exact h.gg.kept fun k g n hg hlt => keep g hlt (by rw [h.tg k g n hg]; decide) (by rw [h.tg k g n hg]; decide)
  · exact Kd.R_mono (Kd.R_step (Kd.R_bound h.ww) fun k hk hlt => keep k hlt (by rw [hk.1]; decide) (by rw [hk.1]; decide)) fun k hk => (fo k hk.2.2.1).trans hk.1
  · exact ⟨h.wn.1, fun k x l hx hl => ⟨(h.wn.2 k x l hx hl).1, Kd.R_step (h.wn.2 k x l hx hl).2 fun b hb hlt => keep b hlt (by rw [h.tw k x hx b hb.symm]; decide) (by rw [h.tw k x hx b hb.symm]; decide)⟩⟩
  · obtain ⟨l, _, hr⟩ := h.wn.at hx
    exact (fo b (Kd.R_lt hr b hb)).trans (h.tw k x hx b hb)
/-- what holds of all blocks but one of the two arrays' -/
theorem Tw.but (h : Tw w0 xb rb f b0 b1 p0 p1 u0 u1 v0 v1 r0 r1 vo vw hs ws ls lw W) {g o : Nat} (hg : f g = 8) (hgw : w0.heap.size ≤ g) (x : Value) {q0 q1 y0 y1 : Value} (hx : (W.setCell ⟨g, o, none⟩ x).heap[xb]? = some (.cells #[q0, q1] 83 (0, 0))) (hr : (W.setCell ⟨g, o, none⟩ x).heap[rb]? = some (.cells #[y0, y1] 84 (0, 0))) : Tw w0 xb rb f b0 b1 q0 q1 y0 y1 v0 v1 r0 r1 vo vw hs ws ls lw (W.setCell ⟨g, o, none⟩ x) := by
  have keep : ∀ k, f k ≠ 8 → (W.setCell ⟨g, o, none⟩ x).heap[k]? = W.heap[k]? := fun k hk => Below.heap_setCell _ _ _ _ (fun e => hk (by subst e; exact hg))
  refine ⟨h.lo.setCell (p := ⟨g, o, none⟩) hgw x, hx, hr, h.fx, h.fr, h.i0.kept fun k hk _ => keep k (by rw [hk.1]; decide), h.i1.kept fun k hk _ => keep k (by rw [hk.1]; decide), Kd.R_step h.s0 fun k hk _ => keep k (by rw [h.t0 k hk]; decide), Kd.R_step h.s1 fun k hk _ => keep k (by rw [h.t1 k hk]; decide), h.t0, h.t1, Kd.R_step h.oo fun k hk _ => keep k (by rw [hk]; decide), h.gg.kept fun k g n hg _ => keep g (by rw [h.tg k g n hg]; decide), h.tg, Kd.R_step h.ww fun k hk _ => keep k (by rw [hk]; decide), ⟨h.wn.1, fun k x l hx hl => ⟨(h.wn.2 k x l hx hl).1, Kd.R_step (h.wn.2 k x l hx hl).2 fun b hb _ => keep b (by rw [h.tw k x hx b hb.symm]; decide)⟩⟩, h.tw⟩
theorem set2 (w : World) (g : Nat) (a b x : Value) (t : TypeId) (h : w.heap[g]? = some (.cells #[a, b] t (0, 0))) : (w.setCell ⟨g, 0, none⟩ x).heap[g]? = some (.cells #[x, b] t (0, 0)) ∧ (w.setCell ⟨g, 1, none⟩ x).heap[g]? = some (.cells #[a, x] t (0, 0)) := by
  have hlt := (Array.getElem?_eq_some_iff.1 h).1
  have h2 := (Array.getElem?_eq_some_iff.1 h).2
  constructor <;> simp [World.setCell, hlt, Array.getElem_modify, h2]
theorem Tw.setR0 (h : Tw w0 xb rb f b0 b1 p0 p1 u0 u1 v0 v1 r0 r1 vo vw hs ws ls lw W) (hgw : w0.heap.size ≤ rb) (hne : xb ≠ rb) (x : Value) : Tw w0 xb rb f b0 b1 p0 p1 x u1 v0 v1 r0 r1 vo vw hs ws ls lw (W.setCell ⟨rb, 0, none⟩ x) :=
  h.but h.fr hgw x ((Below.heap_setCell _ _ _ _ hne).trans h.xr) (set2 W rb u0 u1 x 84 h.rr).1
theorem Tw.setR1 (h : Tw w0 xb rb f b0 b1 p0 p1 u0 u1 v0 v1 r0 r1 vo vw hs ws ls lw W) (hgw : w0.heap.size ≤ rb) (hne : xb ≠ rb) (x : Value) : Tw w0 xb rb f b0 b1 p0 p1 u0 x v0 v1 r0 r1 vo vw hs ws ls lw (W.setCell ⟨rb, 1, none⟩ x) :=
  h.but h.fr hgw x ((Below.heap_setCell _ _ _ _ hne).trans h.xr) (set2 W rb u0 u1 x 84 h.rr).2
theorem Tw.setX0 (h : Tw w0 xb rb f b0 b1 p0 p1 u0 u1 v0 v1 r0 r1 vo vw hs ws ls lw W) (hgw : w0.heap.size ≤ xb) (hne : rb ≠ xb) (x : Value) : Tw w0 xb rb f b0 b1 x p1 u0 u1 v0 v1 r0 r1 vo vw hs ws ls lw (W.setCell ⟨xb, 0, none⟩ x) :=
  h.but h.fx hgw x (set2 W xb p0 p1 x 83 h.xr).1 ((Below.heap_setCell _ _ _ _ hne).trans h.rr)
theorem Tw.setX1 (h : Tw w0 xb rb f b0 b1 p0 p1 u0 u1 v0 v1 r0 r1 vo vw hs ws ls lw W) (hgw : w0.heap.size ≤ xb) (hne : rb ≠ xb) (x : Value) : Tw w0 xb rb f b0 b1 p0 x u0 u1 v0 v1 r0 r1 vo vw hs ws ls lw (W.setCell ⟨xb, 1, none⟩ x) :=
  h.but h.fx hgw x (set2 W xb p0 p1 x 83 h.xr).2 ((Below.heap_setCell _ _ _ _ hne).trans h.rr)
end Go.Proofs.Ytijmhegccakndaa
