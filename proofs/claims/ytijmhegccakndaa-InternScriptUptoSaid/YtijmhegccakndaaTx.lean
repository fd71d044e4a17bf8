/-
  InternScript: a new index; a list more that was handed out, that is wanted.
-/
import Derived.Test.YtijmhegccakndaaTw
namespace Go.Proofs.Ytijmhegccakndaa
open Go.RowKit
open Go.Proofs.YtijmhegccakndaaW.PrintWords Go.Proofs.YtijmhegccakndaaW.PrintMore
set_option linter.unusedVariables false

variable {w0 W W1 w' : World} {xb rb : Nat} {f f' : Nat → Nat} {b0 b1 : Nat} {p0 p1 u0 u1 v0 v1 : Value} {r0 r1 : List ByteArray} {vo vw : Value} {hs : List (Nat × Nat)} {ws : List (Option Nat × Nat × Nat)} {ls lw : List (List ByteArray)}

/-- all that was there stays, by other labels of fresh blocks -/
theorem Tw.label (h : Tw w0 xb rb f b0 b1 p0 p1 u0 u1 v0 v1 r0 r1 vo vw hs ws ls lw W) (hf : ∀ k, k < W.heap.size → f' k = f k) : Tw w0 xb rb f' b0 b1 p0 p1 u0 u1 v0 v1 r0 r1 vo vw hs ws ls lw W := by
  refine ⟨h.lo, h.xr, h.rr, (hf _ (Array.getElem?_eq_some_iff.1 h.xr).1).trans h.fx, (hf _ (Array.getElem?_eq_some_iff.1 h.rr).1).trans h.fr, h.i0.lt.mono fun k hk => ⟨(hf k hk.2).trans hk.1.1, hk.1.2⟩, h.i1.lt.mono fun k hk => ⟨(hf k hk.2).trans hk.1.1, hk.1.2⟩, h.s0, h.s1, fun k hk => (hf k (Kd.R_lt h.s0 k hk)).trans (h.t0 k hk), fun k hk => (hf k (Kd.R_lt h.s1 k hk)).trans (h.t1 k hk), Kd.R_mono (Kd.R_bound h.oo) fun k hk => (hf k hk.2.2.1).trans hk.1, h.gg, fun k g n hg => (hf g (h.gg.lt hg).2).trans (h.tg k g n hg), Kd.R_mono (Kd.R_bound h.ww) fun k hk => (hf k hk.2.2.1).trans hk.1, h.wn, fun k x hx b hb => ?_⟩
  obtain ⟨l, _, hr⟩ := h.wn.at hx
  exact (hf b (Kd.R_lt hr b hb)).trans (h.tw k x hx b hb)
theorem Tw.new0 (h : Tw w0 xb rb f b0 b1 p0 p1 u0 u1 v0 v1 r0 r1 vo vw hs ws ls lw W) (hb : Below W.heap.size W w') {b' : Nat} {v' : Value} {r' : List ByteArray} (hA : AtS w' (fun k => W.heap.size ≤ k ∧ v'.ownBlock ≠ some k) b' r') (hv : Kd.string.R 9 w' w0.heap.size (fun k => v'.ownBlock = some k) v' r') (hn : ∀ k, v'.ownBlock = some k → W.heap.size ≤ k) : ∃ f', Tw w0 xb rb f' b' b1 p0 p1 u0 u1 v' v1 r' r1 vo vw hs ws ls lw w' := by
  have h1 := (h.label (f' := fun k => if k < W.heap.size then f k else if v'.ownBlock = some k then 2 else 0) fun k hk => if_pos hk).below hb
  have hw := h.lo.size
  exact ⟨_, { h1 with i0 := hA.mono fun k hk => ⟨(if_neg (by omega)).trans (if_neg hk.2), by omega⟩, s0 := hv, t0 := fun k hk => (if_neg (by have := hn k hk; omega)).trans (if_pos hk) }⟩
theorem Tw.new1 (h : Tw w0 xb rb f b0 b1 p0 p1 u0 u1 v0 v1 r0 r1 vo vw hs ws ls lw W) (hb : Below W.heap.size W w') {b' : Nat} {v' : Value} {r' : List ByteArray} (hA : AtS w' (fun k => W.heap.size ≤ k ∧ v'.ownBlock ≠ some k) b' r') (hv : Kd.string.R 9 w' w0.heap.size (fun k => v'.ownBlock = some k) v' r') (hn : ∀ k, v'.ownBlock = some k → W.heap.size ≤ k) : ∃ f', Tw w0 xb rb f' b0 b' p0 p1 u0 u1 v0 v' r0 r' vo vw hs ws ls lw w' := by
  have h1 := (h.label (f' := fun k => if k < W.heap.size then f k else if v'.ownBlock = some k then 3 else 1) fun k hk => if_pos hk).below hb
  have hw := h.lo.size
  exact ⟨_, { h1 with i1 := hA.mono fun k hk => ⟨(if_neg (by omega)).trans (if_neg hk.2), by omega⟩, s1 := hv, t1 := fun k hk => (if_neg (by have := hn k hk; omega)).trans (if_pos hk) }⟩
/-- a list more that was handed out -/
theorem Tw.out (h : Tw w0 xb rb f b0 b1 p0 p1 u0 u1 v0 v1 r0 r1 vo vw hs ws ls lw W) (hb : Below W.heap.size W W1) {g : Nat} {l : List ByteArray} {vo' : Value} (hg : W.heap.size ≤ g) (hR : Kd.string.R 9 W1 w0.heap.size (fun _ => True) (.slice (some ⟨g, 0, none⟩) l.length l.length) l)
    (ho : kH.R 22 w' w0.heap.size (fun _ => True) vo' (hs ++ [(g, l.length)])) (hB : Below w0.heap.size W1 w') (hG : W1.grownBy w' vo.ownBlock) (hat : vo'.ownBlock = vo.ownBlock ∨ ∃ b, vo'.ownBlock = some b ∧ W1.heap.size ≤ b) : ∃ f', Tw w0 xb rb f' b0 b1 p0 p1 u0 u1 v0 v1 r0 r1 vo' vw (hs ++ [(g, l.length)]) ws (ls ++ [l]) lw w' := by
  have hgl : g < W1.heap.size := Kd.R_lt hR g rfl
  obtain ⟨F, fo, fg, fv⟩ : ∃ F : Nat → Nat, (∀ k, k < W.heap.size → F k = f k) ∧ F g = 4 ∧ (∀ k, W.heap.size ≤ k → k ≠ g → vo'.ownBlock = some k → F k = 6) := ⟨fun k => if k < W.heap.size then f k else if k = g then 4 else if vo'.ownBlock = some k then 6 else 9, fun k hk => if_pos hk, (if_neg (by omega)).trans (if_pos rfl), fun k h1 h2 h3 => (if_neg (by omega)).trans ((if_neg h2).trans (if_pos h3))⟩
  have h1 := (h.label (f' := F) fo).below hb
  have own6 : ∀ k, vo.ownBlock = some k → k < W.heap.size ∧ f k = 6 := fun k hk => ⟨Kd.R_lt h.oo k hk, h.oo.1 k hk⟩
  have keep : ∀ k, k < W1.heap.size → vo.ownBlock ≠ some k → w'.heap[k]? = W1.heap[k]? := fun k hk hn => hG.block k hk (fun e => hn e.symm)
  have ne : ∀ k, f k ≠ 6 → vo.ownBlock ≠ some k := fun k hk hc => hk (own6 k hc).2
  have ne2 : ∀ k, F k ≠ 6 → vo.ownBlock ≠ some k := fun k hk hc => hk ((fo k (own6 k hc).1).trans (own6 k hc).2)
  have hG2 := (h.gg.snoc hb hg hR)
  refine ⟨F, ⟨h1.lo.trans hB, (keep _ (Array.getElem?_eq_some_iff.1 h1.xr).1 (ne _ (by rw [h.fx]; decide))).trans h1.xr, (keep _ (Array.getElem?_eq_some_iff.1 h1.rr).1 (ne _ (by rw [h.fr]; decide))).trans h1.rr, h1.fx, h1.fr, h1.i0.kept fun k hk hlt => keep k hlt (ne2 k (by rw [hk.1]; decide)), h1.i1.kept fun k hk hlt => keep k hlt (ne2 k (by rw [hk.1]; decide)), Kd.R_step h1.s0 fun k hk hlt => keep k hlt (ne2 k (by rw [h1.t0 k hk]; decide)), Kd.R_step h1.s1 fun k hk hlt => keep k hlt (ne2 k (by rw [h1.t1 k hk]; decide)), h1.t0, h1.t1, Kd.R_reok rfl ho fun k hk => ?_, hG2.kept fun k g' n' hg' hlt => keep g' hlt ?_, fun k g' n' hg' => ?_, Kd.R_step h1.ww fun k hk hlt => keep k hlt (ne2 k (by rw [hk]; decide)), ⟨h1.wn.1, fun k x l hx hl => ⟨(h1.wn.2 k x l hx hl).1, Kd.R_step (h1.wn.2 k x l hx hl).2 fun b hb hlt => keep b hlt (ne2 b (by rw [h1.tw k x hx b hb.symm]; decide))⟩⟩, h1.tw⟩⟩
  · rcases hat with e | ⟨b, e, hb'⟩
    · rw [e] at hk
      exact (fo k (own6 k hk).1).trans (own6 k hk).2
    · have e2 : b = k := by rw [e] at hk; exact Option.some.inj hk
      subst e2
      have := hb.size
      exact fv b (by omega) (by omega) e
  · by_cases hk : k < hs.length
    · rw [List.getElem?_append_left hk] at hg'
      exact ne g' (by rw [h.tg k g' n' hg']; decide)
    · rw [List.getElem?_append_right (by omega)] at hg'
      have hj := (List.getElem?_eq_some_iff.1 hg').1
      simp at hj
      have hj0 : k - hs.length = 0 := by omega
      rw [hj0] at hg'
      simp at hg'
      exact fun hc => by have := (own6 g' hc).1; omega
  · by_cases hk : k < hs.length
    · rw [List.getElem?_append_left hk] at hg'
      exact (fo g' (h.gg.lt hg').2).trans (h.tg k g' n' hg')
    · rw [List.getElem?_append_right (by omega)] at hg'
      have hj := (List.getElem?_eq_some_iff.1 hg').1
      simp at hj
      have hj0 : k - hs.length = 0 := by omega
      rw [hj0] at hg'
      simp at hg'
      obtain ⟨rfl, _⟩ := hg'
      exact fg
/-- a list more that is wanted -/
theorem Tw.want (h : Tw w0 xb rb f b0 b1 p0 p1 u0 u1 v0 v1 r0 r1 vo vw hs ws ls lw W) (hb : Below W.heap.size W W1) {x : Option Nat × Nat × Nat} {l : List ByteArray} {vw' : Value} (hx1 : x.2.1 = l.length) (hR : Kd.string.R 9 W1 W.heap.size (fun _ => True) (hVal x) l)
    (ho : kW.R 22 w' w0.heap.size (fun _ => True) vw' (ws ++ [x])) (hB : Below w0.heap.size W1 w') (hG : W1.grownBy w' vw.ownBlock) (hat : vw'.ownBlock = vw.ownBlock ∨ ∃ b, vw'.ownBlock = some b ∧ W1.heap.size ≤ b) : ∃ f', Tw w0 xb rb f' b0 b1 p0 p1 u0 u1 v0 v1 r0 r1 vo vw' hs (ws ++ [x]) ls (lw ++ [l]) w' := by
  have hbase : ∀ k, (hVal x).ownBlock = some k → W.heap.size ≤ k ∧ k < W1.heap.size := fun k hk => ⟨Kd.R_base hR k hk, Kd.R_lt hR k hk⟩
  obtain ⟨F, fo, fg, fv⟩ : ∃ F : Nat → Nat, (∀ k, k < W.heap.size → F k = f k) ∧ (∀ k, W.heap.size ≤ k → (hVal x).ownBlock = some k → F k = 5) ∧ (∀ k, W.heap.size ≤ k → (hVal x).ownBlock ≠ some k → vw'.ownBlock = some k → F k = 7) := ⟨fun k => if k < W.heap.size then f k else if (hVal x).ownBlock = some k then 5 else if vw'.ownBlock = some k then 7 else 9, fun k hk => if_pos hk, fun k h1 h2 => (if_neg (by omega)).trans (if_pos h2), fun k h1 h2 h3 => (if_neg (by omega)).trans ((if_neg h2).trans (if_pos h3))⟩
  have h1 := (h.label (f' := F) fo).below hb
  have own7 : ∀ k, vw.ownBlock = some k → k < W.heap.size ∧ f k = 7 := fun k hk => ⟨Kd.R_lt h.ww k hk, h.ww.1 k hk⟩
  have keep : ∀ k, k < W1.heap.size → vw.ownBlock ≠ some k → w'.heap[k]? = W1.heap[k]? := fun k hk hn => hG.block k hk (fun e => hn e.symm)
  have ne : ∀ k, f k ≠ 7 → vw.ownBlock ≠ some k := fun k hk hc => hk (own7 k hc).2
  have ne2 : ∀ k, F k ≠ 7 → vw.ownBlock ≠ some k := fun k hk hc => hk ((fo k (own7 k hc).1).trans (own7 k hc).2)
  have hws : ∀ (k : Nat) (y : Option Nat × Nat × Nat), (ws ++ [x])[k]? = some y → (k < ws.length ∧ ws[k]? = some y) ∨ (k = ws.length ∧ y = x) := fun k y hy => by
    by_cases hk : k < ws.length
    · rw [List.getElem?_append_left hk] at hy
      exact .inl ⟨hk, hy⟩
    · rw [List.getElem?_append_right (by omega)] at hy
      have hj := (List.getElem?_eq_some_iff.1 hy).1
      simp at hj
      have hj0 : k - ws.length = 0 := by omega
      rw [hj0] at hy
      simp at hy
      exact .inr ⟨by omega, hy.symm⟩
  refine ⟨F, ⟨h1.lo.trans hB, (keep _ (Array.getElem?_eq_some_iff.1 h1.xr).1 (ne _ (by rw [h.fx]; decide))).trans h1.xr, (keep _ (Array.getElem?_eq_some_iff.1 h1.rr).1 (ne _ (by rw [h.fr]; decide))).trans h1.rr, h1.fx, h1.fr, h1.i0.kept fun k hk hlt => keep k hlt (ne2 k (by rw [hk.1]; decide)), h1.i1.kept fun k hk hlt => keep k hlt (ne2 k (by rw [hk.1]; decide)), Kd.R_step h1.s0 fun k hk hlt => keep k hlt (ne2 k (by rw [h1.t0 k hk]; decide)), Kd.R_step h1.s1 fun k hk hlt => keep k hlt (ne2 k (by rw [h1.t1 k hk]; decide)), h1.t0, h1.t1, Kd.R_step h1.oo fun k hk hlt => keep k hlt (ne2 k (by rw [hk]; decide)), h1.gg.kept fun k g n hg hlt => keep g hlt (ne2 g (by rw [h1.tg k g n hg]; decide)), h1.tg, Kd.R_reok rfl ho fun k hk => ?_, ⟨by simp [h1.wn.1], fun k y l' hy hl' => ?_⟩, fun k y hy b hb' => ?_⟩⟩
  · rcases hat with e | ⟨b, e, hb'⟩
    · rw [e] at hk
      exact (fo k (own7 k hk).1).trans (own7 k hk).2
    · have e2 : b = k := by rw [e] at hk; exact Option.some.inj hk
      subst e2
      have := hb.size
      exact fv b (by omega) (fun hc => by have := (hbase b hc).2; omega) e
  · rcases hws k y hy with ⟨hk, hy'⟩ | ⟨hk, rfl⟩
    · rw [List.getElem?_append_left (by have := h1.wn.1; omega)] at hl'
      exact ⟨(h1.wn.2 k y l' hy' hl').1, Kd.R_step (h1.wn.2 k y l' hy' hl').2 fun b hb hlt => keep b hlt (ne2 b (by rw [h1.tw k y hy' b hb.symm]; decide))⟩
    · rw [List.getElem?_append_right (by have := h1.wn.1; omega)] at hl'
      have hj0 : k - lw.length = 0 := by have := h1.wn.1; omega
      rw [hj0] at hl'
      simp at hl'
      subst hl'
      exact ⟨hx1, Kd.R_step (Kd.R_lower (Kd.R_reok rfl hR (fun k hk => hk.symm)) h.lo.size) fun b hb hlt => keep b hlt (fun hc => by have := (own7 b hc).1; have := (hbase b hb.symm).1; omega)⟩
  · rcases hws k y hy with ⟨hk, hy'⟩ | ⟨hk, rfl⟩
    · exact h1.tw k y hy' b hb'
    · exact fg b (hbase b hb').1 hb'
end Go.Proofs.Ytijmhegccakndaa
