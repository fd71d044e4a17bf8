/-
  InternScript: the walk (begun).
-/
import Derived.Test.YtijmhegccakndaaKz
import Derived.Test.YtijmhegccakndaaFrom
namespace Go.Proofs.Ytijmhegccakndaa
open Go.RowKit
open Go.Proofs.YtijmhegccakndaaW.PrintWords Go.Proofs.YtijmhegccakndaaW.PrintMore
set_option linter.unusedVariables false

/-- the state of the script, and how long its rows may be -/
structure Ss (w : World) (xb rb : Nat) (B i : Nat) (vo vw : Value) (W : World) : Prop where
  ex : ∃ (f : Nat → Nat) (b0 b1 : Nat) (v0 v1 : Value) (r0 r1 : List ByteArray) (hs : List (Nat × Nat)) (ws : List (Option Nat × Nat × Nat)) (ls : List (List ByteArray)),
    Tw w xb rb f b0 b1 (.pointer (some ⟨b0, 0, none⟩)) (.pointer (some ⟨b1, 0, none⟩)) v0 v1 v0 v1 r0 r1 vo vw hs ws ls ls W ∧ r0.length ≤ B + i ∧ r1.length ≤ B + i ∧ hs.length ≤ i ∧ (∀ (k g n : Nat), hs[k]? = some (g, n) → n ≤ B + i)
theorem Ss.start {w w1 w2 : World} {b0 b1 B : Nat} (h0 : At w1 w.heap.size b0 []) (hb0 : Below w.heap.size w w1) (h1 : At w2 w1.heap.size b1 []) (hb1 : Below w1.heap.size w1 w2) :
    Ss w w2.heap.size (w2.heap.size + 1) B 0 (.slice none 0 0) (.slice none 0 0) ((w2.alloc (.cells #[.pointer (some ⟨b0, 0, none⟩), .pointer (some ⟨b1, 0, none⟩)] 83)).alloc (.cells #[.slice none 0 0, .slice none 0 0] 84)) := by
  have hb2 : Below w2.heap.size w2 ((w2.alloc (.cells #[.pointer (some ⟨b0, 0, none⟩), .pointer (some ⟨b1, 0, none⟩)] 83)).alloc (.cells #[.slice none 0 0, .slice none 0 0] 84)) := below_alloc (below_alloc (Below.refl _ _) _) _
  have z1 := hb0.size
  have z2 := hb1.size
  obtain ⟨f, f0, f1, f2⟩ : ∃ f : Nat → Nat, (∀ k, k < w1.heap.size → f k = 0) ∧ (∀ k, w1.heap.size ≤ k → k < w2.heap.size → f k = 1) ∧ (∀ k, w2.heap.size ≤ k → f k = 8) := ⟨fun k => if k < w1.heap.size then 0 else if k < w2.heap.size then 1 else 8, fun k hk => if_pos hk, fun k h1 h2 => (if_neg (by omega)).trans (if_pos h2), fun k h => (if_neg (by omega)).trans (if_neg (by omega))⟩
  refine ⟨f, b0, b1, .slice none 0 0, .slice none 0 0, [], [], [], [], [], ⟨(hb0.trans (hb1.mono z1)).trans (hb2.mono (by omega)), ?_, ?_, f2 _ (by omega), f2 _ (by omega), ?_, ?_, Kd.R_nil _ _ _ _ _, Kd.R_nil _ _ _ _ _, fun k hk => by simp [Value.ownBlock] at hk, fun k hk => by simp [Value.ownBlock] at hk, Kd.R_nil _ _ _ _ _, ⟨rfl, fun k g n l h => by simp at h, fun i j g n g' n' h => by simp at h⟩, fun k g n h => by simp at h, Kd.R_nil _ _ _ _ _, ⟨rfl, fun k x l h => by simp at h⟩, fun k x h => by simp at h⟩, by simp, by simp, by simp, fun k g n h => by simp at h⟩
  · exact (Below.heap_alloc _ _ _ (by simp)).trans (heap_alloc_new w2 _)
  · have := heap_alloc_new (w2.alloc (.cells #[.pointer (some ⟨b0, 0, none⟩), .pointer (some ⟨b1, 0, none⟩)] 83)) (.cells #[.slice none 0 0, .slice none 0 0] 84)
    simpa using this
  · exact ((((AtS.of h0).kept fun k hk hlt => hb1.block k hlt).lt.kept fun k hk hlt => hb2.block k hlt).mono fun k hk => ⟨f0 k hk.1.2, hk.1.1⟩)
  · exact ((AtS.of h1).kept fun k hk hlt => hb2.block k hlt).mono fun k hk => ⟨f1 k hk.1 hk.2, by have := hk.1; omega⟩
section
variable {w0 W : World} {xb rb : Nat} {f : Nat → Nat} {b0 b1 : Nat} {p0 p1 u0 u1 v0 v1 : Value} {r0 r1 : List ByteArray} {vo vw : Value} {hs : List (Nat × Nat)} {ws : List (Option Nat × Nat × Nat)} {ls lw : List (List ByteArray)}
theorem Tw.cx0 (h : Tw w0 xb rb f b0 b1 p0 p1 u0 u1 v0 v1 r0 r1 vo vw hs ws ls lw W) : W.cell? ⟨xb, 0, none⟩ = some p0 := by rw [cell_of_row _ _ 0 _ _ _ h.xr]; rfl
theorem Tw.cx1 (h : Tw w0 xb rb f b0 b1 p0 p1 u0 u1 v0 v1 r0 r1 vo vw hs ws ls lw W) : W.cell? ⟨xb, 1, none⟩ = some p1 := by rw [cell_of_row _ _ 1 _ _ _ h.xr]; rfl
theorem Tw.cr0 (h : Tw w0 xb rb f b0 b1 p0 p1 u0 u1 v0 v1 r0 r1 vo vw hs ws ls lw W) : W.cell? ⟨rb, 0, none⟩ = some u0 := by rw [cell_of_row _ _ 0 _ _ _ h.rr]; rfl
theorem Tw.cr1 (h : Tw w0 xb rb f b0 b1 p0 p1 u0 u1 v0 v1 r0 r1 vo vw hs ws ls lw W) : W.cell? ⟨rb, 1, none⟩ = some u1 := by rw [cell_of_row _ _ 1 _ _ _ h.rr]; rfl
end
theorem snoc_le {hs : List (Nat × Nat)} {g0 m M M' : Nat} (h : ∀ (k g n : Nat), hs[k]? = some (g, n) → n ≤ M) (hm : m ≤ M') (hM : M ≤ M') : ∀ (k g n : Nat), (hs ++ [(g0, m)])[k]? = some (g, n) → n ≤ M' := by
  intro k g n hk
  have := List.mem_of_getElem? hk
  rcases List.mem_append.1 this with h1 | h1
  · obtain ⟨j, hj⟩ := List.mem_iff_getElem?.1 h1
    exact Nat.le_trans (h j g n hj) hM
  · simp at h1
    omega
/-- the prefix of a list that is read -/
theorem C_pre {w : World} {A : Option Addr} {l m : List ByteArray} (h : Kd.string.C w A (l ++ m).length (l ++ m)) : Kd.string.C w A l.length l := by
  refine ⟨rfl, by have := h.2.1; simp at this; omega, fun hp => ?_⟩
  obtain ⟨ad, e, hc⟩ := h.2.2 (by simp; omega)
  exact ⟨ad, e, fun j p hj => hc j p (by rw [List.getElem?_append_left (List.getElem?_eq_some_iff.1 hj).1]; exact hj)⟩
/-- what lent hands out: a row of its own -/
theorem lent_form {w : World} {n0 : Nat} {ok : Nat → Prop} {v : Value} {l : List ByteArray} (h : Kd.string.R 9 w n0 ok v (l ++ List.replicate 64 mark)) : ∃ g c, v = .slice (some ⟨g, 0, none⟩) (l.length + 64) c ∧ l.length + 64 ≤ c := by
  obtain ⟨g, c, rfl, _⟩ := Kd.R_form h (by simp)
  have := (Kd.R_reads' h).2.1
  exact ⟨g, c, by simp, by simpa using this⟩
theorem cell_below {w w' : World} (hb : Below w.heap.size w w') {b o : Nat} {v : Value} (hl : b < w.heap.size) (h : w.cell? ⟨b, o, none⟩ = some v) : w'.cell? ⟨b, o, none⟩ = some v := by
  unfold World.cell? at h ⊢
  rw [hb.block b hl]
  exact h
/-- a list of the call's own, on its way to be written over -/
def Ov (w8 : World) (n0 k0 n c : Nat) (W : World) : Prop := Kp w8 W (fun b => b = k0) ∧ ∃ l' : List ByteArray, l'.length = n ∧ Kd.string.R 9 W n0 (fun b => b = k0) (.slice (some ⟨k0, 0, none⟩) n c) l'
theorem Ov.cell {w8 W : World} {n0 k0 n c i : Nat} (h : Ov w8 n0 k0 n c W) (hi : i < n) : ∃ t, W.cell? ⟨k0, i, none⟩ = some (.string t) ∧ W.frozen? ⟨k0, i, none⟩ = false := by
  obtain ⟨_, l', rfl, hr⟩ := h
  have h2 := Kd.R_cell ByteArray.empty hr (i : Int) (by omega) (by omega)
  exact ⟨_, by simpa using h2.1, by simpa using h2.2⟩
theorem Ov.put {w8 W : World} {n0 k0 n c : Nat} (h : Ov w8 n0 k0 n c W) (i : Nat) (m : ByteArray) : Ov w8 n0 k0 n c (W.setCell ⟨k0, i, none⟩ (.string m)) := by
  obtain ⟨hk, l', rfl, hr⟩ := h
  exact ⟨hk.setCell (p := ⟨k0, i, none⟩) (.inl rfl) _, l'.set i m, by simp, (Kd.R_put (enc := Value.string) (h1 := fun _ => rfl) hr (i : Int) m).1⟩
theorem Ov.start {w8 : World} {n0 k0 n c : Nat} {l : List ByteArray} (h : Kd.string.R 9 w8 n0 (fun _ => True) (.slice (some ⟨k0, 0, none⟩) n c) l) (hl : l.length = n) : Ov w8 n0 k0 n c w8 :=
  ⟨Kp.refl _ _, l, hl, Kd.R_reok rfl h fun k hk => by simpa [Value.ownBlock] using hk.symm⟩
theorem cell_kp {w w' : World} {S : Nat → Prop} (hb : Kp w w' S) {b o : Nat} {v : Value} (hl : b < w.heap.size) (hs : ¬ S b) (h : w.cell? ⟨b, o, none⟩ = some v) : w'.cell? ⟨b, o, none⟩ = some v := by
  unfold World.cell? at h ⊢
  rw [hb.block b hl hs]
  exact h
theorem Ov.bl {w5 w9 W : World} {k0 n c : Nat} (hO : Ov w9 w5.heap.size k0 n c W) (hb : Below w5.heap.size w5 w9) (hk : w5.heap.size ≤ k0) : Below w5.heap.size w5 W :=
  hb.trans (hO.1.below (fun j hj => by subst hj; exact hk) hb.size)
/-- the index that From made, and the row that it is held against, behind the writing over -/
theorem from_after {w5 w6 w7 w8 w9 W : World} {k0 cl bn n0 m cn : Nat} {An : Option Addr} {l ll : List ByteArray} (h6 : Kd.string.R 9 w6 w5.heap.size (fun _ => True) (.slice (some ⟨k0, 0, none⟩) m cl) ll) (b6 : Below w5.heap.size w5 w6) (h7 : Kd.string.R 9 w7 w6.heap.size (fun _ => True) (.slice An l.length cn) l) (b7 : Below w6.heap.size w6 w7) (h8 : At w8 w7.heap.size bn l) (b8 : Below w7.heap.size w7 w8) (b9 : Below w8.heap.size w8 w9) (hO : Ov w9 w5.heap.size k0 m cl W) (hn0 : n0 ≤ w5.heap.size) :
    Below w5.heap.size w5 W ∧ AtS W (fun k => w5.heap.size ≤ k ∧ (Value.slice An l.length cn).ownBlock ≠ some k) bn l ∧ Kd.string.R 9 W n0 (fun k => (Value.slice An l.length cn).ownBlock = some k) (.slice An l.length cn) l ∧ (∀ k, (Value.slice An l.length cn).ownBlock = some k → w5.heap.size ≤ k) := by
  have hk0 : w5.heap.size ≤ k0 := Kd.R_base h6 k0 rfl
  have hk1 : k0 < w6.heap.size := Kd.R_lt h6 k0 rfl
  have z6 := b6.size
  have z7 := b7.size
  have z8 := b8.size
  have z9 := b9.size
  have own : ∀ k, (Value.slice An l.length cn).ownBlock = some k → w6.heap.size ≤ k ∧ k < w7.heap.size := fun k hk => ⟨Kd.R_base h7 k hk, Kd.R_lt h7 k hk⟩
  have hb9 : Below w5.heap.size w5 w9 := ((b6.trans (b7.mono z6)).trans (b8.mono (by omega))).trans (b9.mono (by omega))
  refine ⟨hO.bl hb9 hk0, ((((AtS.of h8).kept fun k hk hlt => b9.block k hlt).lt.kept fun k hk hlt => hO.1.block k hlt (fun e => by subst e; have := hk.1.1; omega)).mono fun k hk => ⟨by have := hk.1.1; omega, fun hc => by have := (own k hc).2; have := hk.1.1; omega⟩), Kd.R_lower (Kd.R_step (Kd.R_reok rfl (Kd.R_below (Kd.R_below h7 b8) b9) (fun k hk => hk)) fun k hk hlt => hO.1.block k hlt (fun e => by subst e; have := (own k hk).1; omega)) (by omega), fun k hk => by have := (own k hk).1; omega⟩
/-- what is left of the state when the lists that were handed out have been written over -/
structure En (n0 xb rb c0 c1 : Nat) (v0 v1 : Value) (r0 r1 : List ByteArray) (W : World) : Prop where
  x0 : W.cell? ⟨xb, 0, none⟩ = some (.pointer (some ⟨c0, 0, none⟩))
  x1 : W.cell? ⟨xb, 1, none⟩ = some (.pointer (some ⟨c1, 0, none⟩))
  y0 : W.cell? ⟨rb, 0, none⟩ = some v0
  y1 : W.cell? ⟨rb, 1, none⟩ = some v1
  lx : xb < W.heap.size
  ly : rb < W.heap.size
  i0 : At W n0 c0 r0
  i1 : At W n0 c1 r1
  s0 : Kd.string.R 9 W n0 (fun _ => True) v0 r0
  s1 : Kd.string.R 9 W n0 (fun _ => True) v1 r1
theorem En.below {n0 xb rb c0 c1 : Nat} {v0 v1 : Value} {r0 r1 : List ByteArray} {W X : World} (h : En n0 xb rb c0 c1 v0 v1 r0 r1 W) (hb : Below W.heap.size W X) : En n0 xb rb c0 c1 v0 v1 r0 r1 X :=
  ⟨cell_below hb h.lx h.x0, cell_below hb h.lx h.x1, cell_below hb h.ly h.y0, cell_below hb h.ly h.y1, Nat.lt_of_lt_of_le h.lx hb.size, Nat.lt_of_lt_of_le h.ly hb.size, h.i0.below hb, h.i1.below hb, Kd.R_below h.s0 hb, Kd.R_below h.s1 hb⟩
theorem Tw.en {w0 W W1 : World} {xb rb : Nat} {f : Nat → Nat} {c0 c1 : Nat} {v0 v1 : Value} {r0 r1 : List ByteArray} {vo vw : Value} {hs : List (Nat × Nat)} {ws : List (Option Nat × Nat × Nat)} {ls lw : List (List ByteArray)}
    (h : Tw w0 xb rb f c0 c1 (.pointer (some ⟨c0, 0, none⟩)) (.pointer (some ⟨c1, 0, none⟩)) v0 v1 v0 v1 r0 r1 vo vw hs ws ls lw W) (hk : Kp W W1 (fun b => ∃ k n : Nat, hs[k]? = some (b, n))) : En w0.heap.size xb rb c0 c1 v0 v1 r0 r1 W1 := by
  have keep : ∀ k, k < W.heap.size → f k ≠ 4 → W1.heap[k]? = W.heap[k]? := fun k hlt hf => hk.block k hlt fun ⟨j, n, e⟩ => hf (h.tg j k n e)
  have kc : ∀ (b o : Nat) (v : Value), b < W.heap.size → f b ≠ 4 → W.cell? ⟨b, o, none⟩ = some v → W1.cell? ⟨b, o, none⟩ = some v := fun b o v hl hf hc => by
    unfold World.cell? at hc ⊢
    rw [keep b hl hf]
    exact hc
  have hlx := (Array.getElem?_eq_some_iff.1 h.xr).1
  have hlr := (Array.getElem?_eq_some_iff.1 h.rr).1
  refine ⟨kc _ _ _ hlx (by rw [h.fx]; decide) h.cx0, kc _ _ _ hlx (by rw [h.fx]; decide) h.cx1, kc _ _ _ hlr (by rw [h.fr]; decide) h.cr0, kc _ _ _ hlr (by rw [h.fr]; decide) h.cr1, Nat.lt_of_lt_of_le hlx hk.size, Nat.lt_of_lt_of_le hlr hk.size, (h.i0.kept fun k hf hlt => keep k hlt (by rw [hf.1]; decide)).at (fun k hf => hf.2), (h.i1.kept fun k hf hlt => keep k hlt (by rw [hf.1]; decide)).at (fun k hf => hf.2), Kd.R_mono (Kd.R_step h.s0 fun k hf hlt => keep k hlt (by rw [h.t0 k hf]; decide)) fun _ _ => trivial, Kd.R_mono (Kd.R_step h.s1 fun k hf hlt => keep k hlt (by rw [h.t1 k hf]; decide)) fun _ _ => trivial⟩
theorem items_en {n0 c0 : Nat} {r0 : List ByteArray} {W X : World} (hb : Below W.heap.size W X) (h : At X n0 c0 r0) (hn : r0.length ≤ 1000000000000) : Calls Try.prog 13 #[.pointer (some ⟨c0, 0, none⟩)] X fun e w' => ∃ g, e = .returned (.slice (some ⟨g, 0, none⟩) r0.length r0.length) ∧ Kd.string.C w' (some ⟨g, 0, none⟩) r0.length r0 ∧ Below W.heap.size W w' :=
  (items_at_full X n0 c0 r0 h (by omega)).mono fun e w' ⟨h1, h2, h3⟩ => ⟨_, h1, (Kd.R_reads' h2).2.2, hb.trans (h3.mono hb.size)⟩
theorem same_en {n0 g c : Nat} {A : Option Addr} {r0 : List ByteArray} {W X : World} (hb : Below W.heap.size W X) (h1 : Kd.string.C X (some ⟨g, 0, none⟩) r0.length r0) (h2 : Kd.string.R 9 X n0 (fun _ => True) (.slice A r0.length c) r0) (hn : r0.length ≤ 1000000000000) : Calls Try.prog 44 #[.slice (some ⟨g, 0, none⟩) r0.length r0.length, .slice A r0.length c] X fun e w' => e = .returned (.bool true) ∧ Below W.heap.size W w' :=
  (PInternWalk.portageref0_SameTexts.calls (r0.length + 1) (some ⟨g, 0, none⟩) r0.length r0 A c r0 true X h1 (Nat.le_refl _) (Kd.R_reads' h2).2.2 (Kd.R_reads' h2).2.1 (same_f r0 (r0.length + 1) (by omega) (by omega))).mono fun e w' ⟨h1, h3⟩ => ⟨h1, hb.trans (h3.below.mono hb.size)⟩
theorem step_any (w0 W : World) (S : Nat → Prop) (b : Nat) (r : List ByteArray) (v : Value) (x0 x1 x2 : Int) (t : ByteArray) (A4 : Option Addr) (n4 c4 : Nat) (kd : Int) (hk : kd = 0 ∨ kd = 1 ∨ kd = 2 ∨ kd = 3 ∨ kd = 5) (h : AtS W S b r) (hS : ∀ k, S k → w0.heap.size ≤ k) (hB : Below w0.heap.size w0 W) (hv : Kd.string.R 9 W w0.heap.size (fun k => v.ownBlock = some k) v r) (hd : ∀ k, v.ownBlock = some k → ¬ S k) (ht : t.size ≤ maxLen) (hn : (r.length + 1) * 16 ≤ 140737488355328) :
    Calls Try.prog 49 #[.pointer (some ⟨b, 0, none⟩), v, .agg #[.int .i64 x0, .int .i64 x1, .int .i64 x2, .string t, .slice A4 n4 c4], .int .i64 kd] W fun e w' => ∃ v' r', e = .returned (.tuple #[v', .bool true]) ∧ Sd w0.heap.size W S b v r v' r' w' := by
  rcases hk with rfl | rfl | rfl | rfl | rfl
  · exact step_add w0 W S b r v x0 x1 x2 t A4 n4 c4 h hS hB hv hd ht hn
  · exact step_find w0 W S b r v x0 x1 x2 t A4 n4 c4 h hS hB hv hd ht
  · exact step_at w0 W S b r v x0 x1 x2 t A4 n4 c4 h hS hB hv hd
  · exact step_len w0 W S b r v x0 x1 x2 t A4 n4 c4 h hS hB hv hd
  · exact step_cut w0 W S b r v x0 x1 x2 t A4 n4 c4 h hS hB hv hd hn
theorem info22' : (Try.prog.info? 22).map (fun i => (i.zero, i.size, i.bytes)) = some (some (.slice none 0 0), 1, 24) := info22
theorem below_alloc1' (w : World) (o : Obj) : Below w.heap.size w (w.alloc o) := below_alloc (Below.refl _ _) _
theorem pick_calls (a n : Int) (hn : 0 < n) (hn2 : n ≤ 100) (w : World) : Calls Try.prog 23 #[.int .i64 a, .int .i64 n] w fun e w' => e = .returned (.int .i64 (a % n)) ∧ Below w.heap.size w w' :=
  (PInternScript.portagekit_Pick.calls a n (a % n) w (pick_f a n hn hn2)).mono fun e w' ⟨h1, h2⟩ => ⟨h1, h2.below⟩
set_option maxRecDepth 100000 in
set_option maxHeartbeats 16000000 in
theorem script_walk (A : Option Addr) (c B : Nat) (sc : List S87) (w : World) (hC : Kd.C k87 w A sc.length sc) (hB : sc.length + B ≤ 1000000000000) (hl : ∀ x, x ∈ sc → x.f4.length ≤ B ∧ x.f3.size ≤ maxLen ∧ ∀ t, t ∈ x.f4 → t.size ≤ maxLen) :
    Calls Try.prog 9 #[.slice A sc.length c] w fun e w' => e = .returned (.bool true) ∧ Below w.heap.size w w' := by
  have HC := Aside0.mk hC
  have HB := Aside0.mk (And.intro hB hl)
  clear hC hB hl
  go_enter Try.func9, Try.ntmps9
  go_wp2_with fail
  refine (new_at _).mono ?_
  rintro e w1 ⟨b0, rfl, hA0, hB0⟩
  have H0 := Aside0.mk (And.intro hA0 hB0)
  clear hA0 hB0
  go_wp2_with fail
  refine (new_at _).mono ?_
  rintro e w2 ⟨b1, rfl, hA1, hB1⟩
  have H1 := Aside0.mk (And.intro hA1 hB1)
  clear hA1 hB1
  go_wp2_with fail
  go_loopw [5, 6, 7] (fun v5 v6 v7 W => ∃ i : Nat, v7 = .int .i64 (i : Int) ∧ i ≤ sc.length ∧ Aside0 (Ss w w2.heap.size (w2.heap.size + 1) B i v5 v6 W)) (fun _ _ v7 _ => sc.length - (intOf v7).toNat)
  case atStart => exact ⟨0, rfl, Nat.zero_le _, ⟨Ss.start H0.out.1 H0.out.2 H1.out.1 H1.out.2⟩⟩
  case round =>
    obtain ⟨i, rfl, hi, HS⟩ := hrel
    by_cases hlt : i < sc.length
    · obtain ⟨x, hx⟩ : ∃ x, sc[i]? = some x := ⟨_, List.getElem?_eq_getElem hlt⟩
      obtain ⟨f, c0, c1, v0, v1, r0, r1, hs, ws, ls, hT, hr0, hr1, hh, hn⟩ := HS.out.ex
      have HT := Aside0.mk (And.intro hT (And.intro hr0 (And.intro hr1 (And.intro hh hn))))
      obtain ⟨ad, A4, c4, rfl, o0, o1, o2, o3, o4, l4, g4⟩ := cell_op (Kd.C_below HC.out hT.lo) hx
      have HX := Aside0.mk (And.intro (HB.out.2 x (List.mem_of_getElem? hx)) (And.intro l4 g4))
      clear hT hr0 hr1 hh hn hx l4 g4
      have hl2 : (i : Int) < (sc.length : Int) := by omega
      go_wp2_with fail
      have hb3 := below_alloc1' wr (.cells #[.int .i64 x.f0, .int .i64 x.f1, .int .i64 x.f2, .string x.f3, .slice A4 x.f4.length c4] 87)
      have ho3 := heap_alloc_new wr (.cells #[.int .i64 x.f0, .int .i64 x.f1, .int .i64 x.f2, .string x.f3, .slice A4 x.f4.length c4] 87)
      refine (pick_calls x.f0 2 (by decide) (by decide) _).mono ?_
      rintro e w4 ⟨rfl, hb4⟩
      have ho4 := (hb4.block wr.heap.size (by simp)).trans ho3
      have o5 : w4.cell? ⟨wr.heap.size, 1, none⟩ = some (.int .i64 x.f1) := by rw [cell_of_row _ _ 1 _ _ _ ho4]; rfl
      go_wp2_with fail
      refine (pick_calls x.f1 8 (by decide) (by decide) _).mono ?_
      rintro e w5 ⟨rfl, hb5⟩
      have hl4 := (Array.getElem?_eq_some_iff.1 ho4).1
      have ho5 := (hb5.block wr.heap.size hl4).trans ho4
      have hb6 : Below wr.heap.size wr w5 := (hb3.trans (hb4.mono (by simp))).trans (hb5.mono (by have := hb4.size; simp at this; omega))
      have HO := Aside0.mk (And.intro ho5 hb6)
      clear hb3 ho3 hb4 ho4 o5 hb5 hl4 ho5 hb6 o0 o1 o2 o3 o4
      obtain ⟨on, hon⟩ : ∃ on, on = x.f0 % 2 := ⟨_, rfl⟩
      obtain ⟨kd, hkd⟩ : ∃ kd, kd = x.f1 % 8 := ⟨_, rfl⟩
      rw [← hon, ← hkd]
      have HON := Aside0.mk (show (on = 0 ∨ on = 1) ∧ (0 ≤ kd ∧ kd < 8) by omega)
      clear hon hkd
      by_cases h4 : kd = 4
      · subst h4
        have HT5 := Aside0.mk (HT.out.1.below HO.out.2)
        have hM := HT.out.2
        have hbd := HB.out.1
        rcases HON.out.1 with rfl | rfl
        · obtain ⟨Av, cv, rfl⟩ := Kd.R_slice HT5.out.s0
          have e0 := HT5.out.cx0
          go_wp2_with fail
          refine (items_at_full w5 w.heap.size c0 r0 (HT5.out.i0.at (fun k hk => hk.2)) (by omega)).mono ?_
          rintro e w6 ⟨rfl, hR6, hb6⟩
          have H6 := Aside0.mk (And.intro hR6 hb6)
          clear hR6 hb6
          go_wp2_with (first | ((with_reducible refine gate_builtin (b := .append) (xs := #[.tmp 48, .tmp 53]) rfl ?_); at_builtin; refine Kd.R_append kH (w0 := w6) w.heap.size rfl (.tmp 48) (.tmp 53) 85 22 (.slice none 0 0) 24 rfl Try.underlying85 info22 rfl (by decide) (by omega) u5 hs (w5.heap.size, r0.length) [.slice (some ⟨w5.heap.size, 0, none⟩) r0.length r0.length] (fun _ => True) (fun _ => False) rfl rfl rfl (fun _ h => h.elim) (fun _ _ => trivial) ?aO (Below.refl _ _) ?aS ?aL ?_; (case aO => exact Kd.R_mono (Kd.R_below HT5.out.oo H6.out.2) (fun _ _ => trivial)); (case aS => exact Nat.le_trans HT5.out.lo.size H6.out.2.size); (case aL => omega); intro vq w7 ho hb hg hat; obtain ⟨f7, T7⟩ := HT5.out.out H6.out.2 (Nat.le_refl _) (Kd.R_lower H6.out.1 HT5.out.lo.size) ho hb hg hat; have e1 := T7.cr0; have HT7 := Aside0.mk T7; clear T7 ho hb hg hat))
          refine (PInternScript.portageref0_CopyTexts.calls (r0.length + 1) Av cv r0 r0 w7 (Kd.R_reads' HT7.out.s0).2.2 (Kd.R_reads' HT7.out.s0).2.1 (copy_f r0 (r0.length + 1) (by omega) (by omega))).mono ?_
          rintro e w8 ⟨vc, rfl, hR8, hb8⟩
          obtain ⟨xh, rfl, hxl⟩ := own_hVal hR8
          have H8 := Aside0.mk (And.intro hR8 (And.intro hb8 hxl))
          clear hR8 hb8 hxl
          go_wp2_with (first | ((with_reducible refine gate_builtin (b := .append) (xs := #[.tmp 55, .tmp 60]) rfl ?_); at_builtin; refine Kd.R_append kW (w0 := w8) w.heap.size rfl (.tmp 55) (.tmp 60) 85 22 (.slice none 0 0) 24 rfl Try.underlying85 info22 rfl (by decide) (by omega) u6 ws xh [hVal xh] (fun _ => True) (fun _ => False) rfl rfl rfl (fun _ h => h.elim) (fun _ _ => trivial) ?aO (Below.refl _ _) ?aS ?aL ?_; (case aO => exact Kd.R_mono (Kd.R_below HT7.out.ww H8.out.2.1) (fun _ _ => trivial)); (case aS => exact Nat.le_trans HT7.out.lo.size H8.out.2.1.size); (case aL => have h1 := HT5.out.wn.1; have h2 := HT5.out.gg.len; omega); intro vq2 w9 ho hb hg hat; obtain ⟨f9, T9⟩ := HT7.out.want H8.out.2.1 H8.out.2.2 H8.out.1 ho hb hg hat; have HT9 := Aside0.mk T9; clear T9 ho hb hg hat))
          refine ⟨⟨i + 1, by go_num, by omega, ⟨⟨f9, c0, c1, _, _, r0, r1, _, _, _, HT9.out, by omega, by omega, by simp; omega, snoc_le (M := B + i) hM.2.2.2 (by omega) (by omega)⟩⟩⟩, by simp [intOf]; omega⟩
        · obtain ⟨Av, cv, rfl⟩ := Kd.R_slice HT5.out.s1
          have e0 := HT5.out.cx1
          go_wp2_with fail
          refine (items_at_full w5 w.heap.size c1 r1 (HT5.out.i1.at (fun k hk => hk.2)) (by omega)).mono ?_
          rintro e w6 ⟨rfl, hR6, hb6⟩
          have H6 := Aside0.mk (And.intro hR6 hb6)
          clear hR6 hb6
          go_wp2_with (first | ((with_reducible refine gate_builtin (b := .append) (xs := #[.tmp 48, .tmp 53]) rfl ?_); at_builtin; refine Kd.R_append kH (w0 := w6) w.heap.size rfl (.tmp 48) (.tmp 53) 85 22 (.slice none 0 0) 24 rfl Try.underlying85 info22 rfl (by decide) (by omega) u5 hs (w5.heap.size, r1.length) [.slice (some ⟨w5.heap.size, 0, none⟩) r1.length r1.length] (fun _ => True) (fun _ => False) rfl rfl rfl (fun _ h => h.elim) (fun _ _ => trivial) ?aO (Below.refl _ _) ?aS ?aL ?_; (case aO => exact Kd.R_mono (Kd.R_below HT5.out.oo H6.out.2) (fun _ _ => trivial)); (case aS => exact Nat.le_trans HT5.out.lo.size H6.out.2.size); (case aL => omega); intro vq w7 ho hb hg hat; obtain ⟨f7, T7⟩ := HT5.out.out H6.out.2 (Nat.le_refl _) (Kd.R_lower H6.out.1 HT5.out.lo.size) ho hb hg hat; have e1 := T7.cr1; have HT7 := Aside0.mk T7; clear T7 ho hb hg hat))
          refine (PInternScript.portageref0_CopyTexts.calls (r1.length + 1) Av cv r1 r1 w7 (Kd.R_reads' HT7.out.s1).2.2 (Kd.R_reads' HT7.out.s1).2.1 (copy_f r1 (r1.length + 1) (by omega) (by omega))).mono ?_
          rintro e w8 ⟨vc, rfl, hR8, hb8⟩
          obtain ⟨xh, rfl, hxl⟩ := own_hVal hR8
          have H8 := Aside0.mk (And.intro hR8 (And.intro hb8 hxl))
          clear hR8 hb8 hxl
          go_wp2_with (first | ((with_reducible refine gate_builtin (b := .append) (xs := #[.tmp 55, .tmp 60]) rfl ?_); at_builtin; refine Kd.R_append kW (w0 := w8) w.heap.size rfl (.tmp 55) (.tmp 60) 85 22 (.slice none 0 0) 24 rfl Try.underlying85 info22 rfl (by decide) (by omega) u6 ws xh [hVal xh] (fun _ => True) (fun _ => False) rfl rfl rfl (fun _ h => h.elim) (fun _ _ => trivial) ?aO (Below.refl _ _) ?aS ?aL ?_; (case aO => exact Kd.R_mono (Kd.R_below HT7.out.ww H8.out.2.1) (fun _ _ => trivial)); (case aS => exact Nat.le_trans HT7.out.lo.size H8.out.2.1.size); (case aL => have h1 := HT5.out.wn.1; have h2 := HT5.out.gg.len; omega); intro vq2 w9 ho hb hg hat; obtain ⟨f9, T9⟩ := HT7.out.want H8.out.2.1 H8.out.2.2 H8.out.1 ho hb hg hat; have HT9 := Aside0.mk T9; clear T9 ho hb hg hat))
          refine ⟨⟨i + 1, by go_num, by omega, ⟨⟨f9, c0, c1, _, _, r0, r1, _, _, _, HT9.out, by omega, by omega, by simp; omega, snoc_le (M := B + i) hM.2.2.2 (by omega) (by omega)⟩⟩⟩, by simp [intOf]; omega⟩
      by_cases h6 : kd = 6
      · subst h6
        have HT5 := Aside0.mk (HT.out.1.below HO.out.2)
        have hM := HT.out.2
        have hbd := HB.out.1
        have hl4 : x.f4.length ≤ 1000000000000 := by have := HX.out.1.1; omega
        have j4 : w5.cell? ⟨wr.heap.size, 4, none⟩ = some (.slice A4 x.f4.length c4) := by rw [cell_of_row _ _ 4 _ _ _ HO.out.1]; rfl
        have HC5 := Aside0.mk (Kd.C_below HX.out.2.2 HO.out.2)
        go_wp2_with fail
        refine (PInternScript.portagelaw05_lent.calls (x.f4.length + 65) A4 c4 x.f4 (x.f4 ++ List.replicate 64 mark) w5 HC5.out HX.out.2.1 (lent_f x.f4 (x.f4.length + 65) (by omega) (by omega))).mono ?_
        rintro e w6 ⟨vl, rfl, hR6, hb6⟩
        obtain ⟨k0, cl, rfl, hcl⟩ := lent_form hR6
        have hcl2 : x.f4.length ≤ cl := by omega
        have H6 := Aside0.mk (And.intro hR6 hb6)
        have j6 := (cell_below hb6 (by have := HO.out.1; exact (Array.getElem?_eq_some_iff.1 this).1) j4 : w6.cell? ⟨wr.heap.size, 4, none⟩ = some (.slice A4 x.f4.length c4))
        clear hR6 hb6
        by_cases hnd : x.f4.Nodup
        · have HF := Aside0.mk (show PInternScript.portageref05_From.f (2 * x.f4.length + 2) x.f4 = some (x.f4, true) by rw [from_f x.f4 _ (by omega) (by omega), if_pos hnd])
          have HND := Aside0.mk hnd
          clear hnd
          go_wp2_with fail
          refine (PInternScript.portageref05_From.calls (2 * x.f4.length + 2) A4 c4 x.f4 x.f4 true w6 (Kd.C_below HC5.out H6.out.2) HX.out.2.1 HF.out).mono ?_
          rintro e w7 ⟨vn, rfl, hR7, hb7⟩
          obtain ⟨An, cn, rfl⟩ := Kd.R_slice hR7
          have H7 := Aside0.mk (And.intro hR7 hb7)
          have j7 := cell_below hb7 (Nat.lt_of_lt_of_le (Array.getElem?_eq_some_iff.1 HO.out.1).1 H6.out.2.size) j6
          clear hR7 hb7
          go_wp2_with fail
          have hC18 : Kd.string.C w7 (some ⟨k0, 0, none⟩) x.f4.length x.f4 := C_pre (m := List.replicate 64 mark) (by have h2 := (Kd.R_reads' (Kd.R_below H6.out.1 H7.out.2)).2.2; simpa using h2)
          refine (from_any (some ⟨k0, 0, none⟩) cl x.f4 w7 hC18 HX.out.1.2.2 (by omega)).mono ?_
          rintro e w8 hI
          rcases hI with ⟨_, bn, rfl, hA8, hb8⟩ | ⟨hn, _⟩
          case inr => exact absurd HND.out hn
          have H8 := Aside0.mk (And.intro hA8 hb8)
          have j8 := cell_below hb8 (Nat.lt_of_lt_of_le (Nat.lt_of_lt_of_le (Array.getElem?_eq_some_iff.1 HO.out.1).1 H6.out.2.size) H7.out.2.size) j7
          clear hA8 hb8 hC18
          go_wp2_with fail
          have hR8 := Kd.R_below (Kd.R_below H6.out.1 H7.out.2) H8.out.2
          have hK48 := PInternScript.portagelaw05_kept.calls (x.f4.length + 65) (some ⟨k0, 0, none⟩) cl (x.f4 ++ List.replicate 64 mark) A4 c4 x.f4 true w8 (by have h2 := (Kd.R_reads' hR8).2.2; simpa using h2) (by simpa using hcl) (Kd.C_below HC5.out ((H6.out.2.trans (H7.out.2.mono H6.out.2.size)).trans (H8.out.2.mono (Nat.le_trans H6.out.2.size H7.out.2.size)))) HX.out.2.1 (kept_f x.f4 (x.f4.length + 65) (by omega) (by omega))
          rw [show (x.f4 ++ List.replicate 64 mark).length = x.f4.length + 64 by simp] at hK48
          refine hK48.mono ?_
          rintro e w9 ⟨rfl, hd9⟩
          have HOv := Aside0.mk (Ov.start (Kd.R_below hR8 hd9.below) (by simp : (x.f4 ++ List.replicate 64 mark).length = x.f4.length + 64))
          have H9 := Aside0.mk hd9.below
          clear hR8 hK48 hd9
          obtain ⟨V, hV⟩ : ∃ V, V = wr := ⟨_, rfl⟩
          subst hV
          go_wp2_with fail
          go_loopw [16] (fun v W => ∃ k : Nat, v = .int .i64 (k : Int) ∧ k ≤ x.f4.length + 64 ∧ Aside0 (Ov w9 w5.heap.size k0 (x.f4.length + 64) cl W)) (fun v _ => x.f4.length + 64 - (intOf v).toNat)
          case atStart => exact ⟨0, rfl, Nat.zero_le _, HOv⟩
          case round =>
            obtain ⟨k, rfl, hk, HOw⟩ := hrel
            by_cases hkl : k < x.f4.length + 64
            · have hl2 : (k : Int) < ((x.f4.length + 64 : Nat) : Int) := by omega
              obtain ⟨t, k1, k2⟩ := HOw.out.cell hkl
              go_wp2_with fail
              refine ⟨⟨k + 1, by go_num, by omega, ⟨HOw.out.put k _⟩⟩, by simp [intOf]; omega⟩
            · obtain rfl : k = x.f4.length + 64 := by omega
              have hz : w.heap.size ≤ w2.heap.size := Nat.le_trans H0.out.2.size H1.out.2.size
              have hl2 : ¬ ((x.f4.length + 64 : Nat) : Int) < ((x.f4.length + 64 : Nat) : Int) := by omega
              have HFA := Aside0.mk (from_after (n0 := w.heap.size) H6.out.1 H6.out.2 H7.out.1 H7.out.2 H8.out.1 H8.out.2 H9.out HOw.out HT5.out.lo.size)
              have n1 : w2.heap.size + 1 ≠ w2.heap.size := by omega
              have n2 : w2.heap.size ≠ w2.heap.size + 1 := by omega
              rcases HON.out.1 with rfl | rfl
              · obtain ⟨f6, T6⟩ := HT5.out.new0 HFA.out.1 HFA.out.2.1 HFA.out.2.2.1 HFA.out.2.2.2
                have HT6 := Aside0.mk T6
                have e2 := T6.cx0
                have e3 := frozen_of_row wr w2.heap.size 0 _ _ T6.xr
                have e4 := T6.cr0
                have e5 := frozen_of_row wr (w2.heap.size + 1) 0 _ _ T6.rr
                clear T6
                go_wp2_with fail
                refine ⟨⟨i + 1, by simp, by omega, ⟨⟨f6, bn, c1, _, _, x.f4, r1, _, _, _, (HT6.out.setX0 hz n1 _).setR0 (by omega) n2 _, by have := HX.out.1.1; omega, by omega, by omega, fun k g n hk => by have := hM.2.2.2 k g n hk; omega⟩⟩⟩, by simp [intOf]; omega⟩
              · obtain ⟨f6, T6⟩ := HT5.out.new1 HFA.out.1 HFA.out.2.1 HFA.out.2.2.1 HFA.out.2.2.2
                have HT6 := Aside0.mk T6
                have e2 := T6.cx1
                have e3 := frozen_of_row wr w2.heap.size 1 _ _ T6.xr
                have e4 := T6.cr1
                have e5 := frozen_of_row wr (w2.heap.size + 1) 1 _ _ T6.rr
                clear T6
                go_wp2_with fail
                refine ⟨⟨i + 1, by simp, by omega, ⟨⟨f6, c0, bn, _, _, r0, x.f4, _, _, _, (HT6.out.setX1 hz n1 _).setR1 (by omega) n2 _, by omega, by have := HX.out.1.1; omega, by omega, fun k g n hk => by have := hM.2.2.2 k g n hk; omega⟩⟩⟩, by simp [intOf]; omega⟩
        · have HF := Aside0.mk (show PInternScript.portageref05_From.f (2 * x.f4.length + 2) x.f4 = some ([], false) by rw [from_f x.f4 _ (by omega) (by omega), if_neg hnd])
          have HND := Aside0.mk hnd
          clear hnd
          go_wp2_with fail
          refine (PInternScript.portageref05_From.calls (2 * x.f4.length + 2) A4 c4 x.f4 [] false w6 (Kd.C_below HC5.out H6.out.2) HX.out.2.1 HF.out).mono ?_
          rintro e w7 ⟨vn, rfl, hR7, hb7⟩
          obtain ⟨An, cn, rfl⟩ := Kd.R_slice hR7
          have H7 := Aside0.mk (And.intro hR7 hb7)
          have j7 := cell_below hb7 (Nat.lt_of_lt_of_le (Array.getElem?_eq_some_iff.1 HO.out.1).1 H6.out.2.size) j6
          clear hR7 hb7
          go_wp2_with fail
          have hC18 : Kd.string.C w7 (some ⟨k0, 0, none⟩) x.f4.length x.f4 := C_pre (m := List.replicate 64 mark) (by have h2 := (Kd.R_reads' (Kd.R_below H6.out.1 H7.out.2)).2.2; simpa using h2)
          refine (from_any (some ⟨k0, 0, none⟩) cl x.f4 w7 hC18 HX.out.1.2.2 (by omega)).mono ?_
          rintro e w8 hI
          rcases hI with ⟨hn, _⟩ | ⟨_, rfl, hb8⟩
          case inl => exact absurd hn HND.out
          have H8 := Aside0.mk (And.intro hb8 hb8)
          have j8 := cell_below hb8 (Nat.lt_of_lt_of_le (Nat.lt_of_lt_of_le (Array.getElem?_eq_some_iff.1 HO.out.1).1 H6.out.2.size) H7.out.2.size) j7
          clear hb8 hC18
          go_wp2_with fail
          have hR8 := Kd.R_below (Kd.R_below H6.out.1 H7.out.2) H8.out.2
          have hK48 := PInternScript.portagelaw05_kept.calls (x.f4.length + 65) (some ⟨k0, 0, none⟩) cl (x.f4 ++ List.replicate 64 mark) A4 c4 x.f4 true w8 (by have h2 := (Kd.R_reads' hR8).2.2; simpa using h2) (by simpa using hcl) (Kd.C_below HC5.out ((H6.out.2.trans (H7.out.2.mono H6.out.2.size)).trans (H8.out.2.mono (Nat.le_trans H6.out.2.size H7.out.2.size)))) HX.out.2.1 (kept_f x.f4 (x.f4.length + 65) (by omega) (by omega))
          rw [show (x.f4 ++ List.replicate 64 mark).length = x.f4.length + 64 by simp] at hK48
          refine hK48.mono ?_
          rintro e w9 ⟨rfl, hd9⟩
          have HOv := Aside0.mk (Ov.start (Kd.R_below hR8 hd9.below) (by simp : (x.f4 ++ List.replicate 64 mark).length = x.f4.length + 64))
          have H9 := Aside0.mk hd9.below
          clear hR8 hK48 hd9
          obtain ⟨V, hV⟩ : ∃ V, V = wr := ⟨_, rfl⟩
          subst hV
          go_wp2_with fail
          go_loopw [16] (fun v W => ∃ k : Nat, v = .int .i64 (k : Int) ∧ k ≤ x.f4.length + 64 ∧ Aside0 (Ov w9 w5.heap.size k0 (x.f4.length + 64) cl W)) (fun v _ => x.f4.length + 64 - (intOf v).toNat)
          case atStart => exact ⟨0, rfl, Nat.zero_le _, HOv⟩
          case round =>
            obtain ⟨k, rfl, hk, HOw⟩ := hrel
            by_cases hkl : k < x.f4.length + 64
            · have hl2 : (k : Int) < ((x.f4.length + 64 : Nat) : Int) := by omega
              obtain ⟨t, k1, k2⟩ := HOw.out.cell hkl
              go_wp2_with fail
              refine ⟨⟨k + 1, by go_num, by omega, ⟨HOw.out.put k _⟩⟩, by simp [intOf]; omega⟩
            · obtain rfl : k = x.f4.length + 64 := by omega
              have hz : w.heap.size ≤ w2.heap.size := Nat.le_trans H0.out.2.size H1.out.2.size
              have hl2 : ¬ ((x.f4.length + 64 : Nat) : Int) < ((x.f4.length + 64 : Nat) : Int) := by omega
              have HFA := Aside0.mk (HOw.out.bl (((H6.out.2.trans (H7.out.2.mono H6.out.2.size)).trans (H8.out.2.mono (Nat.le_trans H6.out.2.size H7.out.2.size))).trans (H9.out.mono (Nat.le_trans (Nat.le_trans H6.out.2.size H7.out.2.size) H8.out.2.size))) (Kd.R_base H6.out.1 k0 rfl))
              have HT6 := Aside0.mk (HT5.out.below HFA.out)
              go_wp2_with fail
              refine ⟨⟨i + 1, by simp, by omega, ⟨⟨f, c0, c1, _, _, r0, r1, _, _, _, HT6.out, by omega, by omega, by omega, fun k g n hk => by have := hM.2.2.2 k g n hk; omega⟩⟩⟩, by simp [intOf]; omega⟩
      by_cases h7 : kd = 7
      · subst h7
        have HT5 := Aside0.mk (HT.out.1.below HO.out.2)
        have hM := HT.out.2
        have hbd := HB.out.1
        rcases HON.out.1 with rfl | rfl
        · have HN5 := Aside0.mk (fun X (hX : Below w5.heap.size w5 X) => (new_at X).mono (R' := fun e w' => ∃ b' f6, e = .returned (.pointer (some ⟨b', 0, none⟩)) ∧ Tw w w2.heap.size (w2.heap.size + 1) f6 b' c1 (.pointer (some ⟨c0, 0, none⟩)) (.pointer (some ⟨c1, 0, none⟩)) v0 v1 (.slice none 0 0) v1 [] r1 u5 u6 hs ws ls ls w') (fun e w' ⟨b', he, hA, hb⟩ => let ⟨f6, T6⟩ := (HT5.out.below hX).new0 hb ((AtS.of hA).mono fun k hk => ⟨hk.1, by simp [Value.ownBlock]⟩) (Kd.R_nil _ _ _ _ _) (fun k hk => by simp [Value.ownBlock] at hk); ⟨b', f6, he, T6⟩))
          go_wp2_with fail
          refine (HN5.out _ (Below.refl _ _)).mono ?_
          rintro e w6 ⟨bn, f6, rfl, T6⟩
          have HT6 := Aside0.mk T6
          have e2 := T6.cx0
          have e3 := frozen_of_row w6 w2.heap.size 0 _ _ T6.xr
          have e4 := T6.cr0
          have e5 := frozen_of_row w6 (w2.heap.size + 1) 0 _ _ T6.rr
          have n1 : w2.heap.size + 1 ≠ w2.heap.size := by omega
          have n2 : w2.heap.size ≠ w2.heap.size + 1 := by omega
          clear T6
          go_wp2_with fail
          have hz : w.heap.size ≤ w2.heap.size := Nat.le_trans H0.out.2.size H1.out.2.size
          refine ⟨⟨i + 1, by simp, by omega, ⟨⟨f6, bn, c1, _, _, [], r1, _, _, _, (HT6.out.setX0 hz n1 _).setR0 (by omega) n2 _, by simp, by omega, by omega, fun k g n hk => by have := hM.2.2.2 k g n hk; omega⟩⟩⟩, by simp [intOf]; omega⟩
        · have HN5 := Aside0.mk (fun X (hX : Below w5.heap.size w5 X) => (new_at X).mono (R' := fun e w' => ∃ b' f6, e = .returned (.pointer (some ⟨b', 0, none⟩)) ∧ Tw w w2.heap.size (w2.heap.size + 1) f6 c0 b' (.pointer (some ⟨c0, 0, none⟩)) (.pointer (some ⟨c1, 0, none⟩)) v0 v1 v0 (.slice none 0 0) r0 [] u5 u6 hs ws ls ls w') (fun e w' ⟨b', he, hA, hb⟩ => let ⟨f6, T6⟩ := (HT5.out.below hX).new1 hb ((AtS.of hA).mono fun k hk => ⟨hk.1, by simp [Value.ownBlock]⟩) (Kd.R_nil _ _ _ _ _) (fun k hk => by simp [Value.ownBlock] at hk); ⟨b', f6, he, T6⟩))
          go_wp2_with fail
          refine (HN5.out _ (Below.refl _ _)).mono ?_
          rintro e w6 ⟨bn, f6, rfl, T6⟩
          have HT6 := Aside0.mk T6
          have e2 := T6.cx1
          have e3 := frozen_of_row w6 w2.heap.size 1 _ _ T6.xr
          have e4 := T6.cr1
          have e5 := frozen_of_row w6 (w2.heap.size + 1) 1 _ _ T6.rr
          have n1 : w2.heap.size + 1 ≠ w2.heap.size := by omega
          have n2 : w2.heap.size ≠ w2.heap.size + 1 := by omega
          clear T6
          go_wp2_with fail
          have hz : w.heap.size ≤ w2.heap.size := Nat.le_trans H0.out.2.size H1.out.2.size
          refine ⟨⟨i + 1, by simp, by omega, ⟨⟨f6, c0, bn, _, _, r0, [], _, _, _, (HT6.out.setX1 hz n1 _).setR1 (by omega) n2 _, by omega, by simp, by omega, fun k g n hk => by have := hM.2.2.2 k g n hk; omega⟩⟩⟩, by simp [intOf]; omega⟩
      · have q4 : (kd == 4) = false := by simp; omega
        have q6 : (kd == 6) = false := by simp; omega
        have q7 : (kd == 7) = false := by simp; omega
        have HT5 := Aside0.mk (HT.out.1.below HO.out.2)
        have hM := HT.out.2
        have hbd := HB.out.1
        have j0 : w5.cell? ⟨wr.heap.size, 0, none⟩ = some (.int .i64 x.f0) := by rw [cell_of_row _ _ 0 _ _ _ HO.out.1]; rfl
        have j1 : w5.cell? ⟨wr.heap.size, 1, none⟩ = some (.int .i64 x.f1) := by rw [cell_of_row _ _ 1 _ _ _ HO.out.1]; rfl
        have j2 : w5.cell? ⟨wr.heap.size, 2, none⟩ = some (.int .i64 x.f2) := by rw [cell_of_row _ _ 2 _ _ _ HO.out.1]; rfl
        have j3 : w5.cell? ⟨wr.heap.size, 3, none⟩ = some (.string x.f3) := by rw [cell_of_row _ _ 3 _ _ _ HO.out.1]; rfl
        have j4 : w5.cell? ⟨wr.heap.size, 4, none⟩ = some (.slice A4 x.f4.length c4) := by rw [cell_of_row _ _ 4 _ _ _ HO.out.1]; rfl
        have hk5 : kd = 0 ∨ kd = 1 ∨ kd = 2 ∨ kd = 3 ∨ kd = 5 := by have := HON.out.2; omega
        rcases HON.out.1 with rfl | rfl
        · have e0 := HT5.out.cx0
          have e1 := HT5.out.cr0
          have HS5 := Aside0.mk (fun X (hX : Below w5.heap.size w5 X) => (step_any w X (fun k => (f k = 0 ∧ w.heap.size ≤ k) ∧ k < X.heap.size) c0 r0 v0 x.f0 x.f1 x.f2 x.f3 A4 x.f4.length c4 kd hk5 (HT5.out.below hX).i0.lt (fun k hk => hk.1.2) (HT5.out.below hX).lo (HT5.out.below hX).s0 (fun k hk hc => by have := HT5.out.t0 k hk; have := hc.1.1; omega) HX.out.1.2.1 (by omega)).mono (R' := fun e w' => ∃ v' r' f6, e = .returned (.tuple #[v', .bool true]) ∧ Tw w w2.heap.size (w2.heap.size + 1) f6 c0 c1 (.pointer (some ⟨c0, 0, none⟩)) (.pointer (some ⟨c1, 0, none⟩)) v0 v1 v' v1 r' r1 u5 u6 hs ws ls ls w' ∧ r'.length ≤ r0.length + 1) (fun e w' ⟨v', r', he, hS⟩ => let ⟨f6, T6⟩ := (HT5.out.below hX).step0 hS; ⟨v', r', f6, he, T6, hS.le⟩))
          clear hk5
          go_wp2_with fail
          go_region_with (go_at_call 49; refine (HS5.out _ (by first | exact Below.refl _ _ | exact below_drew (Below.refl _ _))).mono ?_; rintro e w6 ⟨vn, rn, f6, rfl, T6, hle⟩; obtain ⟨Ab, cb, rfl⟩ := Kd.R_slice T6.s0; have HT6 := Aside0.mk (And.intro T6 hle); have e2 := T6.cr0; have e3 := frozen_of_row w6 (w2.heap.size + 1) 0 _ _ T6.rr; clear T6 hle)
          all_goals have hz : w.heap.size ≤ w2.heap.size := Nat.le_trans H0.out.2.size H1.out.2.size
          all_goals have n2 : w2.heap.size ≠ w2.heap.size + 1 := by omega
          all_goals
            go_wp2_with fail
            refine ⟨⟨i + 1, by simp, by omega, ⟨⟨f6, c0, c1, _, _, rn, r1, _, _, _, HT6.out.1.setR0 (by omega) n2 _, by have := HT6.out.2; omega, by omega, by omega, fun k g n hk => by have := hM.2.2.2 k g n hk; omega⟩⟩⟩, by simp [intOf]; omega⟩
        · have e0 := HT5.out.cx1
          have e1 := HT5.out.cr1
          have HS5 := Aside0.mk (fun X (hX : Below w5.heap.size w5 X) => (step_any w X (fun k => (f k = 1 ∧ w.heap.size ≤ k) ∧ k < X.heap.size) c1 r1 v1 x.f0 x.f1 x.f2 x.f3 A4 x.f4.length c4 kd hk5 (HT5.out.below hX).i1.lt (fun k hk => hk.1.2) (HT5.out.below hX).lo (HT5.out.below hX).s1 (fun k hk hc => by have := HT5.out.t1 k hk; have := hc.1.1; omega) HX.out.1.2.1 (by omega)).mono (R' := fun e w' => ∃ v' r' f6, e = .returned (.tuple #[v', .bool true]) ∧ Tw w w2.heap.size (w2.heap.size + 1) f6 c0 c1 (.pointer (some ⟨c0, 0, none⟩)) (.pointer (some ⟨c1, 0, none⟩)) v0 v1 v0 v' r0 r' u5 u6 hs ws ls ls w' ∧ r'.length ≤ r1.length + 1) (fun e w' ⟨v', r', he, hS⟩ => let ⟨f6, T6⟩ := (HT5.out.below hX).step1 hS; ⟨v', r', f6, he, T6, hS.le⟩))
          clear hk5
          go_wp2_with fail
          go_region_with (go_at_call 49; refine (HS5.out _ (by first | exact Below.refl _ _ | exact below_drew (Below.refl _ _))).mono ?_; rintro e w6 ⟨vn, rn, f6, rfl, T6, hle⟩; obtain ⟨Ab, cb, rfl⟩ := Kd.R_slice T6.s1; have HT6 := Aside0.mk (And.intro T6 hle); have e2 := T6.cr1; have e3 := frozen_of_row w6 (w2.heap.size + 1) 1 _ _ T6.rr; clear T6 hle)
          all_goals have hz : w.heap.size ≤ w2.heap.size := Nat.le_trans H0.out.2.size H1.out.2.size
          all_goals have n2 : w2.heap.size ≠ w2.heap.size + 1 := by omega
          all_goals
            go_wp2_with fail
            refine ⟨⟨i + 1, by simp, by omega, ⟨⟨f6, c0, c1, _, _, r0, rn, _, _, _, HT6.out.1.setR1 (by omega) n2 _, by omega, by have := HT6.out.2; omega, by omega, fun k g n hk => by have := hM.2.2.2 k g n hk; omega⟩⟩⟩, by simp [intOf]; omega⟩
    · obtain rfl : i = sc.length := by omega
      obtain ⟨f, c0, c1, v0, v1, r0, r1, hs, ws, ls, hT, hr0, hr1, hh, hn⟩ := HS.out.ex
      have HT := Aside0.mk (And.intro hT (And.intro hr0 (And.intro hr1 (And.intro hh hn))))
      obtain ⟨Ao, co, rfl⟩ := Kd.R_slice hT.oo
      obtain ⟨Aw, cw, rfl⟩ := Kd.R_slice hT.ww
      clear hT hr0 hr1 hh hn
      go_wp2_with fail
      refine (loose_calls wr w.heap.size Ao Aw co cw hs ws ls (Kd.R_mono HT.out.1.oo fun _ _ => trivial) HT.out.1.gg (Kd.R_mono HT.out.1.ww fun _ _ => trivial) HT.out.1.wn HT.out.1.lo.size (by have := HT.out.2.2.2.1; have := HB.out.1; omega) (fun k g n hk => by have := HT.out.2.2.2.2 k g n hk; have := HB.out.1; omega)).mono ?_
      rintro e w7 ⟨rfl, hK7⟩
      have hE := HT.out.1.en hK7
      have HKB := Aside0.mk (HT.out.1.lo.trans (hK7.below (fun j ⟨k, n, e⟩ => (HT.out.1.gg.lt e).1) HT.out.1.lo.size))
      have hbd := HB.out.1
      have hM := HT.out.2
      have hq0 : r0.length ≤ 1000000000000 := by omega
      have hq1 : r1.length ≤ 1000000000000 := by omega
      obtain ⟨A0, cc0, rfl⟩ := Kd.R_slice hE.s0
      obtain ⟨A1, cc1, rfl⟩ := Kd.R_slice hE.s1
      have HE := Aside0.mk hE
      have HI0 := Aside0.mk (fun X (hX : Below w7.heap.size w7 X) => items_en hX (hE.below hX).i0 hq0)
      have HI1 := Aside0.mk (fun X (hX : Below w7.heap.size w7 X) => items_en hX (hE.below hX).i1 hq1)
      have HS0 := Aside0.mk (fun X g (hX : Below w7.heap.size w7 X) h1 => same_en (g := g) hX h1 (hE.below hX).s0 hq0)
      have HS1 := Aside0.mk (fun X g (hX : Below w7.heap.size w7 X) h1 => same_en (g := g) hX h1 (hE.below hX).s1 hq1)
      have z0 := hE.x0
      have z1 := hE.x1
      have z2 := hE.y0
      have z3 := hE.y1
      clear hE hK7 hM hq0 hq1
      go_wp2_with fail
      go_region_with (first
        | (go_at_call 13; (with_reducible refine (HI0.out _ ?hb).mono ?_); (case hb => first | exact Below.refl _ _ | exact below_drew (Below.refl _ _)); rintro e w8 ⟨g0, rfl, hc8, hb8⟩; have z4 := (HE.out.below hb8).x1; have z5 := (HE.out.below hb8).y0; have z6 := (HE.out.below hb8).y1; have HB8 := Aside0.mk (And.intro hb8 hc8); clear hb8 hc8)
        | (go_at_call 44; (with_reducible refine (HS0.out _ _ ?hb ?hc).mono ?_); (case hb => first | exact HB8.out.1 | exact below_drew HB8.out.1); (case hc => first | exact HB8.out.2 | exact Kd.C_below HB8.out.2 (below_drew (Below.refl _ _))); rintro e w9 ⟨rfl, hb9⟩; have z7 := (HE.out.below hb9).x1; have z8 := (HE.out.below hb9).y1; have HB9 := Aside0.mk hb9; clear hb9)
        | (go_at_call 13; (with_reducible refine (HI1.out _ ?hb).mono ?_); (case hb => first | exact HB9.out | exact below_drew HB9.out); rintro e w10 ⟨g1, rfl, hc10, hb10⟩; have z9 := (HE.out.below hb10).y1; have HB10 := Aside0.mk (And.intro hb10 hc10); clear hb10 hc10)
        | (go_at_call 44; (with_reducible refine (HS1.out _ _ ?hb ?hc).mono ?_); (case hb => first | exact HB10.out.1 | exact below_drew HB10.out.1); (case hc => first | exact HB10.out.2 | exact Kd.C_below HB10.out.2 (below_drew (Below.refl _ _))); rintro e w11 ⟨rfl, hb11⟩; have HB11 := Aside0.mk hb11; clear hb11))
      all_goals
        go_wp2_with fail
        first
          | (go_ret; first | exact ⟨rfl, HKB.out.trans (HB11.out.mono HKB.out.size)⟩ | exact ⟨rfl, HKB.out.trans ((below_drew HB11.out).mono HKB.out.size)⟩)
          | (go_ret2; first | exact ⟨rfl, HKB.out.trans (HB11.out.mono HKB.out.size)⟩ | exact ⟨rfl, HKB.out.trans ((below_drew HB11.out).mono HKB.out.size)⟩)
          | go_outline
end Go.Proofs.Ytijmhegccakndaa
