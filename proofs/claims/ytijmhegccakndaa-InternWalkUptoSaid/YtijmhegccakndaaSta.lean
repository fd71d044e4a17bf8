/-
  An index and the reference's row beside it: what each step of InternWalk does to the two.
-/
import Derived.Test.YtijmhegccakndaaPw
import Derived.Test.YtijmhegccakndaaGone
namespace Go.Proofs.Ytijmhegccakndaa
open Go.RowKit Go.Maps Go.WideMaps
open Go.Proofs.YtijmhegccakndaaW.PrintWords Go.Proofs.YtijmhegccakndaaW.PrintMore
open PInternWalk

/-- all but the index's map, and the cells of an index's or of a list's kind, lies as it lay -/
structure Fr (bm : Nat) (W W' : World) : Prop where
  size : W.heap.size ≤ W'.heap.size
  same : ∀ (k : Nat) (o : Obj), W.heap[k]? = some o → k ≠ bm → (∀ cs e f, o = .cells cs e f → e ≠ 9 ∧ e ≠ 96) → W'.heap[k]? = some o
theorem Fr.refl (bm : Nat) (W : World) : Fr bm W W := ⟨Nat.le_refl _, fun _ _ h _ _ => h⟩
theorem Fr.trans {bm : Nat} {A B C : World} (h : Fr bm A B) (k : Fr bm B C) : Fr bm A C := ⟨Nat.le_trans h.size k.size, fun i o hi hn ho => k.same i o (h.same i o hi hn ho) hn ho⟩
theorem Fr.of_below {bm : Nat} {W W' : World} (h : Below W.heap.size W W') : Fr bm W W' := ⟨h.size, fun k _ hk _ _ => (h.block k (Array.getElem?_eq_some_iff.1 hk).1).trans hk⟩
theorem Fr.from {bm B : Nat} {W W' : World} (h : Fr bm W W') (hb : bm < B) : KeepsFrom B W W' := ⟨h.size, fun k o hB hk ho => h.same k o hk (by omega) fun cs e f e' => by rw [e'] at ho; cases ho⟩
theorem Fr.cells {bm k : Nat} {W W' : World} {cs : Array Value} {e : TypeId} (h : Fr bm W W') (hk : W.heap[k]? = some (.cells cs e (0, 0))) (hm : k ≠ bm) (h1 : e ≠ 9) (h2 : e ≠ 96) : W'.heap[k]? = some (.cells cs e (0, 0)) :=
  h.same k _ hk hm fun cs' e' f' he => by cases he; exact ⟨h1, h2⟩

/-- the blocks of an index and of the reference's row -/
theorem Ix.kind {W : World} {b bm : Nat} {vi : Value} {D : DataW Unit} {row : List ByteArray} (h : Ix W b bm vi D row) {k : Nat} (hk : Ix.S b bm vi k) : k = bm ∨ ∃ cs e, W.heap[k]? = some (.cells cs e (0, 0)) ∧ (e = 9 ∨ e = 96) := by
  rcases hk with rfl | rfl | hk
  · exact .inr ⟨_, _, h.block, .inr rfl⟩
  · exact .inl rfl
  · rcases h.items.2 with ⟨rfl, _⟩ | ⟨g, cap, cur, rfl, _, hg, _⟩
    · simp [Value.ownBlock] at hk
    · simp [Value.ownBlock] at hk
      subst hk
      exact .inr ⟨_, _, hg, .inl rfl⟩
theorem Kp.fr {bm : Nat} {W W' : World} {S : Nat → Prop} (h : Kp W W' S) (hS : ∀ k, S k → k = bm ∨ ∃ cs e, W.heap[k]? = some (.cells cs e (0, 0)) ∧ (e = 9 ∨ e = 96)) : Fr bm W W' :=
  ⟨h.size, fun k o hk hm ho => (h.block k (Array.getElem?_eq_some_iff.1 hk).1 fun hs => by
    rcases hS k hs with e | ⟨cs, e, h1, h2⟩
    · exact hm e
    · rw [h1] at hk
      cases hk
      have := ho cs e _ rfl
      rcases h2 with h2 | h2
      · exact this.1 h2
      · exact this.2 h2).trans hk⟩

/-- the index holds rI, the reference's row v holds rR; each in blocks of its own, all from n0 on -/
structure St (n0 b bm : Nat) (rI : List ByteArray) (v : Value) (rR : List ByteArray) (W : World) : Prop where
  ix : ∃ vi D, Ix W b bm vi D rI ∧ (∀ k, v.ownBlock = some k → ¬ Ix.S b bm vi k) ∧ (∀ k, vi.ownBlock = some k → n0 ≤ k)
  rr : Kd.string.R 9 W n0 (fun k => v.ownBlock = some k) v rR
  lb : n0 ≤ b
  lm : n0 ≤ bm
theorem St.ixd {n0 b bm : Nat} {rI rR : List ByteArray} {v : Value} {W : World} (h : St n0 b bm rI v rR W) : Ixd W b bm rI := by
  obtain ⟨vi, D, h1, _⟩ := h.ix
  exact ⟨vi, D, h1⟩
theorem own_lo {W : World} {n0 : Nat} {ok : Nat → Prop} {v : Value} {r : List ByteArray} (h : Kd.string.R 9 W n0 ok v r) (k : Nat) (hk : v.ownBlock = some k) : n0 ≤ k ∧ k < W.heap.size ∧ ∃ cs, W.heap[k]? = some (.cells cs 9 (0, 0)) := by
  have ho := Kd.own_of_R h
  refine ⟨(ho.lt k hk).1, (ho.lt k hk).2, ?_⟩
  exact own_typed ho k hk
theorem R_self {W : World} {n0 : Nat} {ok : Nat → Prop} {v : Value} {r : List ByteArray} (h : Kd.string.R 9 W n0 ok v r) : Kd.string.R 9 W n0 (fun k => v.ownBlock = some k) v r := Kd.R_of_own (Kd.own_of_R h) fun _ hk => hk

/-- a step of the index alone -/
theorem St.index {n0 b bm : Nat} {rI rI' rR : List ByteArray} {v vi vi' : Value} {D' : DataW Unit} {W W' : World} (h : St n0 b bm rI v rR W) (hv : ∃ D, Ix W b bm vi D rI) (hI : Ix W' b bm vi' D' rI') (hk : Kp W W' (Ix.S b bm vi)) (ho : vi'.ownBlock = vi.ownBlock ∨ ∃ g, vi'.ownBlock = some g ∧ W.heap.size ≤ g) :
    St n0 b bm rI' v rR W' ∧ Fr bm W W' ∧ Below n0 W W' := by
  obtain ⟨vi0, D0, h1, h2, h3⟩ := h.ix
  obtain ⟨D, hv⟩ := hv
  have hvi : vi0 = vi := by
    have := h1.block.symm.trans hv.block
    injection this with this
    injection this with this
    injection this with this
    injection this with _ this
    injection this with this
  subst hvi
  have hb : n0 ≤ W.heap.size := by have := h1.lt b (.inl rfl); have := h.lb; omega
  have hvl : ∀ k, v.ownBlock = some k → k < W.heap.size := fun k hk => (own_lo h.rr k hk).2.1
  refine ⟨⟨⟨vi', D', hI, fun k hk' hs => ?_, fun k hk' => ?_⟩, Kd.R_step h.rr fun k hk' hlt => hk.block k hlt (h2 k hk'), h.lb, h.lm⟩, hk.fr fun k hk' => hv.kind hk', hk.below (fun k hk' => ?_) hb⟩
  · rcases hs with e | e | hs
    · exact h2 k hk' (.inl e)
    · exact h2 k hk' (.inr (.inl e))
    · rcases ho with ho | ⟨g, ho, hg⟩
      · exact h2 k hk' (.inr (.inr (by rw [← ho, hs])))
      · rw [ho] at hs
        injection hs with hs
        have := hvl k hk'
        omega
  · rcases ho with ho | ⟨g, ho, hg⟩
    · exact h3 k (by rw [← ho, hk'])
    · rw [ho] at hk'
      injection hk' with hk'
      omega
  · rcases hk' with rfl | rfl | hk'
    · exact h.lb
    · exact h.lm
    · exact h3 k hk'
/-- a step of the reference's row alone -/
theorem St.ref {n0 b bm : Nat} {rI rR rR' : List ByteArray} {v v' : Value} {W W' : World} (h : St n0 b bm rI v rR W) (hR : Kd.string.R 9 W' n0 (fun k => v.ownBlock = some k ∨ W.heap.size ≤ k) v' rR') (hk : Kept W W' (fun k => v.ownBlock = some k)) :
    St n0 b bm rI v' rR' W' ∧ Fr bm W W' := by
  obtain ⟨vi, D, h1, h2, h3⟩ := h.ix
  have hs : ∀ k, Ix.S b bm vi k → k < W.heap.size ∧ W'.heap[k]? = W.heap[k]? := fun k hk' => ⟨h1.lt k hk', hk.2 k (h1.lt k hk') fun hv => h2 k hv hk'⟩
  refine ⟨⟨⟨vi, D, h1.kept fun k hk' => (hs k hk').2, fun k hk' hs' => ?_, h3⟩, R_self hR, h.lb, h.lm⟩, hk.1, fun k o hk' hm ho => (hk.2 k (Array.getElem?_eq_some_iff.1 hk').1 fun hv => ?_).trans hk'⟩
  · rcases hR.1 k hk' with hv | hv
    · exact h2 k hv hs'
    · have := (hs k hs').1
      omega
  · obtain ⟨_, _, cs, hc⟩ := own_lo h.rr k hv
    rw [hc] at hk'
    cases hk'
    exact (ho cs 9 _ rfl).1 rfl
/-- blocks laid, draws -/
theorem St.below {n0 b bm : Nat} {rI rR : List ByteArray} {v : Value} {W W' : World} (h : St n0 b bm rI v rR W) (hb : Below W.heap.size W W') : St n0 b bm rI v rR W' := by
  obtain ⟨vi, D, h1, h2, h3⟩ := h.ix
  exact ⟨⟨vi, D, h1.kept fun k hk => hb.block k (h1.lt k hk), h2, h3⟩, Kd.R_below h.rr hb, h.lb, h.lm⟩
/-- a store into a cell of another kind -/
theorem St.setCell {n0 b bm : Nat} {rI rR : List ByteArray} {v : Value} {W : World} (h : St n0 b bm rI v rR W) {p : Addr} {cs : Array Value} {t : TypeId} (hp : W.heap[p.block]? = some (.cells cs t (0, 0))) (t1 : t ≠ 96) (t2 : t ≠ 9) (u : Value) : St n0 b bm rI v rR (W.setCell p u) := by
  obtain ⟨vi, D, h1, h2, h3⟩ := h.ix
  refine ⟨⟨vi, D, h1.kept fun k hk => Below.heap_setCell _ _ _ _ fun e => ?_, h2, h3⟩, Kd.R_step h.rr fun k hk _ => Below.heap_setCell _ _ _ _ fun e => ?_, h.lb, h.lm⟩
  · rcases h1.kind hk with e' | ⟨cs', e', h5, h6⟩
    · subst e'
      obtain ⟨es, cl, hb, _⟩ := h1.map
      rw [e, hp] at hb; cases hb
    · rw [e, hp] at h5; cases h5
      rcases h6 with h6 | h6
      · exact t2 h6
      · exact t1 h6
  · obtain ⟨_, _, cs', hc⟩ := own_lo h.rr k hk
    rw [e, hp] at hc; cases hc
    exact t2 rfl
/-- the loop's book and new blocks -/
theorem St.own {n0 b bm B : Nat} {rI rR : List ByteArray} {v : Value} (hbm : bm < B) : OwnFrom B (fun (_ : Unit) W => St n0 b bm rI v rR W) := by
  intro _ W W' rw h hg hr
  obtain ⟨vi, D, h1, h2, h3⟩ := h.ix
  have hne : ∀ k cs e, W.heap[k]? = some (.cells cs e (0, 0)) → some k ≠ rw := fun k cs e hk he => by
    obtain ⟨_, o, ho, hc⟩ := hr k he.symm
    rw [hk] at ho; cases ho; cases hc
  refine ⟨⟨vi, D, h1.kept fun k hk => hg.block k (h1.lt k hk) ?_, h2, h3⟩, Kd.R_step h.rr fun k hk hlt => hg.block k hlt ?_, h.lb, h.lm⟩
  · rcases h1.kind hk with rfl | ⟨cs', e', h5, h6⟩
    · intro e
      have := (hr k e.symm).1
      omega
    · exact hne _ _ _ h5
  · obtain ⟨_, _, cs', hc⟩ := own_lo h.rr k hk
    exact hne _ _ _ hc

theorem add_st (W : World) (n0 b bm : Nat) (rI rR : List ByteArray) (v : Value) (t : ByteArray) (h : St n0 b bm rI v rR W) (hs : t.size ≤ maxLen) (hn : (rI.length + 1) * 16 ≤ 140737488355328) :
    Calls Try.prog 12 #[.pointer (some ⟨b, 0, none⟩), .string t] W fun e W' => (∃ k, e = .returned (.int .i64 k)) ∧ St n0 b bm (rowAdd rI t) v rR W' ∧ Fr bm W W' ∧ Below n0 W W' := by
  obtain ⟨vi, D, h1, _⟩ := h.ix
  by_cases hm : t ∈ rI
  · refine (add_old W b bm vi D rI t (posOf rI t) h1 (idxOf_get hm)).mono fun e w' ⟨he, hw⟩ => ?_
    subst hw
    unfold rowAdd
    rw [if_pos hm]
    exact ⟨⟨_, he⟩, h, Fr.refl _ _, Below.refl _ _⟩
  · refine (add_new W b bm vi D rI t h1 hs hm hn).mono fun e w' ⟨he, v', D', hI', hk, ho⟩ => ?_
    unfold rowAdd
    rw [if_neg hm]
    exact ⟨⟨_, he⟩, h.index ⟨D, h1⟩ hI' hk ho⟩
theorem cut_st (W : World) (n0 b bm : Nat) (rI rR : List ByteArray) (v : Value) (n : Int) (h : St n0 b bm rI v rR W) :
    Calls Try.prog 19 #[.pointer (some ⟨b, 0, none⟩), .int .i64 n] W fun e W' => e = .returned (.tuple #[]) ∧ St n0 b bm (cutRow rI n) v rR W' ∧ Fr bm W W' ∧ Below n0 W W' := by
  obtain ⟨vi, D, h1, _⟩ := h.ix
  by_cases hn : n.toNat < rI.length
  · refine (cut_some W b bm vi D rI n n.toNat h1 (by split <;> omega) hn).mono fun e w' ⟨he, v', D', hI', hk, ho⟩ => ?_
    exact ⟨he, h.index ⟨D, h1⟩ hI' hk (.inl ho)⟩
  · refine (cut_none W b bm vi D rI n (n.toNat : Int) h1 (by split <;> omega) (by omega)).mono fun e w' ⟨he, hw⟩ => ?_
    subst hw
    unfold cutRow
    rw [List.take_of_length_le (by omega)]
    exact ⟨he, h, Fr.refl _ _, Below.refl _ _⟩
theorem refAdd_st (w0 W : World) (b bm : Nat) (rI rR : List ByteArray) (v : Value) (t : ByteArray) (h : St w0.heap.size b bm rI v rR W) (hB : Below w0.heap.size w0 W) (hn : rR.length < 8796093022208) :
    Calls Try.prog 38 #[v, .string t] W fun e W' => ∃ v' n, e = .returned (.tuple #[v', .int .i64 n]) ∧ St w0.heap.size b bm rI v' (rowAdd rR t) W' ∧ Fr bm W W' ∧ Below w0.heap.size w0 W' := by
  refine (portageref05_Add.calls (rR.length + 1) _ v rR t (rowAdd rR t) (posOf rR t : Int) w0 W hB h.rr (add_f rR t _ hn (by omega))).mono fun e W' ⟨v', he, hR, hB', hk⟩ => ?_
  obtain ⟨h1, h2⟩ := h.ref hR hk
  exact ⟨v', _, he, h1, h2, hB'⟩
theorem refDone_st (w0 W : World) (b bm : Nat) (rI rR : List ByteArray) (v : Value) (a : S72) (h : St w0.heap.size b bm rI v rR W) (hB : Below w0.heap.size w0 W) (hn : rR.length < 8796093022208) :
    Calls Try.prog 41 #[v, .agg #[.bool a.f0, .int .i64 a.f1, .string a.f2]] W fun e W' => ∃ v', e = .returned v' ∧ St w0.heap.size b bm rI v' (doneRow rR a) W' ∧ Fr bm W W' ∧ Below w0.heap.size w0 W' := by
  refine (portageref05_Done.calls (rR.length + 1) _ v rR a.f0 a.f1 a.f2 (doneRow rR a) w0 W hB h.rr (done_f rR a _ hn (by omega))).mono fun e W' ⟨v', he, hR, hB', hk⟩ => ?_
  obtain ⟨h1, h2⟩ := h.ref hR hk
  exact ⟨v', he, h1, h2, hB'⟩
set_option maxRecDepth 100000 in
theorem done_st (W : World) (n0 b bm : Nat) (rI rR : List ByteArray) (v : Value) (a : S72) (h : St n0 b bm rI v rR W) (hb : n0 ≤ W.heap.size) (hs : a.f2.size ≤ maxLen) (hn : (rI.length + 1) * 16 ≤ 140737488355328) :
    Calls Try.prog 40 #[.pointer (some ⟨b, 0, none⟩), .agg #[.bool a.f0, .int .i64 a.f1, .string a.f2]] W fun e W' => e = .returned (.tuple #[]) ∧ St n0 b bm (doneRow rI a) v rR W' ∧ Fr bm W W' ∧ Below n0 W W' := by
  have H := Aside0.mk (h.below ((Below.refl _ W).alloc (Nat.le_refl _) (.cells #[.bool a.f0, .int .i64 a.f1, .string a.f2] 72)))
  have HF := Aside0.mk (Fr.of_below (bm := bm) ((Below.refl _ W).alloc (Nat.le_refl _) (.cells #[.bool a.f0, .int .i64 a.f1, .string a.f2] 72)))
  have HB := Aside0.mk ((Below.refl n0 W).alloc hb (.cells #[.bool a.f0, .int .i64 a.f1, .string a.f2] 72))
  have HS := Aside0.mk (And.intro hs hn)
  have HR : ∀ r, doneRow rI a = r → doneRow rI a = r := fun _ h => h
  unfold doneRow at HR
  obtain ⟨c, x, t⟩ := a
  dsimp only at H HF HB HS HR ⊢
  have HRR := Aside0.mk HR
  clear h hb hs hn HR
  cases c with
  | true =>
    go_enter Try.func40, Try.ntmps40
    go_wp2_with fail
    refine (cut_st _ n0 b bm rI rR v x H.out).mono ?_
    rintro e w2 ⟨rfl, h1, h2, h3⟩
    have HH := Aside0.mk (And.intro h1 (And.intro h2 h3))
    clear h1 h2 h3
    go_wp2_with fail
    refine bodyPost_ret (results_none rfl _ _ _) rfl ?_
    exact ⟨rfl, HH.out.1, HF.out.trans HH.out.2.1, HB.out.trans HH.out.2.2⟩
  | false =>
    go_enter Try.func40, Try.ntmps40
    go_wp2_with fail
    refine (add_st _ n0 b bm rI rR v t H.out HS.out.1 HS.out.2).mono ?_
    rintro e w2 ⟨⟨q, rfl⟩, h1, h2, h3⟩
    have HH := Aside0.mk (And.intro h1 (And.intro h2 h3))
    clear h1 h2 h3
    go_wp2_with fail
    go_end0
    exact ⟨rfl, HH.out.1, HF.out.trans HH.out.2.1, HB.out.trans HH.out.2.2⟩
end Go.Proofs.Ytijmhegccakndaa
