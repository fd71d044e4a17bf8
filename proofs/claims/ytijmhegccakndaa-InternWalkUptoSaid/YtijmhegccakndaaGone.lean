/-
  gone: a walk through the whole index.
-/
import Derived.Test.YtijmhegccakndaaAll
namespace Go.Proofs.Ytijmhegccakndaa
open Go.RowKit Go.Maps Go.WideMaps
open Go.Proofs.YtijmhegccakndaaW.PrintWords Go.Proofs.YtijmhegccakndaaW.PrintMore
attribute [local go_sem] Oper.semAt_some

theorem Ixd.unique {W : World} {b bm : Nat} {row row' : List ByteArray} (h : Ixd W b bm row) (h' : Ixd W b bm row') : row = row' := by
  obtain ⟨A, c, h1, _, h2⟩ := h.slice
  obtain ⟨A', c', h1', _, h2'⟩ := h'.slice
  have he := h1.symm.trans h1'
  injection he with he
  injection he with hA hl _
  subst hA
  apply List.ext_getElem?
  intro i
  by_cases hi : i < row.length
  · obtain ⟨t, ht⟩ : ∃ t, row[i]? = some t := ⟨_, List.getElem?_eq_getElem hi⟩
    obtain ⟨t', ht'⟩ : ∃ t, row'[i]? = some t := ⟨_, List.getElem?_eq_getElem (by omega)⟩
    obtain ⟨g, e, hc⟩ := h2 i t ht
    obtain ⟨g', e', hc'⟩ := h2' i t' ht'
    rw [e] at e'
    injection e' with e'
    injection e' with e'
    subst e'
    have := hc.symm.trans hc'
    injection this with this
    injection this with this
    rw [ht, ht', this]
  · rw [List.getElem?_eq_none (by omega), List.getElem?_eq_none (by omega)]

/-- a block of cells lies as it lies -/
theorem ownFrom_block {β : Type} {B k : Nat} (o : β → Obj) (hk : k < B) : OwnFrom B (fun s W => W.heap[k]? = some (o s)) := fun s W W' row hs hg hr =>
  (hg.block k (Array.getElem?_eq_some_iff.1 hs).1 (fun e => by have := (hr k e.symm).1; omega)).trans hs
theorem nxt_own {B b bm n0 : Nat} (hbm : bm < B) (pre : List (Int × ByteArray)) (x : Int × ByteArray) : OwnFrom B (fun (_ : Unit) W => Nxt b bm n0 pre x W) := fun s W W' rw h hg hr => by
  obtain ⟨h1, h2, row, h3, h4⟩ := h
  exact ⟨h1, h2, row, Ixd.own hbm () _ _ _ h3 hg hr, h4⟩
theorem ran_own {B b bm n0 : Nat} (hbm : bm < B) : OwnFrom B (Ran b bm n0) := fun s W W' rw h hg hr => by
  obtain ⟨row, h3, h4⟩ := h
  exact ⟨row, Ixd.own hbm () _ _ _ h3 hg hr, h4⟩
theorem Ixd.lt {W : World} {b bm : Nat} {row : List ByteArray} (h : Ixd W b bm row) : b < W.heap.size ∧ bm < W.heap.size := by
  obtain ⟨v, D, hI⟩ := h
  exact ⟨hI.lt b (.inl rfl), hI.lt bm (.inr (.inl rfl))⟩
theorem Ixd.below {W W' : World} {b bm : Nat} {row : List ByteArray} (h : Ixd W b bm row) (hb : Below W.heap.size W W') : Ixd W' b bm row := by
  obtain ⟨v, D, hI⟩ := h
  exact ⟨v, D, hI.kept fun k hk => hb.block k (hI.lt k hk)⟩

theorem alloc4 (w : World) (a b c d : Obj) : ((((w.alloc a).alloc b).alloc c).alloc d).heap[w.heap.size]? = some a ∧ ((((w.alloc a).alloc b).alloc c).alloc d).heap[w.heap.size + 1]? = some b ∧ ((((w.alloc a).alloc b).alloc c).alloc d).heap[w.heap.size + 1 + 1]? = some c ∧
    ((((w.alloc a).alloc b).alloc c).alloc d).heap[w.heap.size + 1 + 1 + 1]? = some d ∧ Below w.heap.size w ((((w.alloc a).alloc b).alloc c).alloc d) ∧ ((((w.alloc a).alloc b).alloc c).alloc d).heap.size = w.heap.size + 4 := by
  have h : ∀ k : Nat, ((((w.alloc a).alloc b).alloc c).alloc d).heap[k]? = ((((w.heap.push a).push b).push c).push d)[k]? := fun k => rfl
  refine ⟨?_, ?_, ?_, ?_, ((((Below.refl _ w).alloc (Nat.le_refl _) _).alloc (by simp) _).alloc (by simp; omega) _).alloc (by simp; omega) _, by simp⟩
  all_goals
    rw [h]
    simp only [Array.getElem?_push, Array.size_push]
    repeat (first | (rw [if_pos (by omega)]; done) | rw [if_neg (by omega)])
    try simp
theorem Ixd.setCell {W : World} {b bm : Nat} {row : List ByteArray} (h : Ixd W b bm row) {p : Addr} {cs : Array Value} {t : TypeId} (hp : W.heap[p.block]? = some (.cells cs t (0, 0))) (h1 : t ≠ 96) (h2 : t ≠ 9) (u : Value) : Ixd (W.setCell p u) b bm row := by
  obtain ⟨v, D, hI⟩ := h
  refine ⟨v, D, hI.kept fun k hk => Below.heap_setCell _ _ _ _ fun e => ?_⟩
  subst e
  rcases hk with e | e | hk
  · rw [e, hI.block] at hp; cases hp; exact h1 rfl
  · obtain ⟨es, cl, hb, _⟩ := hI.map
    rw [e, hb] at hp; cases hp
  · rcases hI.items.2 with ⟨rfl, _⟩ | ⟨g, cap, cur, rfl, _, hgh, _⟩
    · simp [Value.ownBlock] at hk
    · simp [Value.ownBlock] at hk
      rw [← hk, hgh] at hp; cases hp; exact h2 rfl
/-- between two rounds of gone -/
structure GoneI (w : World) (b bm : Nat) (row : List ByteArray) (pre : List (Int × ByteArray)) (W : World) : Prop where
  x : W.heap[w.heap.size]? = some (.cells #[.pointer (some ⟨b, 0, none⟩)] 23)
  r : W.heap[w.heap.size + 1]? = some (.cells #[.int .i64 0] 3)
  n : W.heap[w.heap.size + 1 + 1]? = some (.cells #[.int .i64 (pre.length : Int)] 3)
  c : W.heap[w.heap.size + 1 + 1 + 1]? = some (.cells #[.pointer (some ⟨b, 0, none⟩)] 23)
  ix : Ixd W b bm row
  bl : Below w.heap.size w W
  le : pre.length ≤ row.length
theorem GoneI.own {w : World} {b bm B : Nat} {row : List ByteArray} (hbm : bm < B) (hB : w.heap.size + 4 ≤ B) : OwnFrom B (GoneI w b bm row) := fun s W W' rw h hg hr =>
  ⟨ownFrom_block (fun _ : Unit => _) (by omega) () _ _ _ h.x hg hr, ownFrom_block (fun _ : Unit => _) (by omega) () _ _ _ h.r hg hr, ownFrom_block (fun _ : Unit => _) (by omega) () _ _ _ h.n hg hr, ownFrom_block (fun _ : Unit => _) (by omega) () _ _ _ h.c hg hr, Ixd.own hbm () _ _ _ h.ix hg hr, ownFrom_below (Nat.le_refl _) (by omega) () _ _ _ h.bl hg hr, h.le⟩

set_option maxRecDepth 100000 in
set_option maxHeartbeats 2000000 in
theorem gone_calls (w : World) (b bm : Nat) (row : List ByteArray) (h : Ixd w b bm row) :
    Calls Try.prog 43 #[.pointer (some ⟨b, 0, none⟩)] w fun e W' => e = .returned (.int .i64 (row.length : Int)) ∧ Below w.heap.size w W' := by
  have H := Aside0.mk h
  clear h
  refine (callsIn_wide (n := 5)).1 ?_
  refine callsIn_of_wp_marks Try.func43 rfl trivial ?_ rfl
  simp only [Try.ntmps43, List.size_toArray, List.length_cons, List.length_nil, Nat.reduceAdd, Nat.reduceSub, Array.replicate_succ, Array.replicate_zero, List.push_toArray, List.append_toArray, List.nil_append, List.cons_append]
  refine wpIn_wide.2 ?_
  go_wp2_with fail
  refine (all_calls _ b).mono ?_
  rintro e w1 ⟨rfl, hw1⟩
  go_wp2_with fail
  obtain ⟨a1, a2, a3, a4, a5, a6⟩ := alloc4 w (.cells #[.pointer (some ⟨b, 0, none⟩)] 23) (.cells #[.int .i64 0] 3) (.cells #[.int .i64 0] 3) (.cells #[.pointer (some ⟨b, 0, none⟩)] 23)
  rw [hw1] at a1 a2 a3 a4 a5 a6
  have HG := Aside0.mk (show GoneI w b bm row [] w1 from ⟨a1, a2, a3, a4, H.out.below a5, a5, Nat.zero_le _⟩)
  have HL := Aside0.mk H.out.lt
  clear hw1 a1 a2 a3 a4 a5
  refine (wpIn_wide (n := 5)).1 (wp_rf (n := 5) rfl (by omega) (gf := 52) (lb := #[.pointer (some ⟨w.heap.size + 1 + 1 + 1, 0, none⟩)]) rfl trivial (enters_of Try.func52 (by kernel_rfl) rfl) (encs := enc2) (X := Nxt b bm row.length) (E := Ran b bm row.length)
    (GoneI w b bm row) (fun _ _ => False)
    (all_iter 4 b bm (w.heap.size + 1 + 1 + 1) row.length (by omega) _ (fun pre W h => ⟨by simp [World.cell?, h.c], row, h.ix⟩) (fun W h => ⟨row, h.ix, rfl⟩)) ?ps
    (GoneI.own (by have := HL.out; omega) (by omega)) (nxt_own (by have := HL.out; omega)) (ran_own (by have := HL.out; omega)) (fun _ _ _ _ _ h _ _ => h) HG.out ?a1 ?assign ?body ?done ?stop)
  case ps => exact fun _ => rfl
  case assign =>
    intro l x W K hK
    gi_wp2
    exact hK
  case body =>
    rintro l pre ⟨x1, t⟩ W hI ⟨hx1, hlt, row', hix', ht⟩
    obtain rfl := hI.ix.unique hix'
    have hx1' : x1 = (pre.length : Int) := hx1
    subst hx1'
    have HI := Aside0.mk hI
    obtain ⟨v, D, hix⟩ := hI.ix
    have c0 : W.cell? ⟨w.heap.size, 0, none⟩ = some (.pointer (some ⟨b, 0, none⟩)) := by simp [World.cell?, hI.x]
    have cn : W.cell? ⟨w.heap.size + 1 + 1, 0, none⟩ = some (.int .i64 (pre.length : Int)) := by simp [World.cell?, hI.n]
    have fn : W.frozen? ⟨w.heap.size + 1 + 1, 0, none⟩ = false := by simp [World.frozen?, hI.n]
    have HX := Aside0.mk (And.intro hix (show row[pre.length]? = some t from ht))
    obtain ⟨_, _, _, hm, _⟩ := hI.ix.slice
    have hlr : pre.length < row.length := (List.getElem?_eq_some_iff.1 ht).1
    have htt : (t.toList != t.toList) = false := by simp
    have hll : (pre.length : Int) ≤ 9223372036854775806 := by omega
    have HLR := Aside0.mk hlr
    clear hI hix hix' ht hx1 hlt hlr
    gi_wp2_with (refine ⟨trivial, ?_⟩; gi_at_call 17; refine (CallsIn.inRound l (callsIn_wide.2 (at_yes W b bm v D row t pre.length HX.out.1 HX.out.2))).mono ?_; rintro e w' ⟨rfl, rfl⟩)
    have hI := HI.out
    refine ⟨(KeepsOthers.setCell _ _ _).from _, (Below.heap_setCell _ _ _ _ (by simp; omega)).trans hI.x, (Below.heap_setCell _ _ _ _ (by simp)).trans hI.r, ?_, (Below.heap_setCell _ _ _ _ (by simp)).trans hI.c, hI.ix.setCell hI.n (by decide) (by decide) _, hI.bl.setCell (p := ⟨_, 0, none⟩) (by simp; omega) _, by have := HLR.out; simp; omega⟩
    rw [heap_set hI.n]
    simp
  case done =>
    rintro D pre W hD hI ⟨row', hix', hend⟩ hK
    replace hD : w1.heap.size ≤ D := by omega
    obtain rfl := hI.ix.unique hix'
    have HI := Aside0.mk hI
    have cn : W.cell? ⟨w.heap.size + 1 + 1, 0, none⟩ = some (.int .i64 (pre.length : Int)) := by simp [World.cell?, hI.n]
    have fr : W.frozen? ⟨w.heap.size + 1, 0, none⟩ = false := by simp [World.frozen?, hI.r]
    have cr : W.cell? ⟨w.heap.size + 1, 0, none⟩ = some (.int .i64 0) := by simp [World.cell?, hI.r]
    have HK := Aside0.mk hK
    have HE := Aside0.mk (show pre.length = row.length by have := hI.le; omega)
    clear hI hK hix' hend
    go_wp2_with fail
    have hK' := (KeepsOthers.setCell W ⟨w.heap.size + 1, 0, none⟩ (.int .i64 (pre.length : Int))).same D _ HK.out rfl
    refine ⟨by simp, .inl ⟨_, _, rfl, run_takeDeferred hK', ?_⟩⟩
    have hc5 := cell_kept (World.cell?_setCell_same' W ⟨w.heap.size + 1, 0, none⟩ (.int .i64 (pre.length : Int)) (by rw [cr]; rfl)) (grownBy_putObj' _ D (.deferred none)) (fun r e => by cases e; exact ⟨_, hK', rfl⟩)
    refine ⟨.int .i64 (pre.length : Int), ?_, by rw [HE.out], (HI.out.bl.setCell (p := ⟨w.heap.size + 1, 0, none⟩) (by simp) _).trans (belowK_b (w := w) (Nat.le_refl _) _ D _ _ (by omega) hK' rfl rfl)⟩
    simp [results, Try.f43, go_sem, hc5]
  case stop =>
    intro D c W _ h _
    exact h.elim
end Go.Proofs.Ytijmhegccakndaa
