/-
  InternWalk between two rounds of the walk.
-/
import Derived.Test.YtijmhegccakndaaSta
import Derived.StillTailTactics
import Derived.ControlIn
namespace Go.Proofs.Ytijmhegccakndaa
open Go.RowKit Go.Maps Go.WideMaps
open Go.Proofs.YtijmhegccakndaaW.PrintWords Go.Proofs.YtijmhegccakndaaW.PrintMore
open PInternWalk

theorem alloc5 (w : World) (a b c d f : Obj) : (((((w.alloc a).alloc b).alloc c).alloc d).alloc f).heap[w.heap.size]? = some a ∧ (((((w.alloc a).alloc b).alloc c).alloc d).alloc f).heap[w.heap.size + 1]? = some b ∧ (((((w.alloc a).alloc b).alloc c).alloc d).alloc f).heap[w.heap.size + 1 + 1]? = some c ∧
    (((((w.alloc a).alloc b).alloc c).alloc d).alloc f).heap[w.heap.size + 1 + 1 + 1]? = some d ∧ (((((w.alloc a).alloc b).alloc c).alloc d).alloc f).heap[w.heap.size + 1 + 1 + 1 + 1]? = some f ∧ Below w.heap.size w (((((w.alloc a).alloc b).alloc c).alloc d).alloc f) ∧ (((((w.alloc a).alloc b).alloc c).alloc d).alloc f).heap.size = w.heap.size + 5 := by
  have h : ∀ k : Nat, (((((w.alloc a).alloc b).alloc c).alloc d).alloc f).heap[k]? = (((((w.heap.push a).push b).push c).push d).push f)[k]? := fun k => rfl
  refine ⟨?_, ?_, ?_, ?_, ?_, (((((Below.refl _ w).alloc (Nat.le_refl _) _).alloc (by simp) _).alloc (by simp; omega) _).alloc (by simp; omega) _).alloc (by simp; omega) _, by simp⟩
  all_goals
    rw [h]
    simp only [Array.getElem?_push, Array.size_push]
    repeat (first | (rw [if_pos (by omega)]; done) | rw [if_neg (by omega)])
    try simp
/-- what the law's own blocks hold: bx the box that the walk has caught, ds the marks -/
structure Lw (w : World) (tv : Array Value) (bx : Option Nat) (ds : List Nat) (W : World) : Prop where
  t : W.heap[w.heap.size]? = some (.cells tv 64)
  r : W.heap[w.heap.size + 1]? = some (.cells #[.bool false] 4)
  x : W.heap[w.heap.size + 1 + 1 + 1 + 1]? = some (.cells #[.pointer (some ⟨w.heap.size + 1 + 1 + 1, 0, none⟩)] 23)
  c : ∀ k, bx = some k → W.heap[k]? = some (.cells #[.pointer (some ⟨w.heap.size + 1 + 1 + 1, 0, none⟩)] 23) ∧ k ≠ w.heap.size + 1 + 1
  d : ∀ D, D ∈ ds → W.heap[D]? = some (.deferred (some [])) ∧ D ≠ w.heap.size + 1 + 1
  bl : Below w.heap.size w W
theorem Lw.fr {w W W' : World} {tv : Array Value} {bx : Option Nat} {ds : List Nat} (h : Lw w tv bx ds W) (hf : Fr (w.heap.size + 1 + 1) W W') (hb : Below w.heap.size w W') : Lw w tv bx ds W' :=
  ⟨hf.cells h.t (by omega) (by decide) (by decide), hf.cells h.r (by omega) (by decide) (by decide), hf.cells h.x (by omega) (by decide) (by decide), fun k hk => ⟨hf.cells (h.c k hk).1 (h.c k hk).2 (by decide) (by decide), (h.c k hk).2⟩,
    fun D hD => ⟨hf.same D _ (h.d D hD).1 (h.d D hD).2 (fun _ _ _ e => by cases e), (h.d D hD).2⟩, hb⟩
/-- the law's blocks, the index and the reference's row -/
abbrev Inv (w : World) (tv : Array Value) (bx : Option Nat) (ds : List Nat) (rI : List ByteArray) (v : Value) (rR : List ByteArray) (W : World) : Prop := Lw w tv bx ds W ∧ St w.heap.size (w.heap.size + 1 + 1 + 1) (w.heap.size + 1 + 1) rI v rR W
theorem Inv.below {w W W' : World} {tv : Array Value} {bx : Option Nat} {ds : List Nat} {rI rR : List ByteArray} {v : Value} (h : Inv w tv bx ds rI v rR W) (hb : Below W.heap.size W W') : Inv w tv bx ds rI v rR W' :=
  ⟨h.1.fr (Fr.of_below hb) (h.1.bl.trans (hb.mono h.1.bl.size)), h.2.below hb⟩
theorem new_st (w : World) (tv : Array Value) (W : World)
    (hW : (((w.alloc (.cells tv 64)).alloc (.cells #[.bool false] 4)).alloc (.map #[] 0)).alloc (.cells #[.map (some (w.heap.size + 1 + 1)), .slice none 0 0] 96) = W) :
    W.heap.size = w.heap.size + 1 + 1 + 1 + 1 ∧ Inv w tv none [] [] (.slice none 0 0) [] (W.alloc (.cells #[.pointer (some ⟨w.heap.size + 1 + 1 + 1, 0, none⟩)] 23)) := by
  obtain ⟨a1, a2, _, a4, a5, a6, _⟩ := alloc5 w (.cells tv 64) (.cells #[.bool false] 4) (.map #[] 0) (.cells #[.map (some (w.heap.size + 1 + 1)), .slice none 0 0] 96) (.cells #[.pointer (some ⟨w.heap.size + 1 + 1 + 1, 0, none⟩)] 23)
  have hm : (((((w.alloc (.cells tv 64)).alloc (.cells #[.bool false] 4)).alloc (.map #[] 0)).alloc (.cells #[.map (some (w.heap.size + 1 + 1)), .slice none 0 0] 96)).alloc (.cells #[.pointer (some ⟨w.heap.size + 1 + 1 + 1, 0, none⟩)] 23)).ownsMap Try.prog 9 (plainElem Try.prog 3) ((w.alloc (.cells tv 64)).alloc (.cells #[.bool false] 4)).heap.size 0 (.map [] : DataW Unit) :=
    ((World.ownsMap_made ((w.alloc (.cells tv 64)).alloc (.cells #[.bool false] 4)) Try.prog 9 (plainElem Try.prog 3)).alloc _).alloc _
  have hs : ((w.alloc (.cells tv 64)).alloc (.cells #[.bool false] 4)).heap.size = w.heap.size + 1 + 1 := by simp
  rw [hs] at hm
  have hz : W.heap.size = w.heap.size + 1 + 1 + 1 + 1 := by rw [← hW]; simp
  rw [hW] at a1 a2 a4 a5 a6 hm
  exact ⟨hz, ⟨a1, a2, a5, (fun k e => by cases e), (fun D hD => by cases hD), a6⟩, ⟨.slice none 0 0, .map [], ⟨a4, hm, Agree.empty, World.ownsRow_nil _ _ _ _⟩, fun k hk => by simp [Value.ownBlock] at hk, fun k hk => by simp [Value.ownBlock] at hk⟩, Kd.R_nil _ _ _ _ _, by omega, by omega⟩
theorem Inv.box {w W : World} {tv : Array Value} {ds : List Nat} {rI rR : List ByteArray} {v : Value} (h : Inv w tv none ds rI v rR W) : Inv w tv (some W.heap.size) ds rI v rR (W.alloc (.cells #[.pointer (some ⟨w.heap.size + 1 + 1 + 1, 0, none⟩)] 23)) := by
  have h1 := h.below ((Below.refl _ W).alloc (Nat.le_refl _) (.cells #[.pointer (some ⟨w.heap.size + 1 + 1 + 1, 0, none⟩)] 23))
  refine ⟨⟨h1.1.t, h1.1.r, h1.1.x, fun k e => ?_, h1.1.d, h1.1.bl⟩, h1.2⟩
  injection e with e
  subst e
  refine ⟨World.alloc_heap_new _ _, ?_⟩
  have := (Array.getElem?_eq_some_iff.1 h.1.x).1
  omega

set_option maxRecDepth 100000 in
theorem cmpNil (bx : Nat) (W : World) : (binOp .eql 68 (.func (.func 52) #[] #[.pointer (some ⟨bx, 0, none⟩)]) .nilFunc).run Try.prog W = .ok (.bool false) W := by kernel_rfl
theorem cell_act {w : World} {A : Option Addr} {l : List S72} (HR : Kd.C k72 w A l.length l) {k : Nat} {a : S72} (h : l[k]? = some a) : ∃ ad, A = some ad ∧ w.cell? (ad.add (k * 3)) = some (.bool a.f0) ∧ w.cell? ⟨(ad.add (k * 3)).block, (ad.add (k * 3)).off + 1, none⟩ = some (.int .i64 a.f1) ∧ w.cell? ⟨(ad.add (k * 3)).block, (ad.add (k * 3)).off + 2, none⟩ = some (.string a.f2) := by
  have hlt : k < l.length := (List.getElem?_eq_some_iff.1 h).1
  obtain ⟨ad, e, c0, c1, c2⟩ := at_T72 HR (k : Int) (by omega) (by omega)
  rw [rd_act h, Int.toNat_natCast] at c0 c1 c2
  exact ⟨ad, e, c0, c1, c2⟩
theorem fold_length (l : List S72) : ∀ r : List ByteArray, (l.foldl doneRow r).length ≤ r.length + l.length := by
  induction l with
  | nil => intro r; simp
  | cons a l ih => intro r; have := ih (doneRow r a); have := doneRow_length r a; simp; omega
theorem fold_snoc {l : List S72} {k : Nat} {a : S72} (h : l[k]? = some a) (r : List ByteArray) : (l.take (k + 1)).foldl doneRow r = doneRow ((l.take k).foldl doneRow r) a := by
  rw [List.take_add_one, h, List.foldl_append]; rfl
/-- all orders of a region come to one frame -/
theorem reg_cut {F : Fence} {n : Nat} {P : Program} {c : Code} {Q : Exit → Act → World → Prop} {a : Act} {w : World} (A : Act) (S : World → Prop) (h1 : c.wpIn F n P (Exit.then (fun a' w' => a' = A ∧ S w') (fun _ _ _ => False)) a w) (h2 : ∀ w', S w' → Q .normal A w') : c.wpIn F n P Q a w :=
  wpIn_mono h1 fun e a' w' h => by
    cases e with
    | normal => obtain ⟨rfl, hs⟩ := h; exact h2 _ hs
    | exit id => exact h.elim
    | goto t => exact h.elim
    | ret => exact h.elim
    | panic c => exact h.elim
    | outgrown => exact h.elim
theorem heap72 : Kd.Heap k72 := Kd.heap_iso _ (Kd.heap_pair Kd.heap_bool (Kd.heap_pair (Kd.heap_int _) Kd.heap_string))
def toS (x : Int × ByteArray) : S78 := ⟨x.1, x.2⟩
theorem St.map_ne {n0 b bm : Nat} {rI rR : List ByteArray} {v : Value} {W : World} (h : St n0 b bm rI v rR W) {k : Nat} {cs : Array Value} {e : TypeId} (hk : W.heap[k]? = some (.cells cs e (0, 0))) : k ≠ bm := by
  obtain ⟨vi, D, h1, _⟩ := h.ix
  obtain ⟨es, cl, hb, _⟩ := h1.map
  intro e
  subst e
  rw [hb] at hk; cases hk
theorem R78_kind {W : World} {n0 : Nat} {ok : Nat → Prop} {v : Value} {xs : List S78} (h : Kd.R k78 78 W n0 ok v xs) (k : Nat) (hk : v.ownBlock = some k) : ∃ cs, W.heap[k]? = some (.cells cs 78 (0, 0)) := by
  obtain ⟨inner, ho⟩ := Kd.R_own h
  exact own_typed ho k hk
theorem R78_self {W : World} {n0 : Nat} {ok : Nat → Prop} {v : Value} {xs : List S78} (h : Kd.R k78 78 W n0 ok v xs) : Kd.R k78 78 W n0 (fun k => v.ownBlock = some k) v xs :=
  ⟨fun _ hk => hk, h.2.imp_ fun _ _ hp => by rw [k78_openM hp]; exact k78_mkM _ _ _ _⟩
theorem cell_giv {w : World} {A : Option Addr} {l : List S78} (HR : Kd.C k78 w A l.length l) {k : Nat} {a : S78} (h : l[k]? = some a) : ∃ ad, A = some ad ∧ w.cell? (ad.add (k * 2)) = some (.int .i64 a.f0) ∧ w.cell? ⟨(ad.add (k * 2)).block, (ad.add (k * 2)).off + 1, none⟩ = some (.string a.f1) := by
  have hlt : k < l.length := (List.getElem?_eq_some_iff.1 h).1
  obtain ⟨ad, e, c0, c1⟩ := at_T78 HR (k : Int) (by omega) (by omega)
  have hr : rd_T78 l (k : Int) = a := by simp [rd_T78, List.getD_eq_getElem?_getD, h]
  rw [hr, Int.toNat_natCast] at c0 c1
  exact ⟨ad, e, c0, c1⟩

/-- one round, as the law sees it -/
theorem round_pre {acts : List S72} {stop : Int} {n0 k M : Nat} {row next : List ByteArray} {want : List S78} {pre : List (Int × ByteArray)} {t : ByteArray} (hM : row.length + k ≤ M) (hM2 : M < 8796093022208)
    (h : portageref05_Walk.l0 k row acts stop (pre.map toS) (n0 : Int) (pre.length : Int) = some (want, next)) (h1 : pre.length < n0) (ht : row[pre.length]? = some t) :
    want[pre.length]? = some ⟨(pre.length : Int), t⟩ ∧ (((pre.length : Int) + 1 = stop ∧ want.length = pre.length + 1 ∧ next = actRow acts row pre.length) ∨
      ((pre.length : Int) + 1 ≠ stop ∧ ∃ k', (actRow acts row pre.length).length + k' ≤ M ∧ portageref05_Walk.l0 k' (actRow acts row pre.length) acts stop ((pre ++ [((pre.length : Int), t)]).map toS) (n0 : Int) ((pre ++ [((pre.length : Int), t)]).length : Int) = some (want, next))) := by
  have hl : (pre.map toS).length = pre.length := by simp
  have hg : ∀ q : List S78, (pre.map toS ++ [⟨(pre.length : Int), t⟩]) <+: q → q[pre.length]? = some ⟨(pre.length : Int), t⟩ := by
    rintro q ⟨r, rfl⟩
    rw [List.append_assoc, List.getElem?_append_right (by omega), hl, Nat.sub_self]
    rfl
  have har := actRow_length acts row pre.length
  rw [← hl] at h h1 ht
  rcases walk_round (by omega) h h1 ht with ⟨e, e1, e2⟩ | ⟨e, k', hk, h2⟩
  · rw [hl] at e e1 e2
    refine ⟨hg _ (by rw [e1]; exact List.prefix_rfl), .inl ⟨e, by rw [e1]; simp, e2⟩⟩
  · rw [hl] at e h2
    refine ⟨hg _ (walk_prefix k' _ _ (by omega) h2), .inr ⟨e, k', by omega, ?_⟩⟩
    rw [List.map_append]
    have : ((pre.map toS ++ [(⟨(pre.length : Int), t⟩ : S78)]).length : Int) = ((pre ++ [((pre.length : Int), t)]).length : Int) := by simp
    rw [this] at h2
    exact h2

/-- between two rounds -/
structure Rg (w : World) (tv : Array Value) (bx : Nat) (ds : List Nat) (acts : List S72) (stop : Int) (n0 pw pn : Nat) (wv vn : Value) (want : List S78) (next : List ByteArray) (M : Nat) (pre : List (Int × ByteArray)) (W : World) : Prop where
  lw : Lw w tv (some bx) ds W
  st : ∃ row k, St w.heap.size (w.heap.size + 1 + 1 + 1) (w.heap.size + 1 + 1) row vn next W ∧ (row.length + k ≤ M ∧ (pre = [] → row.length = n0)) ∧ portageref05_Walk.l0 k row acts stop (pre.map toS) (n0 : Int) (pre.length : Int) = some (want, next)
  ww : W.heap[pw]? = some (.cells #[wv] 74)
  wn : W.heap[pn]? = some (.cells #[.int .i64 (pre.length : Int)] 3)
  wr : Kd.R k78 78 W w.heap.size (fun k => wv.ownBlock = some k) wv want
/-- behind the walk -/
structure Rz (w : World) (tv : Array Value) (bx : Nat) (ds : List Nat) (pw pn : Nat) (wv vn : Value) (want : List S78) (next : List ByteArray) (W : World) : Prop where
  lw : Lw w tv (some bx) ds W
  st : St w.heap.size (w.heap.size + 1 + 1 + 1) (w.heap.size + 1 + 1) next vn next W
  ww : W.heap[pw]? = some (.cells #[wv] 74)
  wn : W.heap[pn]? = some (.cells #[.int .i64 (want.length : Int)] 3)
  wr : Kd.R k78 78 W w.heap.size (fun k => wv.ownBlock = some k) wv want
theorem Lw.own {w : World} {tv : Array Value} {bx : Nat} {ds : List Nat} {B : Nat} (h5 : w.heap.size + 5 ≤ B) (hx : bx < B) (hd : ∀ D, D ∈ ds → D < B) : OwnFrom B (fun (_ : Unit) W => Lw w tv (some bx) ds W) := fun _ W W' rw h hg hr =>
  ⟨ownFrom_block (fun _ : Unit => _) (by omega) () _ _ _ h.t hg hr, ownFrom_block (fun _ : Unit => _) (by omega) () _ _ _ h.r hg hr, ownFrom_block (fun _ : Unit => _) (by omega) () _ _ _ h.x hg hr,
    (fun k hk => ⟨ownFrom_block (fun _ : Unit => _) (by injection hk with hk; omega) () _ _ _ (h.c k hk).1 hg hr, (h.c k hk).2⟩), (fun D hD => ⟨ownFrom_block (fun _ : Unit => _) (hd D hD) () _ _ _ (h.d D hD).1 hg hr, (h.d D hD).2⟩), ownFrom_below (Nat.le_refl _) (by omega) () _ _ _ h.bl hg hr⟩
theorem R78_own {n0 B : Nat} {v : Value} {xs : List S78} : OwnFrom B (fun (_ : Unit) W => Kd.R k78 78 W n0 (fun k => v.ownBlock = some k) v xs) := fun _ W W' rw h hg hr =>
  Kd.R_step h fun k hk hlt => hg.block k hlt fun e => by
    obtain ⟨_, o, ho, hc⟩ := hr k e.symm
    obtain ⟨cs, hcs⟩ := R78_kind h k hk
    rw [hcs] at ho; cases ho; cases hc
theorem Rg.own {w : World} {tv : Array Value} {bx : Nat} {ds : List Nat} {acts : List S72} {stop : Int} {n0 pw pn : Nat} {wv vn : Value} {want : List S78} {next : List ByteArray} {M B : Nat} (h5 : w.heap.size + 5 ≤ B) (hx : bx < B) (hd : ∀ D, D ∈ ds → D < B) (hw : pw < B) (hn : pn < B) :
    OwnFrom B (Rg w tv bx ds acts stop n0 pw pn wv vn want next M) := fun pre W W' rw h hg hr => by
  obtain ⟨row, k, h1, h2, h3⟩ := h.st
  exact ⟨Lw.own h5 hx hd () _ _ _ h.lw hg hr, ⟨row, k, St.own (by omega) () _ _ _ h1 hg hr, h2, h3⟩, ownFrom_block (fun _ : Unit => _) hw () _ _ _ h.ww hg hr, ownFrom_block (fun _ : Unit => _) hn () _ _ _ h.wn hg hr, R78_own () _ _ _ h.wr hg hr⟩
theorem Rz.own {w : World} {tv : Array Value} {bx : Nat} {ds : List Nat} {pw pn : Nat} {wv vn : Value} {want : List S78} {next : List ByteArray} {B : Nat} (h5 : w.heap.size + 5 ≤ B) (hx : bx < B) (hd : ∀ D, D ∈ ds → D < B) (hw : pw < B) (hn : pn < B) :
    OwnFrom B (fun (_ : Unit) W => Rz w tv bx ds pw pn wv vn want next W) := fun _ W W' rw h hg hr =>
  ⟨Lw.own h5 hx hd () _ _ _ h.lw hg hr, St.own (by omega) () _ _ _ h.st hg hr, ownFrom_block (fun _ : Unit => _) hw () _ _ _ h.ww hg hr, ownFrom_block (fun _ : Unit => _) hn () _ _ _ h.wn hg hr, R78_own () _ _ _ h.wr hg hr⟩
/-- the iterator has run out -/
theorem Rg.over {w : World} {tv : Array Value} {bx : Nat} {ds : List Nat} {acts : List S72} {stop : Int} {n0 pw pn : Nat} {wv vn : Value} {want : List S78} {next : List ByteArray} {M : Nat} {pre : List (Int × ByteArray)} {W : World} (h : Rg w tv bx ds acts stop n0 pw pn wv vn want next M pre W) (hr : Ran (w.heap.size + 1 + 1 + 1) (w.heap.size + 1 + 1) n0 pre W) : Rz w tv bx ds pw pn wv vn want next W := by
  obtain ⟨row, k, h1, h2, h3⟩ := h.st
  obtain ⟨row', h4, h5⟩ := hr
  obtain rfl := h1.ixd.unique h4
  have hl : (pre.map toS).length = pre.length := by simp
  rw [← hl] at h3 h5
  obtain ⟨e1, e2⟩ := walk_over h3 h5
  subst e1 e2
  exact ⟨h.lw, h1, h.ww, by rw [hl]; exact h.wn, h.wr⟩
/-- what a step inside the body that leaves the law's own cells alone keeps of want and n -/
theorem Rg.keep {w : World} {tv : Array Value} {bx : Nat} {ds : List Nat} {acts : List S72} {stop : Int} {n0 pw pn : Nat} {wv vn : Value} {want : List S78} {next : List ByteArray} {M : Nat} {pre : List (Int × ByteArray)} {W W' : World} (h : Rg w tv bx ds acts stop n0 pw pn wv vn want next M pre W) (hf : Fr (w.heap.size + 1 + 1) W W') (hb : Below w.heap.size w W') :
    Lw w tv (some bx) ds W' ∧ W'.heap[pw]? = some (.cells #[wv] 74) ∧ W'.heap[pn]? = some (.cells #[.int .i64 (pre.length : Int)] 3) ∧ Kd.R k78 78 W' w.heap.size (fun k => wv.ownBlock = some k) wv want := by
  obtain ⟨row, k, h1, h2, h3⟩ := h.st
  refine ⟨h.lw.fr hf hb, hf.cells h.ww (h1.map_ne h.ww) (by decide) (by decide), hf.cells h.wn (h1.map_ne h.wn) (by decide) (by decide), Kd.R_step h.wr fun k hk _ => ?_⟩
  obtain ⟨cs, hcs⟩ := R78_kind h.wr k hk
  rw [hf.cells hcs (h1.map_ne hcs) (by decide) (by decide), hcs]
theorem Rg.keep2 {w : World} {tv : Array Value} {bx : Nat} {ds : List Nat} {pw pn : Nat} {u wv vn : Value} {want : List S78} {next row : List ByteArray} {W W' : World} (h : Lw w tv (some bx) ds W ∧ W.heap[pw]? = some (.cells #[wv] 74) ∧ W.heap[pn]? = some (.cells #[u] 3) ∧ Kd.R k78 78 W w.heap.size (fun k => wv.ownBlock = some k) wv want)
    (h1 : St w.heap.size (w.heap.size + 1 + 1 + 1) (w.heap.size + 1 + 1) row vn next W) (hf : Fr (w.heap.size + 1 + 1) W W') (hb : Below w.heap.size w W') :
    Lw w tv (some bx) ds W' ∧ W'.heap[pw]? = some (.cells #[wv] 74) ∧ W'.heap[pn]? = some (.cells #[u] 3) ∧ Kd.R k78 78 W' w.heap.size (fun k => wv.ownBlock = some k) wv want := by
  obtain ⟨a1, a2, a3, a4⟩ := h
  refine ⟨a1.fr hf hb, hf.cells a2 (h1.map_ne a2) (by decide) (by decide), hf.cells a3 (h1.map_ne a3) (by decide) (by decide), Kd.R_step a4 fun k hk _ => ?_⟩
  obtain ⟨cs, hcs⟩ := R78_kind a4 k hk
  rw [hf.cells hcs (h1.map_ne hcs) (by decide) (by decide), hcs]
/-- n is counted -/
theorem kept_count {w W : World} {tv : Array Value} {bx : Nat} {ds : List Nat} {pw pn : Nat} {u : Value} {wv vn : Value} {want : List S78} {next row : List ByteArray} (q : Value)
    (h : Lw w tv (some bx) ds W ∧ W.heap[pw]? = some (.cells #[wv] 74) ∧ W.heap[pn]? = some (.cells #[u] 3) ∧ Kd.R k78 78 W w.heap.size (fun k => wv.ownBlock = some k) wv want) (hs : St w.heap.size (w.heap.size + 1 + 1 + 1) (w.heap.size + 1 + 1) row vn next W) (hp : w.heap.size ≤ pn) :
    Lw w tv (some bx) ds (W.setCell ⟨pn, 0, none⟩ q) ∧ St w.heap.size (w.heap.size + 1 + 1 + 1) (w.heap.size + 1 + 1) row vn next (W.setCell ⟨pn, 0, none⟩ q) ∧ (W.setCell ⟨pn, 0, none⟩ q).heap[pw]? = some (.cells #[wv] 74) ∧ (W.setCell ⟨pn, 0, none⟩ q).heap[pn]? = some (.cells #[q] 3) ∧ Kd.R k78 78 (W.setCell ⟨pn, 0, none⟩ q) w.heap.size (fun k => wv.ownBlock = some k) wv want := by
  obtain ⟨h1, h2, h3, h4⟩ := h
  have ne : ∀ {k : Nat} {cs : Array Value} {e : TypeId}, W.heap[k]? = some (.cells cs e (0, 0)) → e ≠ 3 → k ≠ pn := fun hk he e' => by
    subst e'
    rw [h3] at hk; cases hk; exact he rfl
  have st : ∀ {k : Nat} {cs : Array Value} {e : TypeId}, W.heap[k]? = some (.cells cs e (0, 0)) → e ≠ 3 → (W.setCell ⟨pn, 0, none⟩ q).heap[k]? = some (.cells cs e (0, 0)) := fun hk he => (Below.heap_setCell _ _ _ _ (ne hk he)).trans hk
  refine ⟨⟨st h1.t (by decide), st h1.r (by decide), st h1.x (by decide), (fun k hk => ⟨st (h1.c k hk).1 (by decide), (h1.c k hk).2⟩), (fun D hD => ⟨(Below.heap_setCell _ _ _ _ fun e => ?_).trans (h1.d D hD).1, (h1.d D hD).2⟩), h1.bl.setCell (p := ⟨pn, 0, none⟩) hp _⟩,
    hs.setCell (p := ⟨pn, 0, none⟩) h3 (by decide) (by decide) _, st h2 (by decide), by rw [heap_set h3]; simp, Kd.R_step h4 fun k hk _ => ?_⟩
  · have := (h1.d D hD).1
    rw [show D = pn from e, h3] at this; cases this
  · obtain ⟨cs, hcs⟩ := R78_kind h4 k hk
    rw [st hcs (by decide), hcs]
end Go.Proofs.Ytijmhegccakndaa
