/-
  Functions by their headers; what a step changes, by the types of blocks; a program on its way to be lent.
-/
import Derived.Test.YtpallcggmaheoaaDoorKh
import Derived.Test.YtpallcggmaheoaaDoorPh
namespace Go.Proofs.YtpallcggmaheoaaDoor
open Go.RowKit Go.Proofs.YtpallcggmaheoaaDoorW.PrintWords Go.Proofs.YtpallcggmaheoaaDoorW.PrintMore
open PListInstr
set_option linter.unusedVariables false

/-- a slice's header -/
abbrev hdrV (x : Option Addr × Nat × Nat) : Value := .slice x.1 x.2.1 x.2.2
def kHd : Kd (Option Addr × Nat × Nat) := Kd.scalar hdrV (fun _ => rfl)
/-- a function by its headers -/
structure Fn where
  nm : ByteArray
  pa : Int
  lo : Int
  hc : Option Addr × Nat × Nat
  hh : Option Addr × Nat × Nat
def kF : Kd Fn := Kd.iso (Kd.pair Kd.string (Kd.pair (Kd.int .i64) (Kd.pair (Kd.int .i64) (Kd.pair kHd kHd)))) (fun x : Fn => (x.nm, x.pa, x.lo, x.hc, x.hh))
def cellsF (x : Fn) : List Value := [.string x.nm, .int .i64 x.pa, .int .i64 x.lo, hdrV x.hc, hdrV x.hh]
theorem kF_open {w : World} {x : Fn} {cs : List Value} (h : kF.K w x cs) : cs = cellsF x := by
  obtain ⟨_, _, rfl, rfl, _, _, rfl, rfl, _, _, rfl, rfl, _, _, rfl, rfl, rfl⟩ := h
  rfl
theorem kF_openM {w : World} {base : Nat} {ok : Nat → Prop} {x : Fn} {cs : List Value} (h : kF.M w base ok x cs) : cs = cellsF x := kF_open (kF.K_of_M h)
theorem kF_mkM (w : World) (base : Nat) (ok : Nat → Prop) (x : Fn) : kF.M w base ok x (cellsF x) := ⟨[.string x.nm], _, rfl, rfl, [.int .i64 x.pa], _, rfl, rfl, [.int .i64 x.lo], _, rfl, rfl, [hdrV x.hc], _, rfl, rfl, rfl⟩
theorem atF {w : World} {A : Option Addr} {n : Nat} {hs : List Fn} (h : Kd.C kF w A n hs) {i : Nat} {x : Fn} (hx : hs[i]? = some x) : ∃ ad, A = some ad ∧ w.cell? (ad.add (i * 5)) = some (.string x.nm) ∧ w.cell? ⟨(ad.add (i * 5)).block, (ad.add (i * 5)).off + 1, none⟩ = some (.int .i64 x.pa) ∧ w.cell? ⟨(ad.add (i * 5)).block, (ad.add (i * 5)).off + 2, none⟩ = some (.int .i64 x.lo) ∧ w.cell? ⟨(ad.add (i * 5)).block, (ad.add (i * 5)).off + 3, none⟩ = some (hdrV x.hc) ∧ w.cell? ⟨(ad.add (i * 5)).block, (ad.add (i * 5)).off + 4, none⟩ = some (hdrV x.hh) := by
  have hlt := (List.getElem?_eq_some_iff.1 hx).1
  obtain ⟨ad, e, hc⟩ := h.2.2 (by have := h.1; omega)
  obtain ⟨cs, _, hK, hcc⟩ := hc i x hx
  obtain rfl := kF_open hK
  have hd : ∀ (j : Nat) (u : Value), (cellsF x)[j]? = some u → w.cell? (ad.add (i * 5 + j)) = some u := hcc
  exact ⟨ad, e, hd 0 _ rfl, by rw [← add_field _ _ 1 (by omega)]; exact hd 1 _ rfl, by rw [← add_field _ _ 2 (by omega)]; exact hd 2 _ rfl, by rw [← add_field _ _ 3 (by omega)]; exact hd 3 _ rfl, by rw [← add_field _ _ 4 (by omega)]; exact hd 4 _ rfl⟩
/-- blocks of other types than these stay -/
structure Mv (Ts : List Nat) (W W' : World) : Prop where
  sz : W.heap.size ≤ W'.heap.size
  st : ∀ (k : Nat) (cs : Array Value) (q : Nat), W.heap[k]? = some (.cells cs q (0, 0)) → ¬ q ∈ Ts → W'.heap[k]? = some (.cells cs q (0, 0))
theorem Mv.below {Ts : List Nat} {W W' : World} (h : Below W.heap.size W W') : Mv Ts W W' := ⟨h.size, fun k cs q hk _ => (h.block k (Array.getElem?_eq_some_iff.1 hk).1).trans hk⟩
theorem Mv.trans {Ts : List Nat} {a b c : World} (h : Mv Ts a b) (g : Mv Ts b c) : Mv Ts a c := ⟨Nat.le_trans h.sz g.sz, fun k cs q hk hq => g.st k cs q (h.st k cs q hk hq) hq⟩
theorem Mv.wide {Ts Us : List Nat} {W W' : World} (h : Mv Ts W W') (hT : ∀ q, q ∈ Ts → q ∈ Us) : Mv Us W W' := ⟨h.sz, fun k cs q hk hq => h.st k cs q hk (fun hc => hq (hT q hc))⟩
theorem Mv.set {Ts : List Nat} {W : World} {g o t : Nat} {cs : Array Value} (hg : W.heap[g]? = some (.cells cs t (0, 0))) (ht : t ∈ Ts) (u : Value) : Mv Ts W (W.setCell ⟨g, o, none⟩ u) :=
  ⟨by simp, fun k cs' q hk hq => (Below.heap_setCell _ _ _ _ (fun e => by subst e; rw [hg] at hk; cases hk; exact hq ht)).trans hk⟩
theorem Mv.grown {α : Type} {d : Kd α} {e base : Nat} {ok : Nat → Prop} {v : Value} {xs : List α} {Ts : List Nat} {W W' : World} (hR : d.R e W base ok v xs) (hg : W.grownBy W' v.ownBlock) (he : e ∈ Ts) : Mv Ts W W' :=
  ⟨hg.size, fun k cs q hk hq => (hg.block k (Array.getElem?_eq_some_iff.1 hk).1 (fun hc => by
    obtain ⟨cs2, h2⟩ := Kd.R_typed hR k hc.symm
    rw [h2] at hk
    cases hk
    exact hq he)).trans hk⟩
theorem R_mv {α : Type} {d : Kd α} {e base : Nat} {ok : Nat → Prop} {v : Value} {xs : List α} {Ts : List Nat} {W W' : World} (h : d.R e W base ok v xs) (hm : Mv Ts W W') (hT : ∀ q, q ∈ e :: d.E → ¬ q ∈ Ts) : d.R e W' base ok v xs :=
  Kd.R_mono (Kd.R_move (Kd.R_bound h) (fun k hk => by
    obtain ⟨_, _, _, q, hq, cs, hc⟩ := hk
    exact (hm.st k cs q hc (hT q hq)).trans hc.symm)) (fun _ hk => hk.1)
/-- the full lists of one function -/
def FL (W : World) (base : Nat) (x : Fn) (code : List S27) (hand : List S55) : Prop :=
  x.hc.2.1 = code.length + 64 ∧ x.hh.2.1 = hand.length + 64 ∧ k27.R 27 W base (fun _ => True) (hdrV x.hc) (code ++ mk27) ∧ k55.R 55 W base (fun _ => True) (hdrV x.hh) (hand ++ mk55)
theorem FL.mv {W W' : World} {base : Nat} {x : Fn} {code : List S27} {hand : List S55} {Ts : List Nat} (h : FL W base x code hand) (hm : Mv Ts W W') (h1 : ¬ 27 ∈ Ts) (h2 : ¬ 55 ∈ Ts) : FL W' base x code hand :=
  ⟨h.1, h.2.1, R_mv h.2.2.1 hm (fun q hq => by
    have : q = 27 := by simpa [show k27.E = [] from rfl] using hq
    subst this
    exact h1), R_mv h.2.2.2 hm (fun q hq => by
    have : q = 55 := by simpa [show k55.E = [] from rfl] using hq
    subst this
    exact h2)⟩
/-- a program on its way to be lent -/
structure Lt (w : World) (p0 p1 vc vf : Value) (cl : List S44) (hs : List Fn) (W : World) : Prop where
  bl : Below w.heap.size w W
  bp : W.heap[w.heap.size]? = some (.cells #[p0, p1] 25 (0, 0))
  br : W.heap[w.heap.size + 1]? = some (.cells #[.slice none 0 0, .slice none 0 0] 25 (0, 0))
  bq : W.heap[w.heap.size + 2]? = some (.cells #[vc, vf] 25 (0, 0))
  rc : k44.R 44 W w.heap.size (fun _ => True) vc cl
  rf : kF.R 42 W w.heap.size (fun _ => True) vf hs
theorem set2 (w : World) (g : Nat) (a b x : Value) (t : TypeId) (h : w.heap[g]? = some (.cells #[a, b] t (0, 0))) : (w.setCell ⟨g, 0, none⟩ x).heap[g]? = some (.cells #[x, b] t (0, 0)) ∧ (w.setCell ⟨g, 1, none⟩ x).heap[g]? = some (.cells #[a, x] t (0, 0)) := by
  have hlt := (Array.getElem?_eq_some_iff.1 h).1
  have h2 := (Array.getElem?_eq_some_iff.1 h).2
  constructor <;> simp [World.setCell, hlt, Array.getElem_modify, h2]
section
variable {w W X Y : World} {p0 p1 vc vf : Value} {cl : List S44} {hs : List Fn}
theorem Lt.below (h : Lt w p0 p1 vc vf cl hs W) (hb : Below W.heap.size W X) : Lt w p0 p1 vc vf cl hs X :=
  ⟨h.bl.trans (hb.mono h.bl.size), (hb.block _ (Array.getElem?_eq_some_iff.1 h.bp).1).trans h.bp, (hb.block _ (Array.getElem?_eq_some_iff.1 h.br).1).trans h.br, (hb.block _ (Array.getElem?_eq_some_iff.1 h.bq).1).trans h.bq, Kd.R_below h.rc hb, Kd.R_below h.rf hb⟩
theorem e44 : ∀ q, q ∈ 44 :: k44.E → q = 44 := fun q hq => by simpa [show k44.E = [] from rfl] using hq
theorem e42 : ∀ q, q ∈ 42 :: kF.E → q = 42 := fun q hq => by simpa [show kF.E = [] from rfl] using hq
/-- a constant more -/
theorem Lt.push44 (h : Lt w p0 p1 vc vf cl hs X) {x : S44} {v1 : Value} (ho : k44.R 44 Y w.heap.size (fun _ => True) v1 (cl ++ [x])) (hB : Below w.heap.size X Y) (hg : X.grownBy Y vc.ownBlock) : Lt w p0 p1 v1 vf (cl ++ [x]) hs (Y.setCell ⟨w.heap.size + 2, 0, none⟩ v1) ∧ Mv [25, 44] X (Y.setCell ⟨w.heap.size + 2, 0, none⟩ v1) ∧ Y.heap[w.heap.size + 2]? = some (.cells #[vc, vf] 25 (0, 0)) := by
  have m1 : Mv [44] X Y := Mv.grown h.rc hg (by simp)
  have y1 := m1.st _ _ _ h.bp (by decide)
  have y2 := m1.st _ _ _ h.br (by decide)
  have y3 := m1.st _ _ _ h.bq (by decide)
  have m2 : Mv [25] Y (Y.setCell ⟨w.heap.size + 2, 0, none⟩ v1) := Mv.set y3 (by simp) _
  exact ⟨⟨(h.bl.trans hB).setCell (p := ⟨w.heap.size + 2, 0, none⟩) (Nat.le_add_right _ _) _, (Below.heap_setCell _ _ _ _ (by simp)).trans y1, (Below.heap_setCell _ _ _ _ (by simp)).trans y2, (set2 Y _ _ _ v1 _ y3).1, R_mv ho m2 (fun q hq => by rw [e44 q hq]; decide), R_mv (R_mv h.rf m1 (fun q hq => by rw [e42 q hq]; decide)) m2 (fun q hq => by rw [e42 q hq]; decide)⟩, (m1.wide (by simp)).trans (m2.wide (by simp)), y3⟩
/-- a function more -/
theorem Lt.push42 (h : Lt w p0 p1 vc vf cl hs X) {x : Fn} {v1 : Value} (ho : kF.R 42 Y w.heap.size (fun _ => True) v1 (hs ++ [x])) (hB : Below w.heap.size X Y) (hg : X.grownBy Y vf.ownBlock) : Lt w p0 p1 vc v1 cl (hs ++ [x]) (Y.setCell ⟨w.heap.size + 2, 1, none⟩ v1) ∧ Mv [25, 42] X (Y.setCell ⟨w.heap.size + 2, 1, none⟩ v1) ∧ Y.heap[w.heap.size + 2]? = some (.cells #[vc, vf] 25 (0, 0)) := by
  have m1 : Mv [42] X Y := Mv.grown h.rf hg (by simp)
  have y1 := m1.st _ _ _ h.bp (by decide)
  have y2 := m1.st _ _ _ h.br (by decide)
  have y3 := m1.st _ _ _ h.bq (by decide)
  have m2 : Mv [25] Y (Y.setCell ⟨w.heap.size + 2, 1, none⟩ v1) := Mv.set y3 (by simp) _
  exact ⟨⟨(h.bl.trans hB).setCell (p := ⟨w.heap.size + 2, 1, none⟩) (Nat.le_add_right _ _) _, (Below.heap_setCell _ _ _ _ (by simp)).trans y1, (Below.heap_setCell _ _ _ _ (by simp)).trans y2, (set2 Y _ _ _ v1 _ y3).2, R_mv (R_mv h.rc m1 (fun q hq => by rw [e44 q hq]; decide)) m2 (fun q hq => by rw [e44 q hq]; decide), R_mv ho m2 (fun q hq => by rw [e42 q hq]; decide)⟩, (m1.wide (by simp)).trans (m2.wide (by simp)), y3⟩
/-- one cell of one function is written -/
theorem kF_put {base g n c i j : Nat} {ok : Nat → Prop} {hs : List Fn} {x y : Fn} {u : Value} (h : kF.R 42 W base ok (.slice (some ⟨g, 0, none⟩) n c) hs) (hx : hs[i]? = some x) (hj : j < 5) (hy : cellsF y = (cellsF x).set j u) : kF.R 42 (W.setCell ⟨g, i * 5 + j, none⟩ u) base ok (.slice (some ⟨g, 0, none⟩) n c) (hs.set i y) := by
  obtain ⟨h0, inner, ho, hr⟩ := h
  have hlen : (hs.set i y).length = hs.length := List.length_set
  refine ⟨h0, inner.set (i * 5 + j) u, ?_, ?_⟩
  · rw [hlen]
    obtain rfl : n = hs.length := by
      rcases ho.2 with ⟨e, e2⟩ | ⟨g', cap, cur, e, _⟩
      · cases e
      · cases e
        rfl
    exact (ho.stored (i * 5 + j) u).1
  · refine ⟨by rw [List.length_set, hlen]; exact hr.1, fun k z hz => ?_⟩
    have hcell : ∀ (k : Nat) (z : Fn), hs[k]? = some z → (inner.drop (k * 5)).take 5 = cellsF z := fun k z hz => kF_openM (hr.2 k z hz)
    have hil := (List.getElem?_eq_some_iff.1 hx).1
    by_cases hki : i = k
    · subst hki
      rw [List.getElem?_set_self hil] at hz
      cases hz
      have e : ((inner.set (i * 5 + j) u).drop (i * 5)).take 5 = cellsF y := by
        rw [hy, ← hcell i x hx, List.drop_set, if_neg (by omega), List.take_set]
        congr 1
        omega
      show kF.M _ _ _ y (((inner.set (i * 5 + j) u).drop (i * 5)).take 5)
      rw [e]
      exact kF_mkM _ _ _ _
    · rw [List.getElem?_set_ne hki] at hz
      have e : ((inner.set (i * 5 + j) u).drop (k * 5)).take 5 = cellsF z := by
        rw [← hcell k z hz]
        apply List.ext_getElem?
        intro m
        by_cases hm : m < 5
        · rw [List.getElem?_take_of_lt hm, List.getElem?_take_of_lt hm, List.getElem?_drop, List.getElem?_drop, List.getElem?_set_ne (by omega)]
        · rw [List.getElem?_eq_none (by rw [List.length_take]; omega), List.getElem?_eq_none (by rw [List.length_take]; omega)]
      show kF.M _ _ _ z (((inner.set (i * 5 + j) u).drop (k * 5)).take 5)
      rw [e]
      exact kF_mkM _ _ _ _
end
end Go.Proofs.YtpallcggmaheoaaDoor
