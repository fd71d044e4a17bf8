/-
  A range over a function whose iterator reads what the loop's body turns: the loop's law by the iterator's own word on what comes next.
-/
import Derived.RangeFuncNested
import Derived.RangeFuncBound
import Derived.RangeFuncCalls
import Derived.RangeFuncLeaves
import Derived.Shelf.Abstract
import Derived.Shelf.RegionOpen
import Derived.WalkKit
import Derived.OwnWalkIn
import Derived.TacticsInMore
import Derived.LoopNIn
import Derived.LoopIn
import Derived.Test.YtijmhegccakndaaProg
namespace Go.Proofs.Ytijmhegccakndaa
open Go.RowKit

variable {F : Fence} {n : Nat} {P : Program}

/-- an iterator: where pre has come, x may come next only as X says; where nothing more comes, E holds -/
def Iter {α : Type} (F : Fence) (n : Nat) (P : Program) (gf : Nat) (lb : Array Value) (encs : α → Array Value) (X : List α → α → World → Prop) (E I : List α → World → Prop) : Prop :=
  ∀ (l : Nat) (J : List α → World → Prop) (Jx : World → Prop) (W : World), (∀ pre W, J pre W → I pre W) → (∀ pre W W', J pre W → W.grownBy W' none → J pre W') →
    (∀ pre x W, J pre W → X pre x W → YieldAt F (n - 1) P l (encs x) W fun e W' => (e = .returned (.bool true) ∧ J (pre ++ [x]) W') ∨ (e = .returned (.bool false) ∧ Jx W')) →
    J [] W → CallsIn F n P gf (#[.func (.yield l) #[] #[]] ++ lb) W fun e W' => (∃ v, e = .returned v) ∧ ((∃ pre, J pre W' ∧ E pre W') ∨ Jx W')

/-- how a round may be left -/
def roundEnd {α : Type} (B : Nat) (I : List α → World → Prop) (Ix : Code → World → Prop) (xs : List α) (W : World) : Exit → Act → World → Prop
  | .normal, _, W' => KeepsFrom B W W' ∧ I xs W'
  | .ret, _, W' => KeepsFrom B W W' ∧ Ix .ret W'
  | .exit id, _, W' => KeepsFrom B W W' ∧ Ix (.exit id) W'
  | _, _, _ => False

theorem wp_rf {α : Type} {g : Operand} {ps : Array Tmp} {assign body : Code} {Q : Exit → Act → World → Prop} {a : Act} {w : World}
    (hro : F.round = none) (h1 : 1 ≤ n) {gf : Nat} {lb : Array Value} (hg : a.eval g = .func (.func gf) #[] lb) (hFg : F.fn gf) (eg : ∀ args w, (callFunc gf args).run P w = .ok (.enter gf args) w)
    {encs : α → Array Value} {X : List α → α → World → Prop} {E : List α → World → Prop} (I : List α → World → Prop) (Ix : Code → World → Prop)
    (hit : Iter F (n - 1) P gf lb encs X E I) (hps : ∀ x, (encs x).size = ps.size)
    (hI : OwnFrom w.heap.size I) (hX : ∀ pre x, OwnFrom w.heap.size (fun (_ : Unit) W => X pre x W)) (hE : OwnFrom w.heap.size E) (hIx : ∀ c, OwnFrom w.heap.size (fun (_ : Unit) W => Ix c W)) (h0 : I [] w) (a₁ : α → Act)
    (hassign : ∀ (l : Nat) (x : α) (W : World) (K : Act → World → Prop), K (a₁ x) W →
      assign.wpIn (F.inRound l) (n - 1 - 1) P (Exit.then K (fun _ _ _ => False)) { tmps := (ps.zip (encs x)).foldl (fun t (p, v) => t.setIfInBounds p v) a.tmps, defers := [] } W)
    (hbody : ∀ (l : Nat) (pre : List α) (x : α) (W : World), I pre W → X pre x W → body.wpIn (F.inRound l) (n - 1 - 1) P (roundEnd w.heap.size I Ix (pre ++ [x]) W) (a₁ x) W)
    (hdone : ∀ (D : Nat) (pre : List α) (W : World), D = w.heap.size → I pre W → E pre W → W.heap[D]? = some (.deferred (some [])) → Q .normal { a with defers := { target := .collected D, args := #[] } :: a.defers } W)
    (hstop : ∀ (D : Nat) (c : Code) (W : World), D = w.heap.size → Ix c W → W.heap[D]? = some (.deferred (some [])) → c.wpIn F n P Q { a with defers := { target := .collected D, args := #[] } :: a.defers } W) :
    (Code.rangeFunc g ps assign body).wpIn F n P Q a w := by
  refine wpIn_rangeFunc fun fn hfn => ?_
  rw [hro]
  obtain ⟨rc, hrc⟩ : ∃ rc : LoopState → Option Code → Loop, rc = fun st pe => { state := st, pending := pe, fn, tmps := a.tmps, params := ps, assign, body, defers := w.heap.size } := ⟨_, rfl⟩
  obtain ⟨s, hs⟩ : ∃ s, w.heap.size = s := ⟨_, rfl⟩
  rw [hs] at hI hX hE hIx hbody hdone hstop hrc
  -- the two blocks of the loop's book
  have book : ∀ W l, l = s + 1 → (w.alloc (.deferred (some []))).alloc (.loop (rc .ready none)) = W → W.heap[l]? = some (.loop (rc .ready none)) ∧ W.heap[s]? = some (.deferred (some [])) ∧ I [] W := by
    rintro W l rfl rfl
    subst hs
    refine ⟨?_, ?_, hI.alloc _ (hI.alloc _ h0)⟩
    · have := World.alloc_heap_new (w.alloc (.deferred (some []))) (.loop (rc .ready none))
      rwa [World.size_alloc] at this
    · exact (Below.heap_alloc _ _ _ (by simp)).trans (World.alloc_heap_new w _)
  obtain ⟨W1, hW1⟩ : ∃ W, (w.alloc (.deferred (some []))).alloc (.loop (rc .ready none)) = W := ⟨_, rfl⟩
  obtain ⟨k1, k2, k3⟩ := book W1 _ rfl hW1
  refine ⟨s + 1, [{ target := .collected s, args := #[] }], W1, { target := .fn (.func gf) lb, args := #[.func (.yield (s + 1)) #[] #[]] }, W1, gf, #[.func (.yield (s + 1)) #[] #[]] ++ lb, W1, ?_, ?_, ?_, ?_, fun _ => h1, ?_⟩
  · have := run_enterLoop_outer (P := P) (w := w) fn a.tmps ps assign body
    rw [hs] at this
    rw [← hW1, hrc]
    exact this
  · simp only [resolve, hg]
    simp [go_sem]
  · intro f' hf'
    simp [Target.leads] at hf'
    subst hf'
    exact hFg
  · simp [invoke, go_sem, eg]
  have hkeep : ∀ {A B : World} {k : Nat} {o : Obj}, A.grownBy B none → A.heap[k]? = some o → B.heap[k]? = some o := fun hg' h => (hg'.block _ (Array.getElem?_eq_some_iff.1 h).1 (by simp)).trans h
  have hput : ∀ (W : World) (o o' : Obj), W.heap[s + 1]? = some o → o.isCells = false → W.grownBy (W.putObj (s + 1) o') (some (s + 1)) ∧ ∀ r, some (s + 1) = some r → s ≤ r ∧ ∃ o : Obj, W.heap[r]? = some o ∧ o.isCells = false :=
    fun W o o' h1 h2 => ⟨grownBy_putObj' W _ o', fun r e => by cases e; exact ⟨by omega, _, h1, h2⟩⟩
  refine (hit (s + 1) (fun pre W => I pre W ∧ W.heap[s + 1]? = some (.loop (rc .ready none)) ∧ W.heap[s]? = some (.deferred (some [])))
    (fun W => ∃ c, Ix c W ∧ W.heap[s + 1]? = some (.loop (rc .done (some c))) ∧ W.heap[s]? = some (.deferred (some []))) W1 (fun pre W h => h.1)
    (fun pre W W' h hg' => ⟨hI _ _ _ none h.1 hg' (fun r e => by cases e), hkeep hg' h.2.1, hkeep hg' h.2.2⟩) ?_ ⟨k3, k1, k2⟩).mono ?_
  · -- one round
    rintro pre x W ⟨hi, hl, hk⟩ hx
    have hlt := (Array.getElem?_eq_some_iff.1 hl).1
    have hy := run_yield (P := P) (args := encs x) hl (by rw [hrc]; exact hps x)
    rw [hrc] at hy
    refine ⟨fn, _, assign, body, hy, roundIn_of_wpIn hfn (hassign _ x W _ ⟨_, run_beginRound hl (by rw [hrc]), ?_⟩)⟩
    obtain ⟨p1, p2⟩ := hput W _ (.loop { rc .ready none with state := .busy }) hl rfl
    have hl2 : (W.putObj (s + 1) (.loop { rc .ready none with state := .busy })).heap[s + 1]? = some (.loop { rc .ready none with state := .busy }) := World.putObj_heap_same hlt
    have hk2 : (W.putObj (s + 1) (.loop { rc .ready none with state := .busy })).heap[s]? = some (.deferred (some [])) := (World.putObj_heap_other (by omega)).trans hk
    refine wpIn_mono (hbody _ pre x _ (hI _ _ _ _ hi p1 p2) (hX pre x () _ _ _ hx p1 p2)) ?_
    have fin : ∀ (jump : Option Code) (W3 : World), KeepsFrom s (W.putObj (s + 1) (.loop { rc .ready none with state := .busy })) W3 →
        (Instr.endRound (s + 1) jump).run P W3 = .ok (.bool jump.isNone) (W3.putObj (s + 1) (.loop (rc (if jump.isNone then .ready else .done) jump))) ∧
        W3.heap[s + 1]? = some (.loop { rc .ready none with state := .busy }) ∧
        (W3.putObj (s + 1) (.loop (rc (if jump.isNone then .ready else .done) jump))).heap[s + 1]? = some (.loop (rc (if jump.isNone then .ready else .done) jump)) ∧
        (W3.putObj (s + 1) (.loop (rc (if jump.isNone then .ready else .done) jump))).heap[s]? = some (.deferred (some [])) := fun jump W3 hk3 => by
      have hl3 := hk3.same _ _ (by omega) hl2 rfl
      have hd3 := hk3.same _ _ (Nat.le_refl _) hk2 rfl
      have := run_endRound (P := P) jump hl3
      rw [hrc] at this ⊢
      exact ⟨this, by rw [hrc] at hl3; exact hl3, World.putObj_heap_same (Array.getElem?_eq_some_iff.1 hl3).1, (World.putObj_heap_other (by omega)).trans hd3⟩
    rintro e a3 W3 hp
    cases e with
    | normal =>
      obtain ⟨hr, hl3, hl4, hk4⟩ := fin none W3 hp.1
      exact ⟨_, _, hr, .inl ⟨rfl, hI _ _ _ _ hp.2 (hput W3 _ _ hl3 rfl).1 (hput W3 _ (.loop (rc .ready none)) hl3 rfl).2, hl4, hk4⟩⟩
    | ret =>
      obtain ⟨hr, hl3, hl4, hk4⟩ := fin (some .ret) W3 hp.1
      exact ⟨_, _, hr, .inr ⟨rfl, .ret, hIx _ () _ _ _ hp.2 (hput W3 _ _ hl3 rfl).1 (hput W3 _ (.loop (rc .ready none)) hl3 rfl).2, hl4, hk4⟩⟩
    | exit id =>
      obtain ⟨hr, hl3, hl4, hk4⟩ := fin (some (.exit id)) W3 hp.1
      exact ⟨_, _, hr, .inr ⟨rfl, .exit id, hIx _ () _ _ _ hp.2 (hput W3 _ _ hl3 rfl).1 (hput W3 _ (.loop (rc .ready none)) hl3 rfl).2, hl4, hk4⟩⟩
    | goto t => exact hp.elim
    | panic ch => exact hp.elim
    | outgrown => exact hp.elim
  · -- behind the iterator
    rintro e W2 ⟨⟨v, rfl⟩, (⟨pre, ⟨hi, hl, hk⟩, he⟩ | ⟨c, hi, hl, hk⟩)⟩
    · obtain ⟨p1, p2⟩ := hput W2 _ (.loop { rc .ready none with state := .exhausted }) hl rfl
      exact ⟨none, _, by have := run_endLoop (P := P) hl (by rw [hrc]; simp); rw [hrc] at this; rw [hrc]; exact this, hdone s pre _ rfl (hI _ _ _ _ hi p1 p2) (hE _ _ _ _ he p1 p2) ((World.putObj_heap_other (by omega)).trans hk)⟩
    · obtain ⟨p1, p2⟩ := hput W2 _ (.loop { rc .done (some c) with state := .exhausted }) hl rfl
      exact ⟨some c, _, by have := run_endLoop (P := P) hl (by rw [hrc]; simp); rw [hrc] at this; rw [hrc]; exact this, hstop s c _ rfl (hIx c () _ _ _ hi p1 p2) ((World.putObj_heap_other (by omega)).trans hk)⟩

/-- the same, where a round leaves by a break alone and what lies behind is told in one word -/
theorem wp_rf2 {α : Type} {g : Operand} {ps : Array Tmp} {assign body : Code} {Q : Exit → Act → World → Prop} {a : Act} {w : World} {id : Nat}
    (hro : F.round = none) (h1 : 1 ≤ n) {gf : Nat} {lb : Array Value} (hg : a.eval g = .func (.func gf) #[] lb) (hFg : F.fn gf) (eg : ∀ args w, (callFunc gf args).run P w = .ok (.enter gf args) w)
    {encs : α → Array Value} {X : List α → α → World → Prop} {E : List α → World → Prop} (I : List α → World → Prop) (Z : World → Prop)
    (hit : Iter F (n - 1) P gf lb encs X E I) (hps : ∀ x, (encs x).size = ps.size)
    (hI : OwnFrom w.heap.size I) (hX : ∀ pre x, OwnFrom w.heap.size (fun (_ : Unit) W => X pre x W)) (hE : OwnFrom w.heap.size E) (hZ : OwnFrom w.heap.size (fun (_ : Unit) W => Z W)) (h0 : I [] w) (a₁ : α → Act)
    (hassign : ∀ (l : Nat) (x : α) (W : World) (K : Act → World → Prop), K (a₁ x) W →
      assign.wpIn (F.inRound l) (n - 1 - 1) P (Exit.then K (fun _ _ _ => False)) { tmps := (ps.zip (encs x)).foldl (fun t (p, v) => t.setIfInBounds p v) a.tmps, defers := [] } W)
    (hbody : ∀ (l : Nat) (pre : List α) (x : α) (W : World), I pre W → X pre x W → body.wpIn (F.inRound l) (n - 1 - 1) P (roundEnd w.heap.size I (fun c W => c = .exit id ∧ Z W) (pre ++ [x]) W) (a₁ x) W)
    (hIZ : ∀ pre W, I pre W → E pre W → Z W) (hQ : ∀ a' W, Q .normal a' W → Q (.exit id) a' W)
    (hfin : ∀ W, Z W → W.heap[w.heap.size]? = some (.deferred (some [])) → Q .normal { a with defers := { target := .collected w.heap.size, args := #[] } :: a.defers } W) :
    (Code.rangeFunc g ps assign body).wpIn F n P Q a w := by
  refine wp_rf hro h1 hg hFg eg I (fun c W => c = .exit id ∧ Z W) hit hps hI hX hE (fun c _ W W' rw h hg hr => ⟨h.1, hZ () _ _ _ h.2 hg hr⟩) h0 a₁ hassign hbody ?_ ?_
  · rintro D pre W rfl hi he hd
    exact hfin W (hIZ pre W hi he) hd
  · rintro D c W rfl ⟨rfl, hz⟩ hd
    exact wpIn_exit (hQ _ _ (hfin W hz hd))
end Go.Proofs.Ytijmhegccakndaa
