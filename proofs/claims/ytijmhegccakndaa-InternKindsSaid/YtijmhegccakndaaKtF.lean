/-
  Four indexes of four kinds of things, apart from one another and from the blocks F. (Printed by wip/tools/ktf.py.)
-/
import Derived.Test.YtijmhegccakndaaKtN
namespace Go.Proofs.Ytijmhegccakndaa
open Go.RowKit Go.Maps Go.WideMaps
open Go.Proofs.YtijmhegccakndaaW.PrintWords Go.Proofs.YtijmhegccakndaaW.PrintMore
variable {K : KT}

theorem AtSK.other {w w' : World} {S S1 : Nat → Prop} {b : Nat} {row : List Nat} (h : AtSK K w S b row) (hk : Kp w w' S1) (hd : ∀ k, S k → ¬ S1 k) : AtSK K w' S b row :=
  h.kept (fun k hs hlt => hk.block k hlt (hd k hs))

/-- the four, their blocks from B on, below the heap's end, pairwise apart, none of F -/
structure Four (w : World) (B : Nat) (F : Nat → Prop) (a b c d : Nat) (ra rb rc rd : List Nat) : Prop where
  out : ∃ Sa Sb Sc Sd : Nat → Prop, AtSK KTs w Sa a ra ∧ AtSK KTp w Sb b rb ∧ AtSK KTb w Sc c rc ∧ AtSK KTa w Sd d rd ∧
    (∀ k, Sa k ∨ Sb k ∨ Sc k ∨ Sd k → B ≤ k ∧ k < w.heap.size ∧ ¬ F k) ∧
    (∀ k, Sa k → ¬ Sb k ∧ ¬ Sc k ∧ ¬ Sd k) ∧ (∀ k, Sb k → ¬ Sc k ∧ ¬ Sd k) ∧ (∀ k, Sc k → ¬ Sd k)
theorem Four.below {w w' : World} {B : Nat} {F : Nat → Prop} {a b c d : Nat} {ra rb rc rd : List Nat} (h : Four w B F a b c d ra rb rc rd) (hb : Below w.heap.size w w') : Four w' B F a b c d ra rb rc rd := by
  obtain ⟨Sa, Sb, Sc, Sd, h1, h2, h3, h4, h5, h6, h7, h8⟩ := h
  exact ⟨Sa, Sb, Sc, Sd, h1.below hb, h2.below hb, h3.below hb, h4.below hb, fun k hk => ⟨(h5 k hk).1, Nat.lt_of_lt_of_le (h5 k hk).2.1 hb.size, (h5 k hk).2.2⟩, h6, h7, h8⟩
/-- other blocks to be let alone: all of them lie at the heap's end -/
theorem Four.apart {w w' : World} {B : Nat} {F F' : Nat → Prop} {a b c d : Nat} {ra rb rc rd : List Nat} (h : Four w B F a b c d ra rb rc rd) (hb : Below w.heap.size w w') (hF : ∀ k, F' k → w.heap.size ≤ k) : Four w' B F' a b c d ra rb rc rd := by
  obtain ⟨Sa, Sb, Sc, Sd, h1, h2, h3, h4, h5, h6, h7, h8⟩ := h
  exact ⟨Sa, Sb, Sc, Sd, h1.below hb, h2.below hb, h3.below hb, h4.below hb, fun k hk => ⟨(h5 k hk).1, Nat.lt_of_lt_of_le (h5 k hk).2.1 hb.size, fun hf => by have := hF k hf; have := (h5 k hk).2.1; omega⟩, h6, h7, h8⟩
/-- what a call that wrote one of the four leaves -/
def Left (w w' : World) (B : Nat) (F : Nat → Prop) : Prop := Below B w w' ∧ ∀ k, F k → w'.heap[k]? = w.heap[k]?

theorem Four.add_a {w : World} {B : Nat} {F : Nat → Prop} {a b c d t : Nat} {ra rb rc rd : List Nat} (h : Four w B F a b c d ra rb rc rd) (hB : B ≤ w.heap.size) (hF : ∀ k, F k → k < w.heap.size) (ht : t < 4) :
    Calls Try.prog 12 #[.pointer (some ⟨a, 0, none⟩), KTs.val t] w fun e w' => Four w' B F a b c d (addN ra t) rb rc rd ∧ e = .returned (.int .i64 (poN ra t : Int)) ∧ Left w w' B F := by
  obtain ⟨Sa, Sb, Sc, Sd, h1, h2, h3, h4, h5, h6, h7, h8⟩ := h
  refine (addS_S w Sa a ra t h1 ht).mono fun e w' ⟨he, hA, hK⟩ => ?_
  have hsz := hK.size
  have hbel : Below B w w' := hK.below (fun k hk => (h5 k (by simp [hk])).1) hB
  refine ⟨⟨(fun k => (Sa k ∨ w.heap.size ≤ k) ∧ k < w'.heap.size), Sb, Sc, Sd, (hA.mono (fun k hk => hk)).lt, h2.other hK (fun k hk hx => ((h6 k hx).1) hk), h3.other hK (fun k hk hx => ((h6 k hx).2.1) hk), h4.other hK (fun k hk hx => ((h6 k hx).2.2) hk), ?_, ?_, ?_, ?_⟩, he, hbel, fun k hk => hK.block k (hF k hk) (fun hs => (h5 k (by simp [hs])).2.2 hk)⟩
  all_goals
    intro k hk
    have q5 := h5 k
    have q6 := h6 k
    have q7 := h7 k
    have q8 := h8 k
    have q9 := hF k
    grind

theorem Four.cut_a {w : World} {B : Nat} {F : Nat → Prop} {a b c d : Nat} {n : Int} {ra rb rc rd : List Nat} (h : Four w B F a b c d ra rb rc rd) (hB : B ≤ w.heap.size) (hF : ∀ k, F k → k < w.heap.size) :
    Calls Try.prog 19 #[.pointer (some ⟨a, 0, none⟩), .int .i64 n] w fun e w' => Four w' B F a b c d (ra.take n.toNat) rb rc rd ∧ e = .returned (.tuple #[]) ∧ Left w w' B F := by
  obtain ⟨Sa, Sb, Sc, Sd, h1, h2, h3, h4, h5, h6, h7, h8⟩ := h
  refine (cutS_S w Sa a ra n h1).mono fun e w' ⟨he, hA, hK⟩ => ?_
  have hsz := hK.size
  have hbel : Below B w w' := hK.below (fun k hk => (h5 k (by simp [hk])).1) hB
  refine ⟨⟨(fun k => Sa k ∧ k < w'.heap.size), Sb, Sc, Sd, (hA.mono (fun k hk => hk)).lt, h2.other hK (fun k hk hx => ((h6 k hx).1) hk), h3.other hK (fun k hk hx => ((h6 k hx).2.1) hk), h4.other hK (fun k hk hx => ((h6 k hx).2.2) hk), ?_, ?_, ?_, ?_⟩, he, hbel, fun k hk => hK.block k (hF k hk) (fun hs => (h5 k (by simp [hs])).2.2 hk)⟩
  all_goals
    intro k hk
    have q5 := h5 k
    have q6 := h6 k
    have q7 := h7 k
    have q8 := h8 k
    have q9 := hF k
    grind

theorem Four.add_b {w : World} {B : Nat} {F : Nat → Prop} {a b c d t : Nat} {ra rb rc rd : List Nat} (h : Four w B F a b c d ra rb rc rd) (hB : B ≤ w.heap.size) (hF : ∀ k, F k → k < w.heap.size) (ht : t < 4) :
    Calls Try.prog 32 #[.pointer (some ⟨b, 0, none⟩), KTp.val t] w fun e w' => Four w' B F a b c d ra (addN rb t) rc rd ∧ e = .returned (.int .i64 (poN rb t : Int)) ∧ Left w w' B F := by
  obtain ⟨Sa, Sb, Sc, Sd, h1, h2, h3, h4, h5, h6, h7, h8⟩ := h
  refine (addS_P w Sb b rb t h2 ht).mono fun e w' ⟨he, hA, hK⟩ => ?_
  have hsz := hK.size
  have hbel : Below B w w' := hK.below (fun k hk => (h5 k (by simp [hk])).1) hB
  refine ⟨⟨Sa, (fun k => (Sb k ∨ w.heap.size ≤ k) ∧ k < w'.heap.size), Sc, Sd, h1.other hK (fun k hk => (h6 k hk).1), (hA.mono (fun k hk => hk)).lt, h3.other hK (fun k hk hx => ((h7 k hx).1) hk), h4.other hK (fun k hk hx => ((h7 k hx).2) hk), ?_, ?_, ?_, ?_⟩, he, hbel, fun k hk => hK.block k (hF k hk) (fun hs => (h5 k (by simp [hs])).2.2 hk)⟩
  all_goals
    intro k hk
    have q5 := h5 k
    have q6 := h6 k
    have q7 := h7 k
    have q8 := h8 k
    have q9 := hF k
    grind

theorem Four.cut_b {w : World} {B : Nat} {F : Nat → Prop} {a b c d : Nat} {n : Int} {ra rb rc rd : List Nat} (h : Four w B F a b c d ra rb rc rd) (hB : B ≤ w.heap.size) (hF : ∀ k, F k → k < w.heap.size) :
    Calls Try.prog 25 #[.pointer (some ⟨b, 0, none⟩), .int .i64 n] w fun e w' => Four w' B F a b c d ra (rb.take n.toNat) rc rd ∧ e = .returned (.tuple #[]) ∧ Left w w' B F := by
  obtain ⟨Sa, Sb, Sc, Sd, h1, h2, h3, h4, h5, h6, h7, h8⟩ := h
  refine (cutS_P w Sb b rb n h2).mono fun e w' ⟨he, hA, hK⟩ => ?_
  have hsz := hK.size
  have hbel : Below B w w' := hK.below (fun k hk => (h5 k (by simp [hk])).1) hB
  refine ⟨⟨Sa, (fun k => Sb k ∧ k < w'.heap.size), Sc, Sd, h1.other hK (fun k hk => (h6 k hk).1), (hA.mono (fun k hk => hk)).lt, h3.other hK (fun k hk hx => ((h7 k hx).1) hk), h4.other hK (fun k hk hx => ((h7 k hx).2) hk), ?_, ?_, ?_, ?_⟩, he, hbel, fun k hk => hK.block k (hF k hk) (fun hs => (h5 k (by simp [hs])).2.2 hk)⟩
  all_goals
    intro k hk
    have q5 := h5 k
    have q6 := h6 k
    have q7 := h7 k
    have q8 := h8 k
    have q9 := hF k
    grind

theorem Four.add_c {w : World} {B : Nat} {F : Nat → Prop} {a b c d t : Nat} {ra rb rc rd : List Nat} (h : Four w B F a b c d ra rb rc rd) (hB : B ≤ w.heap.size) (hF : ∀ k, F k → k < w.heap.size) (ht : t < 4) :
    Calls Try.prog 33 #[.pointer (some ⟨c, 0, none⟩), KTb.val t] w fun e w' => Four w' B F a b c d ra rb (addN rc t) rd ∧ e = .returned (.int .i64 (poN rc t : Int)) ∧ Left w w' B F := by
  obtain ⟨Sa, Sb, Sc, Sd, h1, h2, h3, h4, h5, h6, h7, h8⟩ := h
  refine (addS_B w Sc c rc t h3 ht).mono fun e w' ⟨he, hA, hK⟩ => ?_
  have hsz := hK.size
  have hbel : Below B w w' := hK.below (fun k hk => (h5 k (by simp [hk])).1) hB
  refine ⟨⟨Sa, Sb, (fun k => (Sc k ∨ w.heap.size ≤ k) ∧ k < w'.heap.size), Sd, h1.other hK (fun k hk => (h6 k hk).2.1), h2.other hK (fun k hk => (h7 k hk).1), (hA.mono (fun k hk => hk)).lt, h4.other hK (fun k hk hx => (h8 k hx) hk), ?_, ?_, ?_, ?_⟩, he, hbel, fun k hk => hK.block k (hF k hk) (fun hs => (h5 k (by simp [hs])).2.2 hk)⟩
  all_goals
    intro k hk
    have q5 := h5 k
    have q6 := h6 k
    have q7 := h7 k
    have q8 := h8 k
    have q9 := hF k
    grind

theorem Four.cut_c {w : World} {B : Nat} {F : Nat → Prop} {a b c d : Nat} {n : Int} {ra rb rc rd : List Nat} (h : Four w B F a b c d ra rb rc rd) (hB : B ≤ w.heap.size) (hF : ∀ k, F k → k < w.heap.size) :
    Calls Try.prog 26 #[.pointer (some ⟨c, 0, none⟩), .int .i64 n] w fun e w' => Four w' B F a b c d ra rb (rc.take n.toNat) rd ∧ e = .returned (.tuple #[]) ∧ Left w w' B F := by
  obtain ⟨Sa, Sb, Sc, Sd, h1, h2, h3, h4, h5, h6, h7, h8⟩ := h
  refine (cutS_B w Sc c rc n h3).mono fun e w' ⟨he, hA, hK⟩ => ?_
  have hsz := hK.size
  have hbel : Below B w w' := hK.below (fun k hk => (h5 k (by simp [hk])).1) hB
  refine ⟨⟨Sa, Sb, (fun k => Sc k ∧ k < w'.heap.size), Sd, h1.other hK (fun k hk => (h6 k hk).2.1), h2.other hK (fun k hk => (h7 k hk).1), (hA.mono (fun k hk => hk)).lt, h4.other hK (fun k hk hx => (h8 k hx) hk), ?_, ?_, ?_, ?_⟩, he, hbel, fun k hk => hK.block k (hF k hk) (fun hs => (h5 k (by simp [hs])).2.2 hk)⟩
  all_goals
    intro k hk
    have q5 := h5 k
    have q6 := h6 k
    have q7 := h7 k
    have q8 := h8 k
    have q9 := hF k
    grind

theorem Four.add_d {w : World} {B : Nat} {F : Nat → Prop} {a b c d t : Nat} {ra rb rc rd : List Nat} (h : Four w B F a b c d ra rb rc rd) (hB : B ≤ w.heap.size) (hF : ∀ k, F k → k < w.heap.size) (ht : t < 4) :
    Calls Try.prog 34 #[.pointer (some ⟨d, 0, none⟩), KTa.val t] w fun e w' => Four w' B F a b c d ra rb rc (addN rd t) ∧ e = .returned (.int .i64 (poN rd t : Int)) ∧ Left w w' B F := by
  obtain ⟨Sa, Sb, Sc, Sd, h1, h2, h3, h4, h5, h6, h7, h8⟩ := h
  refine (addS_A w Sd d rd t h4 ht).mono fun e w' ⟨he, hA, hK⟩ => ?_
  have hsz := hK.size
  have hbel : Below B w w' := hK.below (fun k hk => (h5 k (by simp [hk])).1) hB
  refine ⟨⟨Sa, Sb, Sc, (fun k => (Sd k ∨ w.heap.size ≤ k) ∧ k < w'.heap.size), h1.other hK (fun k hk => (h6 k hk).2.2), h2.other hK (fun k hk => (h7 k hk).2), h3.other hK (fun k hk => h8 k hk), (hA.mono (fun k hk => hk)).lt, ?_, ?_, ?_, ?_⟩, he, hbel, fun k hk => hK.block k (hF k hk) (fun hs => (h5 k (by simp [hs])).2.2 hk)⟩
  all_goals
    intro k hk
    have q5 := h5 k
    have q6 := h6 k
    have q7 := h7 k
    have q8 := h8 k
    have q9 := hF k
    grind

theorem Four.cut_d {w : World} {B : Nat} {F : Nat → Prop} {a b c d : Nat} {n : Int} {ra rb rc rd : List Nat} (h : Four w B F a b c d ra rb rc rd) (hB : B ≤ w.heap.size) (hF : ∀ k, F k → k < w.heap.size) :
    Calls Try.prog 27 #[.pointer (some ⟨d, 0, none⟩), .int .i64 n] w fun e w' => Four w' B F a b c d ra rb rc (rd.take n.toNat) ∧ e = .returned (.tuple #[]) ∧ Left w w' B F := by
  obtain ⟨Sa, Sb, Sc, Sd, h1, h2, h3, h4, h5, h6, h7, h8⟩ := h
  refine (cutS_A w Sd d rd n h4).mono fun e w' ⟨he, hA, hK⟩ => ?_
  have hsz := hK.size
  have hbel : Below B w w' := hK.below (fun k hk => (h5 k (by simp [hk])).1) hB
  refine ⟨⟨Sa, Sb, Sc, (fun k => Sd k ∧ k < w'.heap.size), h1.other hK (fun k hk => (h6 k hk).2.2), h2.other hK (fun k hk => (h7 k hk).2), h3.other hK (fun k hk => h8 k hk), (hA.mono (fun k hk => hk)).lt, ?_, ?_, ?_, ?_⟩, he, hbel, fun k hk => hK.block k (hF k hk) (fun hs => (h5 k (by simp [hs])).2.2 hk)⟩
  all_goals
    intro k hk
    have q5 := h5 k
    have q6 := h6 k
    have q7 := h7 k
    have q8 := h8 k
    have q9 := hF k
    grind

end Go.Proofs.Ytijmhegccakndaa
