/-
  An index of any of the law's kinds of things, each thing told by a number below 4: what its map and its row hold; plain part.
-/
import Derived.Test.YtijmhegccakndaaCut
import Derived.DeepKeys4
namespace Go.Proofs.Ytijmhegccakndaa
open Go.RowKit Go.Maps Go.WideMaps
open Go.ChangeMaps (setBlock)
open Go.Proofs.YtijmhegccakndaaW.PrintWords Go.Proofs.YtijmhegccakndaaW.PrintMore

/-- a kind of things: the key's type, the struct's, how many cells, and each thing's value, cells and key -/
structure KT where
  key : TypeId
  st : TypeId
  n : Nat
  val : Nat → Value
  cells : Nat → List Value
  lit : Nat → Lit
/-- what is asked of it -/
structure KT.Ok (K : KT) : Prop where
  keyed : Keyed Try.prog K.key
  keyOf : ∀ k, k < 4 → keyOf Try.prog K.key (K.val k) = some (K.lit k)
  isKey : ∀ k, k < 4 → WideAt.IsKeyLit (K.lit k)
  inj : ∀ a b, a < 4 → b < 4 → K.lit a = K.lit b → a = b
  len : ∀ k, (K.cells k).length = K.n
  one : ∀ k u, u ∈ K.cells k → u.oneCell' = true
  pos : 0 < K.n
  other : K.st ≠ K.key

/-- the map reads as the row -/
structure AgreeK (K : KT) (D : DataW Unit) (row : List Nat) : Prop where
  tidy : Tidy D
  size : Maps.size D = row.length
  apart : row.Nodup
  small : ∀ t, t ∈ row → t < 4
  at_ : ∀ (i t : Nat), row[i]? = some t → D.atKey (K.lit t) (.lit (.int .i64 0)) = .lit (.int .i64 (i : Int))
  has : ∀ t : Nat, t < 4 → (Maps.has D (K.lit t) = true ↔ t ∈ row)

variable {K : KT}
theorem AgreeK.empty : AgreeK K (.map []) [] :=
  ⟨tidy_empty, rfl, List.nodup_nil, fun t h => by simp at h, fun i t h => by simp at h, fun t _ => by simp [Maps.has_eq]⟩

theorem AgreeK.push (ok : K.Ok) {D : DataW Unit} {row : List Nat} {t : Nat} (h : AgreeK K D row) (hs : t < 4) (hn : ¬ t ∈ row) :
    AgreeK K (D.put (K.lit t) (.lit (.int .i64 (row.length : Int)))) (row ++ [t]) := by
  have hk := ok.isKey t hs
  have hno : Maps.has D (K.lit t) = false := by
    cases e : Maps.has D (K.lit t) with
    | false => rfl
    | true => exact absurd ((h.has t hs).1 e) hn
  refine ⟨h.tidy.put hk _, ?_, ?_, ?_, ?_, ?_⟩
  · rw [size_put h.tidy, hno]; simp [h.size]
  · rw [List.nodup_append]
    exact ⟨h.apart, by simp, fun a ha b hb => by simp at hb; subst hb; intro e; subst e; exact hn ha⟩
  · intro u hu
    rcases List.mem_append.1 hu with hu | hu
    · exact h.small u hu
    · simp at hu; subst hu; exact hs
  · intro i u hu
    by_cases hi : i < row.length
    · rw [List.getElem?_append_left hi] at hu
      have hu4 := h.small u (List.mem_of_getElem? hu)
      rw [atKey_put_other]
      · exact h.at_ i u hu
      · intro e
        have := ok.inj _ _ (by first | exact hs | exact hu4) (by first | exact hu4 | exact hs) e
        subst this
        exact hn (List.mem_of_getElem? hu)
    · rw [List.getElem?_append_right (by omega)] at hu
      have hi2 : i - row.length = 0 := by
        rcases Nat.eq_zero_or_pos (i - row.length) with h0 | h0
        · exact h0
        · rw [List.getElem?_eq_none (by simp; omega)] at hu; cases hu
      rw [hi2] at hu
      simp at hu
      subst hu
      rw [atKey_put_same h.tidy.isMap hk]
      have : i = row.length := by omega
      rw [this]
  · intro u hu
    by_cases e : u = t
    · subst e
      rw [has_put_same h.tidy.isMap hk]
      simp
    · rw [has_put_other (fun q => e (ok.inj _ _ (by first | exact hu | exact hs) (by first | exact hs | exact hu) q)), h.has u hu]
      simp [e]

/-- the map reads as the row without the things from m up to k -/
structure AgreePK (K : KT) (D : DataW Unit) (row : List Nat) (m k : Nat) : Prop where
  tidy : Tidy D
  size : Maps.size D + (k - m) = row.length
  at_ : ∀ (i t : Nat), row[i]? = some t → (i < m ∨ k ≤ i) → D.atKey (K.lit t) (.lit (.int .i64 0)) = .lit (.int .i64 (i : Int))
  has : ∀ t : Nat, t < 4 → (Maps.has D (K.lit t) = true ↔ ∃ i, row[i]? = some t ∧ (i < m ∨ k ≤ i))

theorem AgreePK.start {D : DataW Unit} {row : List Nat} (h : AgreeK K D row) (m : Nat) : AgreePK K D row m m :=
  ⟨h.tidy, by rw [h.size]; omega, fun i t hi _ => h.at_ i t hi, fun t ht => by
    rw [h.has t ht, List.mem_iff_getElem?]
    exact ⟨fun ⟨i, hi⟩ => ⟨i, hi, by omega⟩, fun ⟨i, hi, _⟩ => ⟨i, hi⟩⟩⟩
theorem place_uniqueN {row : List Nat} (hn : row.Nodup) {t i j : Nat} (hi : row[i]? = some t) (hj : row[j]? = some t) : i = j := by
  have h1 := (List.getElem?_eq_some_iff.1 hi)
  have h2 := (List.getElem?_eq_some_iff.1 hj)
  obtain ⟨a, ha⟩ := h1
  obtain ⟨b, hb⟩ := h2
  have hp := List.pairwise_iff_getElem.1 hn
  rcases Nat.lt_trichotomy i j with e | e | e
  · exact absurd (ha.trans hb.symm) (hp i j a b e)
  · exact e
  · exact absurd (hb.trans ha.symm) (hp j i b a e)

theorem AgreePK.step (ok : K.Ok) {D : DataW Unit} {row : List Nat} {m k t : Nat} (h : AgreePK K D row m k) (hn : row.Nodup) (hsm : ∀ t, t ∈ row → t < 4) (ht : row[k]? = some t) (hm : m ≤ k) : AgreePK K (D.del (K.lit t)) row m (k + 1) := by
  have hs := hsm t (List.mem_of_getElem? ht)
  have hyes : Maps.has D (K.lit t) = true := (h.has t hs).2 ⟨k, ht, .inr (Nat.le_refl _)⟩
  refine ⟨h.tidy.del _, ?_, ?_, ?_⟩
  · have := size_del (k := K.lit t) h.tidy
    rw [hyes] at this
    have := h.size
    simp at *
    omega
  · intro i u hi hr
    have hu4 := hsm u (List.mem_of_getElem? hi)
    rw [atKey_del_other]
    · exact h.at_ i u hi (by omega)
    · intro e
      have := ok.inj _ _ (by first | exact hs | exact hu4) (by first | exact hu4 | exact hs) e
      subst this
      have := place_uniqueN hn hi ht
      omega
  · intro u hu
    by_cases e : u = t
    · subst e
      rw [has_del_same]
      constructor
      · intro h; cases h
      · rintro ⟨i, hi, hr⟩
        have := place_uniqueN hn hi ht
        omega
    · rw [has_del_other (fun q => e (ok.inj _ _ (by first | exact hu | exact hs) (by first | exact hs | exact hu) q)), h.has u hu]
      constructor
      · rintro ⟨i, hi, hr⟩
        refine ⟨i, hi, ?_⟩
        rcases hr with hr | hr
        · exact .inl hr
        · by_cases hik : i = k
          · subst hik
            rw [ht] at hi
            exact absurd (Option.some.inj hi).symm e
          · exact .inr (by omega)
      · rintro ⟨i, hi, hr⟩
        exact ⟨i, hi, by omega⟩

theorem AgreePK.finish {D : DataW Unit} {row : List Nat} {m : Nat} (h : AgreePK K D row m row.length) (hn : row.Nodup) (hs : ∀ t, t ∈ row → t < 4) (hm : m ≤ row.length) : AgreeK K D (row.take m) := by
  have hlen : (row.take m).length = m := by rw [List.length_take]; omega
  have hget : ∀ (i t : Nat), (row.take m)[i]? = some t ↔ row[i]? = some t ∧ i < m := by
    intro i t
    rcases Nat.lt_or_ge i m with hi | hi
    · rw [List.getElem?_take_of_lt hi]; exact ⟨fun h => ⟨h, hi⟩, fun h => h.1⟩
    · rw [List.getElem?_eq_none (by omega)]; constructor
      · intro h; cases h
      · intro h; omega
  refine ⟨h.tidy, ?_, hn.sublist (List.take_sublist _ _), fun t ht => hs t (List.mem_of_mem_take ht), ?_, ?_⟩
  · have := h.size; omega
  · intro i t hi
    have := (hget i t).1 hi
    exact h.at_ i t this.1 (.inl this.2)
  · intro t ht
    rw [h.has t ht, List.mem_iff_getElem?]
    constructor
    · rintro ⟨i, hi, hr⟩
      have hlt := (List.getElem?_eq_some_iff.1 hi).1
      exact ⟨i, (hget i t).2 ⟨hi, by omega⟩⟩
    · rintro ⟨i, hi⟩
      have := (hget i t).1 hi
      exact ⟨i, this.1, .inl this.2⟩

/-- the cells of a row -/
def KT.row (K : KT) (l : List Nat) : List Value := l.flatMap K.cells
theorem KT.row_length (ok : K.Ok) (l : List Nat) : (K.row l).length = l.length * K.n := by
  unfold KT.row
  induction l with
  | nil => simp
  | cons a r ih => rw [List.flatMap_cons, List.length_append, ih, ok.len, List.length_cons, Nat.succ_mul, Nat.add_comm]
theorem KT.row_push (l : List Nat) (t : Nat) : K.row (l ++ [t]) = K.row l ++ K.cells t := by
  unfold KT.row
  rw [List.flatMap_append]
  simp
theorem KT.row_take (ok : K.Ok) (l : List Nat) (m : Nat) : (K.row l).take (m * K.n) = K.row (l.take m) := by
  unfold KT.row
  induction l generalizing m with
  | nil => simp
  | cons a r ih =>
    cases m with
    | zero => simp
    | succ m =>
      rw [List.take_succ_cons, List.flatMap_cons, List.flatMap_cons, ← ih m, List.take_append, ok.len]
      rw [List.take_of_length_le (by rw [ok.len, Nat.succ_mul]; exact Nat.le_add_left _ _)]
      congr 2
      rw [Nat.succ_mul]
      omega
theorem KT.row_cell (ok : K.Ok) (l : List Nat) (i t j : Nat) (hi : l[i]? = some t) (hj : j < K.n) : (K.row l)[i * K.n + j]? = (K.cells t)[j]? := by
  unfold KT.row
  induction l generalizing i with
  | nil => cases hi
  | cons a r ih =>
    cases i with
    | zero =>
      obtain rfl : a = t := by simpa using hi
      rw [List.flatMap_cons, Nat.zero_mul, Nat.zero_add, List.getElem?_append_left (by rw [ok.len]; exact hj)]
    | succ i =>
      rw [List.flatMap_cons, List.getElem?_append_right (by rw [ok.len, Nat.succ_mul]; omega), ok.len, show (i + 1) * K.n + j - K.n = i * K.n + j by rw [Nat.succ_mul]; omega]
      exact ih i (by simpa using hi)

/-- The index behind the pointer to block b holds the row; all its blocks lie in S. -/
structure IxK (K : KT) (w : World) (b bm : Nat) (v : Value) (D : DataW Unit) (row : List Nat) : Prop where
  block : w.heap[b]? = some (.cells #[.map (some bm), v] K.st (0, 0))
  map : w.ownsMap Try.prog K.key (plainElem Try.prog 3) bm row.length D
  agree : AgreeK K D row
  items : w.ownsRow 0 K.key K.n v row.length (K.row row)
theorem IxK.slice {w : World} {b bm : Nat} {v : Value} {D : DataW Unit} {row : List Nat} (h : IxK K w b bm v D row) : ∃ A c, v = .slice A row.length c := own_slice h.items
end Go.Proofs.Ytijmhegccakndaa
