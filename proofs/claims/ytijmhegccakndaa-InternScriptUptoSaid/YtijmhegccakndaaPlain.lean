/-
  Plain lists: the row that things leave behind them when they come one after the other, and the number of each.
-/
import Derived.Test.YtijmhegccakndaaWWords
namespace Go.Proofs.Ytijmhegccakndaa

instance decBytes : DecidableEq ByteArray := fun a b => decidable_of_iff (a.data = b.data) ⟨fun h => by cases a; cases b; simpa using h, fun h => by rw [h]⟩

def memDec {α : Type} [DecidableEq α] (t : α) (l : List α) : Decidable (t ∈ l) := inferInstance
instance memBytes (t : ByteArray) (l : List ByteArray) : Decidable (t ∈ l) := memDec t l

set_option linter.unusedSectionVars false
section
variable {α : Type} [DecidableEq α]
/-- where a thing stands -/
def posOf (l : List α) (t : α) : Nat := l.idxOf t

/-- the row behind one more thing -/
def rowAdd (row : List α) (t : α) : List α := if t ∈ row then row else row ++ [t]
/-- the row behind a list of things -/
def rowOf (l : List α) : List α := l.foldl rowAdd []

theorem mem_rowAdd (row : List α) (t u : α) : u ∈ rowAdd row t ↔ u ∈ row ∨ u = t := by
  unfold rowAdd
  by_cases h : t ∈ row
  · rw [if_pos h]
    exact ⟨.inl, fun q => q.elim id (fun e => e ▸ h)⟩
  · rw [if_neg h]; simp
theorem nodup_rowAdd {row : List α} (h : row.Nodup) (t : α) : (rowAdd row t).Nodup := by
  unfold rowAdd
  by_cases hm : t ∈ row
  · rw [if_pos hm]; exact h
  · rw [if_neg hm, List.nodup_append]
    exact ⟨h, by simp, fun a ha b hb => by simp at hb; subst hb; intro e; subst e; exact hm ha⟩
theorem length_rowAdd (row : List α) (t : α) : row.length ≤ (rowAdd row t).length ∧ (rowAdd row t).length ≤ row.length + 1 := by
  unfold rowAdd
  by_cases hm : t ∈ row
  · rw [if_pos hm]; omega
  · rw [if_neg hm]; simp
theorem prefix_rowAdd (row : List α) (t : α) : row <+: rowAdd row t := by
  unfold rowAdd
  by_cases hm : t ∈ row
  · rw [if_pos hm]; exact List.prefix_rfl
  · rw [if_neg hm]; exact List.prefix_append _ _

theorem foldl_rowAdd_prefix (l : List α) : ∀ row, row <+: l.foldl rowAdd row := by
  induction l with
  | nil => intro row; exact List.prefix_rfl
  | cons t l ih => intro row; exact (prefix_rowAdd row t).trans (ih _)
theorem rowOf_append (l m : List α) : rowOf (l ++ m) = m.foldl rowAdd (rowOf l) := by simp [rowOf, List.foldl_append]
theorem rowOf_snoc (l : List α) (t : α) : rowOf (l ++ [t]) = rowAdd (rowOf l) t := by rw [rowOf_append]; rfl
theorem mem_foldl (l : List α) : ∀ row u, u ∈ l.foldl rowAdd row ↔ u ∈ row ∨ u ∈ l := by
  induction l with
  | nil => intro row u; simp
  | cons t l ih => intro row u; rw [List.foldl_cons, ih, mem_rowAdd]; simp [or_assoc]
theorem mem_rowOf (l : List α) (u : α) : u ∈ rowOf l ↔ u ∈ l := by unfold rowOf; rw [mem_foldl]; simp
theorem nodup_foldl (l : List α) : ∀ row : List α, row.Nodup → (l.foldl rowAdd row).Nodup := by
  induction l with
  | nil => intro row h; exact h
  | cons t l ih => intro row h; exact ih _ (nodup_rowAdd h t)
theorem nodup_rowOf (l : List α) : (rowOf l).Nodup := nodup_foldl l [] List.nodup_nil
theorem length_foldl (l : List α) : ∀ row, (l.foldl rowAdd row).length ≤ row.length + l.length := by
  induction l with
  | nil => intro row; simp
  | cons t l ih => intro row; have := ih (rowAdd row t); have := (length_rowAdd row t).2; simp; omega
theorem length_rowOf (l : List α) : (rowOf l).length ≤ l.length := by have := length_foldl l []; simpa [rowOf] using this
theorem take_snoc {l : List α} {k : Nat} {t : α} (h : l[k]? = some t) : l.take (k + 1) = l.take k ++ [t] := by
  rw [List.take_add_one, h]; rfl
theorem rowOf_take_succ {l : List α} {k : Nat} {t : α} (h : l[k]? = some t) : rowOf (l.take (k + 1)) = rowAdd (rowOf (l.take k)) t := by
  rw [take_snoc h, rowOf_snoc]
theorem rowOf_take_prefix (l : List α) {j k : Nat} (h : j ≤ k) : rowOf (l.take j) <+: rowOf (l.take k) := by
  obtain ⟨d, rfl⟩ := Nat.exists_eq_add_of_le h
  rw [List.take_add, rowOf_append]
  exact foldl_rowAdd_prefix _ _

/-- the number of a thing: how many unlike things stand ahead of the first one that is like it -/
def num (l : List α) (t : α) : Nat := (rowOf (l.take (posOf l t))).length

theorem idxOf_get {l : List α} {t : α} (h : t ∈ l) : l[posOf l t]? = some t := by
  unfold posOf
  have hlt := List.idxOf_lt_length_of_mem h
  rw [List.getElem?_eq_getElem hlt]
  simp
theorem posOf_lt {l : List α} {t : α} (h : t ∈ l) : posOf l t < l.length := List.idxOf_lt_length_of_mem h
theorem idxOf_first {l : List α} {t : α} {j : Nat} (h : j < posOf l t) : l[j]? ≠ some t := by
  intro e
  have hm := List.mem_of_getElem? e
  have hlt : j < l.length := (List.getElem?_eq_some_iff.1 e).1
  have := List.not_of_lt_findIdx (p := (· == t)) (xs := l) (i := j) h
  rw [List.getElem?_eq_getElem hlt] at e
  injection e with e
  rw [e] at this
  simp at this
theorem idxOf_of {l : List α} {t : α} {k : Nat} (h : l[k]? = some t) (hf : ∀ j, j < k → l[j]? ≠ some t) : posOf l t = k := by
  have hm := List.mem_of_getElem? h
  have h1 := idxOf_get hm
  rcases Nat.lt_trichotomy (posOf l t) k with h2 | h2 | h2
  · exact absurd h1 (hf _ h2)
  · exact h2
  · exact absurd h (idxOf_first h2)
theorem not_mem_take {l : List α} {t : α} {k : Nat} (hf : ∀ j, j < k → l[j]? ≠ some t) : ¬ t ∈ l.take k := by
  intro hm
  obtain ⟨j, hj⟩ := List.mem_iff_getElem?.1 hm
  have hlt : j < (l.take k).length := (List.getElem?_eq_some_iff.1 hj).1
  rw [List.length_take] at hlt
  rw [List.getElem?_take_of_lt (by omega)] at hj
  exact hf j (by omega) hj
theorem first_of_not_mem {l : List α} {t : α} {k : Nat} (h : ¬ t ∈ l.take k) : ∀ j, j < k → l[j]? ≠ some t := by
  intro j hj e
  exact h (List.mem_of_getElem? (i := j) (by rw [List.getElem?_take_of_lt hj]; exact e))

/-- at its number stands the thing -/
theorem num_get {l : List α} {t : α} {k : Nat} (h : posOf l t < k) (hm : t ∈ l) : (rowOf (l.take k))[num l t]? = some t := by
  have h1 := rowOf_take_succ (idxOf_get hm)
  have h2 : ¬ t ∈ rowOf (l.take (posOf l t)) := by rw [mem_rowOf]; exact not_mem_take (fun j hj => idxOf_first hj)
  unfold rowAdd at h1
  rw [if_neg h2] at h1
  obtain ⟨m, hm2⟩ := rowOf_take_prefix l (show posOf l t + 1 ≤ k by omega)
  rw [← hm2, h1]
  unfold num
  simp
theorem idxOf_unique {row : List α} (hn : row.Nodup) {t : α} {i : Nat} (h : row[i]? = some t) : posOf row t = i := by
  have hlt : i < row.length := (List.getElem?_eq_some_iff.1 h).1
  refine idxOf_of h (fun j hj e => ?_)
  have hj2 : j < row.length := (List.getElem?_eq_some_iff.1 e).1
  have := (List.getElem_inj (xs := row) (i := j) (j := i) (h₀ := hj2) (h₁ := hlt) hn).1 (by
    rw [List.getElem?_eq_getElem hj2] at e; rw [List.getElem?_eq_getElem hlt] at h
    injection e with e; injection h with h; rw [e, h])
  omega
theorem idxOf_not_mem {row : List α} {t : α} (h : ¬ t ∈ row) : posOf row t = row.length := List.idxOf_eq_length h

/-- what Add answers for the thing k is its number -/
theorem add_num {l : List α} {k : Nat} {t : α} (h : l[k]? = some t) : posOf (rowOf (l.take k)) t = num l t := by
  have hm := List.mem_of_getElem? h
  by_cases hk : t ∈ l.take k
  · have hlt : posOf l t < k := by
      rcases Nat.lt_or_ge (posOf l t) k with h1 | h1
      · exact h1
      · exact absurd hk (not_mem_take (fun j hj => idxOf_first (by omega)))
    exact idxOf_unique (nodup_rowOf _) (num_get hlt hm)
  · rw [idxOf_not_mem (by rw [mem_rowOf]; exact hk)]
    unfold num
    rw [idxOf_of h (first_of_not_mem hk)]
theorem num_lt {l : List α} {t : α} (hm : t ∈ l) : num l t < (rowOf l).length := by
  have h1 := num_get (k := l.length) (List.idxOf_lt_length_of_mem hm) hm
  rw [List.take_length] at h1
  exact (List.getElem?_eq_some_iff.1 h1).1
theorem add_length {l : List α} {k : Nat} {t : α} (h : l[k]? = some t) : (rowOf (l.take (k + 1))).length = if (rowOf (l.take k)).length < num l t + 1 then num l t + 1 else (rowOf (l.take k)).length := by
  rw [rowOf_take_succ h, ← add_num h]
  unfold rowAdd
  by_cases hk : t ∈ rowOf (l.take k)
  · rw [if_pos hk, if_neg]
    have : posOf (rowOf (l.take k)) t < (rowOf (l.take k)).length := List.idxOf_lt_length_of_mem hk
    omega
  · rw [if_neg hk, idxOf_not_mem hk, if_pos (by omega)]
    simp
end
end Go.Proofs.Ytijmhegccakndaa
