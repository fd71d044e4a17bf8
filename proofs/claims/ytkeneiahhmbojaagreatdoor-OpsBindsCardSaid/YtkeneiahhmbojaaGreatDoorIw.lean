/-
  An index whose blocks lie in S: what Add does to it and to nothing else; At and Len; 'lives'.
-/
import Derived.Test.YtkeneiahhmbojaaGreatDoorIo
namespace Go.Proofs.YtkeneiahhmbojaaGreatDoor
open Go.RowKit Go.Maps Go.WideMaps
open Go.Proofs.YtkeneiahhmbojaaGreatDoorW.PrintWords Go.Proofs.YtkeneiahhmbojaaGreatDoorW.PrintMore

/-- the index behind the pointer to block b holds the row; its blocks lie in S -/
def AtS (w : World) (S : Nat → Prop) (b : Nat) (row : List ByteArray) : Prop := ∃ bm v D, Ix w b bm v D row ∧ ∀ k, Ix.S b bm v k → S k

theorem AtS.of {w : World} {base b : Nat} {row : List ByteArray} (h : At w base b row) : AtS w (fun k => base ≤ k ∧ k < w.heap.size) b row := by
  obtain ⟨bm, v, D, hI, h1, h2, h3⟩ := h
  refine ⟨bm, v, D, hI, fun k hk => ⟨?_, hI.lt k hk⟩⟩
  rcases hk with rfl | rfl | hk
  · exact h1
  · exact h2
  · exact h3 k hk
theorem AtS.at {w : World} {S : Nat → Prop} {base b : Nat} {row : List ByteArray} (h : AtS w S b row) (hS : ∀ k, S k → base ≤ k) : At w base b row := by
  obtain ⟨bm, v, D, hI, h1⟩ := h
  exact ⟨bm, v, D, hI, hS _ (h1 _ (.inl rfl)), hS _ (h1 _ (.inr (.inl rfl))), fun k hk => hS _ (h1 _ (.inr (.inr hk)))⟩
theorem AtS.kept {w w' : World} {S : Nat → Prop} {b : Nat} {row : List ByteArray} (h : AtS w S b row) (hk : ∀ k, S k → k < w.heap.size → w'.heap[k]? = w.heap[k]?) : AtS w' S b row := by
  obtain ⟨bm, v, D, hI, h1⟩ := h
  exact ⟨bm, v, D, hI.kept (fun k hk' => hk k (h1 k hk') (hI.lt k hk')), h1⟩
theorem AtS.mono {w : World} {S S' : Nat → Prop} {b : Nat} {row : List ByteArray} (h : AtS w S b row) (hS : ∀ k, S k → S' k) : AtS w S' b row := by
  obtain ⟨bm, v, D, hI, h1⟩ := h
  exact ⟨bm, v, D, hI, fun k hk => hS k (h1 k hk)⟩
theorem AtS.lt {w : World} {S : Nat → Prop} {b : Nat} {row : List ByteArray} (h : AtS w S b row) : AtS w (fun k => S k ∧ k < w.heap.size) b row := by
  obtain ⟨bm, v, D, hI, h1⟩ := h
  exact ⟨bm, v, D, hI, fun k hk => ⟨h1 k hk, hI.lt k hk⟩⟩

def IsAddS (w : World) (S : Nat → Prop) (b : Nat) (row : List ByteArray) (t : ByteArray) (e : Ending) (w' : World) : Prop :=
  e = .returned (.int .i64 (posOf row t : Int)) ∧ AtS w' (fun k => S k ∨ w.heap.size ≤ k) b (rowAdd row t) ∧ Kp w w' S
theorem add_S (w : World) (S : Nat → Prop) (b : Nat) (row : List ByteArray) (t : ByteArray) (h : AtS w S b row) (hs : t.size ≤ maxLen) (hn : (row.length + 1) * 16 ≤ 140737488355328) :
    Calls Tryz.prog 12 #[.pointer (some ⟨b, 0, none⟩), .string t] w (IsAddS w S b row t) := by
  obtain ⟨bm, v, D, hI, h1⟩ := h
  by_cases hm : t ∈ row
  · refine (add_old w b bm v D row t (posOf row t) hI (idxOf_get hm)).mono fun e w' ⟨he, hw⟩ => ?_
    subst hw
    refine ⟨he, ?_, Kp.refl _ _⟩
    unfold rowAdd
    rw [if_pos hm]
    exact ⟨bm, v, D, hI, fun k hk => .inl (h1 k hk)⟩
  · refine (add_new w b bm v D row t hI hs hm hn).mono fun e w' ⟨he, v', D', hI', hk, ho⟩ => ?_
    refine ⟨by rw [he, idxOf_not_mem hm], ?_, hk.mono h1⟩
    unfold rowAdd
    rw [if_neg hm]
    refine ⟨bm, v', D', hI', fun k hk' => ?_⟩
    rcases hk' with rfl | rfl | hk'
    · exact .inl (h1 _ (.inl rfl))
    · exact .inl (h1 _ (.inr (.inl rfl)))
    · rcases ho with ho | ⟨g, ho, hg⟩
      · exact .inl (h1 k (.inr (.inr (by rw [← ho, hk']))))
      · rw [hk'] at ho
        injection ho with ho
        exact .inr (by omega)

/-- what At answers -/
def aT (row : List ByteArray) (i : Int) : ByteArray := if 0 ≤ i ∧ i < row.length then rdOf ByteArray.empty row i else ⟨#[]⟩
def aB (row : List ByteArray) (i : Int) : Bool := decide (0 ≤ i ∧ i < row.length)
theorem aT_get {row : List ByteArray} {i : Nat} {t : ByteArray} (h : row[i]? = some t) : aT row (i : Int) = t := by
  have hlt := (List.getElem?_eq_some_iff.1 h).1
  unfold aT
  rw [if_pos (by omega)]
  exact rd_get row i t h
theorem aB_get {row : List ByteArray} {i : Nat} {t : ByteArray} (h : row[i]? = some t) : aB row (i : Int) = true := by
  have hlt := (List.getElem?_eq_some_iff.1 h).1
  exact decide_eq_true (by omega)
theorem at_at (w : World) (base b : Nat) (row : List ByteArray) (i : Int) (h : At w base b row) :
    Calls Tryz.prog 28 #[.pointer (some ⟨b, 0, none⟩), .int .i64 i] w fun e w' => e = .returned (.tuple #[.string (aT row i), .bool (aB row i)]) ∧ w = w' := by
  obtain ⟨bm, v, D, hI, _⟩ := h
  by_cases hi : 0 ≤ i ∧ i < row.length
  · obtain ⟨n, rfl⟩ := Int.eq_ofNat_of_zero_le hi.1
    have hu : row[n]? = some (row[n]'(by omega)) := List.getElem?_eq_getElem (by omega)
    rw [aT_get hu, aB_get hu]
    exact at_yes w b bm v D row _ n hI hu
  · have e1 : aT row i = ⟨#[]⟩ := if_neg hi
    have e2 : aB row i = false := decide_eq_false hi
    rw [e1, e2]
    exact at_no w b bm v D row i hI (by omega)

end Go.Proofs.YtkeneiahhmbojaaGreatDoor
