/-
  An index of the call's own, all of whose blocks lie from 'base' on: what is asked of it, in one word each.
-/
import Derived.Test.YtijmhegccakndaaRef
namespace Go.Proofs.Ytijmhegccakndaa
open Go.RowKit Go.Maps Go.WideMaps
open Go.Proofs.YtijmhegccakndaaW.PrintWords Go.Proofs.YtijmhegccakndaaW.PrintMore

/-- the index behind the pointer to block b holds the row; its blocks lie from base on -/
def At (w : World) (base b : Nat) (row : List ByteArray) : Prop :=
  ∃ bm v D, Ix w b bm v D row ∧ base ≤ b ∧ base ≤ bm ∧ ∀ k, v.ownBlock = some k → base ≤ k

theorem Ix.kept {w w' : World} {b bm : Nat} {v : Value} {D : DataW Unit} {row : List ByteArray} (h : Ix w b bm v D row) (hk : ∀ k, Ix.S b bm v k → w'.heap[k]? = w.heap[k]?) : Ix w' b bm v D row := by
  refine ⟨(hk b (.inl rfl)).trans h.block, ?_, h.agree, ?_⟩
  · obtain ⟨es, cl, hb, F, hs, hD⟩ := h.map
    exact ⟨es, cl, (hk bm (.inr (.inl rfl))).trans hb, F, hs, hD⟩
  · obtain ⟨h1, h2⟩ := h.items
    refine ⟨h1, ?_⟩
    rcases h2 with h2 | ⟨g, cap, cur, hv, hb, hg, rest⟩
    · exact .inl h2
    · exact .inr ⟨g, cap, cur, hv, hb, (hk g (.inr (.inr (by rw [hv]; rfl)))).trans hg, rest⟩
theorem Ix.lt {w : World} {b bm : Nat} {v : Value} {D : DataW Unit} {row : List ByteArray} (h : Ix w b bm v D row) (k : Nat) (hk : Ix.S b bm v k) : k < w.heap.size := by
  rcases hk with rfl | rfl | hk
  · exact (Array.getElem?_eq_some_iff.1 h.block).1
  · exact h.map.lt
  · exact (h.items.lt k hk).2
theorem At.kept {w w' : World} {base b : Nat} {row : List ByteArray} (h : At w base b row) (hk : ∀ k, base ≤ k → k < w.heap.size → w'.heap[k]? = w.heap[k]?) : At w' base b row := by
  obtain ⟨bm, v, D, hI, h1, h2, h3⟩ := h
  refine ⟨bm, v, D, hI.kept (fun k hk' => hk k ?_ (hI.lt k hk')), h1, h2, h3⟩
  rcases hk' with rfl | rfl | hk'
  · exact h1
  · exact h2
  · exact h3 k hk'
theorem At.drewN {w : World} {base b : Nat} {row : List ByteArray} (h : At w base b row) (n : Nat) : At (w.drewN n) base b row := h.kept (fun _ _ _ => rfl)
theorem At.below {w w' : World} {base b : Nat} {row : List ByteArray} (h : At w base b row) (hb : Below w.heap.size w w') : At w' base b row := h.kept (fun k _ hk => hb.block k hk)
theorem At.small {w : World} {base b : Nat} {row : List ByteArray} (h : At w base b row) : ∀ t, t ∈ row → t.size ≤ maxLen := by
  obtain ⟨bm, v, D, hI, _⟩ := h
  exact hI.agree.small
theorem At.apart {w : World} {base b : Nat} {row : List ByteArray} (h : At w base b row) : row.Nodup := by
  obtain ⟨bm, v, D, hI, _⟩ := h
  exact hI.agree.apart
theorem At.lower {w : World} {base base' b : Nat} {row : List ByteArray} (h : At w base b row) (hb : base' ≤ base) : At w base' b row := by
  obtain ⟨bm, v, D, hI, h1, h2, h3⟩ := h
  exact ⟨bm, v, D, hI, by omega, by omega, fun k hk => by have := h3 k hk; omega⟩

def IsNew (w : World) (e : Ending) (w' : World) : Prop := ∃ b, e = .returned (.pointer (some ⟨b, 0, none⟩)) ∧ At w' w.heap.size b [] ∧ Below w.heap.size w w'
theorem new_at (w : World) : Calls Try.prog 10 #[] w (IsNew w) := by
  refine (new_any w).mono fun e w' ⟨he, hw⟩ => ?_
  subst hw
  refine ⟨_, he, ⟨w.heap.size, .slice none 0 0, .map [], ⟨?_, ?_, Agree.empty, World.ownsRow_nil _ _ _ _⟩, by omega, by omega, fun k hk => by simp [Value.ownBlock] at hk⟩, ?_⟩
  · have : (w.alloc (.map #[] 0)).heap.size = w.heap.size + 1 := by simp
    rw [← this]
    exact heap_alloc_new _ _
  · exact (World.ownsMap_made w _ _ _).alloc _
  · exact ((Below.refl _ _).alloc (Nat.le_refl _) _).alloc (by simp) _

def IsAdd (w : World) (base b : Nat) (row : List ByteArray) (t : ByteArray) (e : Ending) (w' : World) : Prop :=
  e = .returned (.int .i64 (posOf row t : Int)) ∧ At w' base b (rowAdd row t) ∧ Below base w w'
theorem add_at (w : World) (base b : Nat) (row : List ByteArray) (t : ByteArray) (h : At w base b row) (hbase : base ≤ w.heap.size) (hs : t.size ≤ maxLen) (hn : (row.length + 1) * 16 ≤ 140737488355328) :
    Calls Try.prog 12 #[.pointer (some ⟨b, 0, none⟩), .string t] w (IsAdd w base b row t) := by
  obtain ⟨bm, v, D, hI, h1, h2, h3⟩ := h
  by_cases hm : t ∈ row
  · refine (add_old w b bm v D row t (posOf row t) hI (idxOf_get hm)).mono fun e w' ⟨he, hw⟩ => ?_
    subst hw
    refine ⟨he, ?_, Below.refl _ _⟩
    unfold rowAdd
    rw [if_pos hm]
    exact ⟨bm, v, D, hI, h1, h2, h3⟩
  · refine (add_new w b bm v D row t hI hs hm hn).mono fun e w' ⟨he, v', D', hI', hk, ho⟩ => ?_
    refine ⟨by rw [he, idxOf_not_mem hm], ?_, hk.below (B := base) ?_ hbase⟩
    · unfold rowAdd
      rw [if_neg hm]
      refine ⟨bm, v', D', hI', h1, h2, fun k hk' => ?_⟩
      rcases ho with ho | ⟨g, ho, hg⟩
      · exact h3 k (by rw [← ho, hk'])
      · rw [hk'] at ho
        injection ho with ho
        omega
    · intro j hj
      rcases hj with rfl | rfl | hj
      · exact h1
      · exact h2
      · exact h3 j hj

theorem find_at (w : World) (base b : Nat) (row : List ByteArray) (t : ByteArray) (h : At w base b row) (hs : t.size ≤ maxLen) :
    Calls Try.prog 15 #[.pointer (some ⟨b, 0, none⟩), .string t] w fun e w' => e = .returned (.tuple #[.int .i64 (fN row t), .bool (fB row t)]) ∧ w = w' := by
  obtain ⟨bm, v, D, hI, h1, h2, h3⟩ := h
  by_cases hm : t ∈ row
  · rw [fN_yes hm, fB_yes hm]
    exact find_yes w b bm v D row t (posOf row t) hI (idxOf_get hm)
  · rw [fN_no hm, fB_no hm]
    exact find_no w b bm v D row t hI hs hm
theorem len_at (w : World) (base b : Nat) (row : List ByteArray) (h : At w base b row) : Calls Try.prog 14 #[.pointer (some ⟨b, 0, none⟩)] w fun e w' => e = .returned (.int .i64 (row.length : Int)) ∧ w = w' := by
  obtain ⟨bm, v, D, hI, _⟩ := h
  exact len_any w b bm v D row hI
def IsItems (w : World) (row : List ByteArray) (e : Ending) (w' : World) : Prop := ∃ v' : Value, e = .returned v' ∧ Kd.string.R 9 w' w.heap.size (fun _ => True) v' row ∧ Below w.heap.size w w'
theorem items_at (w : World) (base b : Nat) (row : List ByteArray) (h : At w base b row) (hn : row.length * 16 ≤ 281474976710656) : Calls Try.prog 13 #[.pointer (some ⟨b, 0, none⟩)] w (IsItems w row) := by
  obtain ⟨bm, v, D, hI, _⟩ := h
  exact items_any w b bm v D row hI hn
end Go.Proofs.Ytijmhegccakndaa
