/-
  CopyTexts, lent, kept, From as plain functions; Pick.
-/
import Derived.Test.YtijmhegccakndaaPInternScriptx2
import Derived.Test.YtijmhegccakndaaRef
namespace Go.Proofs.Ytijmhegccakndaa
open Go.RowKit
open Go.Proofs.YtijmhegccakndaaW.PrintWords Go.Proofs.YtijmhegccakndaaW.PrintMore
open PInternScript

theorem find_l0s (l : List ByteArray) (t : ByteArray) (hl : l.length ≤ 4611686018427387904) : ∀ (d k i : Nat), i + d = l.length → d < k → (∀ j, j < i → l[j]? ≠ some t) → portageref05_Find.l0 k l t (i : Int) = some (fN l t, fB l t) := by
  intro d
  induction d with
  | zero =>
    intro k i hi hk hf
    obtain ⟨k, rfl⟩ : ∃ m, k = m + 1 := ⟨k - 1, by omega⟩
    have hn : ¬ t ∈ l := by
      have := not_mem_take (l := l) (t := t) (k := i) hf
      rwa [List.take_of_length_le (by omega)] at this
    simp only [portageref05_Find.l0]
    rw [if_neg (by omega), fN_no hn, fB_no hn]
  | succ d ih =>
    intro k i hi hk hf
    obtain ⟨k, rfl⟩ : ∃ m, k = m + 1 := ⟨k - 1, by omega⟩
    obtain ⟨u, hu⟩ : ∃ u, l[i]? = some u := ⟨_, List.getElem?_eq_getElem (by omega)⟩
    simp only [portageref05_Find.l0]
    rw [if_pos (by omega), if_pos (by omega), rd_get l i u hu]
    by_cases he : u = t
    · subst he
      rw [if_pos rfl, fN_yes (List.mem_of_getElem? hu), fB_yes (List.mem_of_getElem? hu), show posOf l u = i from idxOf_of hu hf]
    · have ht : ¬ u.toList = t.toList := by
        intro e
        have := toList_eq (a := u) (b := t)
        rw [e] at this
        simp at this
        exact he this
      have hw : wrap64 ((i : Int) + 1) = ((i + 1 : Nat) : Int) := by unfold wrap64; omega
      rw [if_neg ht, hw]
      refine ih k (i + 1) (by omega) (by omega) fun j hj e => ?_
      rcases Nat.lt_or_ge j i with h1 | h1
      · exact hf j h1 e
      · obtain rfl : j = i := by omega
        rw [hu] at e
        exact he (Option.some.inj e)
theorem find_fs (l : List ByteArray) (t : ByteArray) (k : Nat) (hl : l.length ≤ 4611686018427387904) (hk : l.length < k) : portageref05_Find.f k l t = some (fN l t, fB l t) :=
  find_l0s l t hl l.length k 0 (by omega) hk fun j hj => absurd hj (by omega)

theorem nxt (i : Nat) (h : i < 4611686018427387904) : wrap64 ((i : Int) + 1) = ((i + 1 : Nat) : Int) := by unfold wrap64; omega
theorem copy_l0 (l : List ByteArray) (hl : l.length < 8796093022208) : ∀ (d k i : Nat), i + d = l.length → d < k → portageref0_CopyTexts.l0 k l (l.take i) (i : Int) = some l := by
  intro d
  induction d with
  | zero =>
    intro k i hi hk
    obtain ⟨k, rfl⟩ : ∃ m, k = m + 1 := ⟨k - 1, by omega⟩
    simp only [portageref0_CopyTexts.l0]
    rw [if_neg (by omega), List.take_of_length_le (by omega)]
  | succ d ih =>
    intro k i hi hk
    obtain ⟨k, rfl⟩ : ∃ m, k = m + 1 := ⟨k - 1, by omega⟩
    obtain ⟨u, hu⟩ : ∃ u, l[i]? = some u := ⟨_, List.getElem?_eq_getElem (by omega)⟩
    simp only [portageref0_CopyTexts.l0]
    rw [if_pos (by omega), if_pos (by omega), if_pos (by rw [List.length_take]; omega), rd_get l i u hu, nxt i (by omega), ← take_snoc hu]
    exact ih k (i + 1) (by omega) (by omega)
theorem copy_f (l : List ByteArray) (k : Nat) (hl : l.length < 8796093022208) (hk : l.length < k) : portageref0_CopyTexts.f k l = some l := by
  have h := copy_l0 l hl l.length k 0 (by omega) hk
  rw [List.take_zero] at h
  exact h
def mark : ByteArray := ⟨#[109, 97, 114, 107]⟩
theorem lent_l0 (l : List ByteArray) (hl : l.length + 64 < 8796093022208) : ∀ (d k i : Nat), i + d = 64 → d < k → portagelaw05_lent.l0 k (l ++ List.replicate i mark) (i : Int) = some (l ++ List.replicate 64 mark) := by
  intro d
  induction d with
  | zero =>
    intro k i hi hk
    obtain ⟨k, rfl⟩ : ∃ m, k = m + 1 := ⟨k - 1, by omega⟩
    simp only [portagelaw05_lent.l0]
    rw [if_neg (by omega), show i = 64 by omega]
  | succ d ih =>
    intro k i hi hk
    obtain ⟨k, rfl⟩ : ∃ m, k = m + 1 := ⟨k - 1, by omega⟩
    simp only [portagelaw05_lent.l0]
    rw [if_pos (by omega), if_pos (by simp; omega), nxt i (by omega), List.append_assoc, show List.replicate i mark ++ [(⟨#[109, 97, 114, 107]⟩ : ByteArray)] = List.replicate (i + 1) mark from List.replicate_succ'.symm]
    exact ih k (i + 1) (by omega) (by omega)
theorem lent_f (l : List ByteArray) (k : Nat) (hl : l.length + 64 < 8796093022208) (hk : l.length + 64 < k) : portagelaw05_lent.f k l = some (l ++ List.replicate 64 mark) := by
  unfold portagelaw05_lent.f
  rw [copy_f l k (by omega) (by omega)]
  have h := lent_l0 l hl 64 k 0 (by omega) (by omega)
  rw [List.replicate_zero, List.append_nil] at h
  exact h
theorem kept_l0 (l : List ByteArray) (hl : l.length + 64 < 8796093022208) : ∀ (d k i : Nat), i + d = l.length + 64 → d < k → portagelaw05_kept.l0 k (l ++ List.replicate 64 mark) l (i : Int) = some true := by
  intro d
  induction d with
  | zero =>
    intro k i hi hk
    obtain ⟨k, rfl⟩ : ∃ m, k = m + 1 := ⟨k - 1, by omega⟩
    simp only [portagelaw05_kept.l0]
    rw [if_neg (by simp; omega)]
  | succ d ih =>
    intro k i hi hk
    obtain ⟨k, rfl⟩ : ∃ m, k = m + 1 := ⟨k - 1, by omega⟩
    simp only [portagelaw05_kept.l0]
    rw [if_pos (by simp; omega)]
    by_cases hil : i < l.length
    · obtain ⟨u, hu⟩ : ∃ u, l[i]? = some u := ⟨_, List.getElem?_eq_getElem hil⟩
      rw [if_pos (by omega), if_pos (by omega), rd_get l i u hu, rd_get _ i u (by rw [List.getElem?_append_left hil]; exact hu), if_pos rfl, nxt i (by omega)]
      exact ih k (i + 1) (by omega) (by omega)
    · have hm : (l ++ List.replicate 64 mark)[i]? = some mark := by
        rw [List.getElem?_append_right (by omega), List.getElem?_replicate, if_pos (by omega)]
      rw [if_neg (by omega), if_pos (by omega), rd_get _ i mark hm, if_pos (by simp [mark, ByteArray.toList_eq]), nxt i (by omega)]
      exact ih k (i + 1) (by omega) (by omega)
theorem kept_f (l : List ByteArray) (k : Nat) (hl : l.length + 64 < 8796093022208) (hk : l.length + 64 < k) : portagelaw05_kept.f k (l ++ List.replicate 64 mark) l = some true := by
  unfold portagelaw05_kept.f
  have hw : wrap64 ((l.length : Int) + 64) = (l.length : Int) + 64 := by unfold wrap64; omega
  rw [if_pos (by rw [hw]; simp)]
  exact kept_l0 l hl (l.length + 64) k 0 (by omega) hk
theorem from_l0 (l : List ByteArray) (hl : l.length < 8796093022208) : ∀ (d k i : Nat), i + d = l.length → 2 * l.length + 2 ≤ k + i → (l.take i).Nodup → portageref05_From.l0 k l (l.take i) (i : Int) = if l.Nodup then some (l, true) else some ([], false) := by
  intro d
  induction d with
  | zero =>
    intro k i hi hk hn
    obtain ⟨k, rfl⟩ : ∃ m, k = m + 1 := ⟨k - 1, by omega⟩
    rw [List.take_of_length_le (by omega)] at hn ⊢
    simp only [portageref05_From.l0]
    rw [if_neg (by omega), if_pos hn]
  | succ d ih =>
    intro k i hi hk hn
    obtain ⟨k, rfl⟩ : ∃ m, k = m + 1 := ⟨k - 1, by omega⟩
    obtain ⟨u, hu⟩ : ∃ u, l[i]? = some u := ⟨_, List.getElem?_eq_getElem (by omega)⟩
    simp only [portageref05_From.l0]
    rw [if_pos (by omega), if_pos (by omega), rd_get l i u hu, find_fs (l.take i) u k (by rw [List.length_take]; omega) (by rw [List.length_take]; omega)]
    simp only [Option.bind_some]
    by_cases hm : u ∈ l.take i
    · have hno : ¬ l.Nodup := fun h => by
        have h2 := (List.nodup_append.1 (by rw [List.take_append_drop]; exact h : (l.take i ++ l.drop i).Nodup)).2.2 u hm
        have h3 : u ∈ l.drop i := by rw [List.mem_iff_getElem?]; exact ⟨0, by rw [List.getElem?_drop]; simpa using hu⟩
        exact h2 u h3 rfl
      rw [if_pos (fB_yes hm), if_neg hno]
    · rw [if_neg (by rw [fB_no hm]; decide), if_pos (by rw [List.length_take]; omega), nxt i (by omega), ← take_snoc hu]
      refine ih k (i + 1) (by omega) (by omega) ?_
      rw [take_snoc hu]
      rw [List.nodup_append]
      exact ⟨hn, by simp, fun a ha b hb => by simp at hb; subst hb; intro e; subst e; exact hm ha⟩
theorem from_f (l : List ByteArray) (k : Nat) (hl : l.length < 8796093022208) (hk : 2 * l.length + 2 ≤ k) : portageref05_From.f k l = if l.Nodup then some (l, true) else some ([], false) := by
  have h := from_l0 l hl l.length k 0 (by omega) (by omega) (by simp)
  rw [List.take_zero] at h
  exact h
theorem pick_f (a n : Int) (hn : 0 < n) (hn2 : n ≤ 100) : portagekit_Pick.f a n = some (a % n) := by
  unfold portagekit_Pick.f
  have hs := Int.tmod_add_mul_tdiv a n
  have hlo := Int.lt_tmod_of_pos a hn
  have hhi := Int.tmod_lt_of_pos a hn
  rw [if_neg (by omega), if_neg (by omega)]
  have he := Int.emod_add_mul_ediv a n
  have h1 := Int.emod_nonneg a (show n ≠ 0 by omega)
  have h2 := Int.emod_lt_of_pos a hn
  by_cases h : Int.tmod a n < 0
  · rw [if_pos h]
    have hw : wrap64 (Int.tmod a n + n) = Int.tmod a n + n := by unfold wrap64; omega
    rw [hw]
    congr 1
    have := Int.emod_emod_of_dvd (Int.tmod a n + n) (Int.dvd_refl n)
    have e1 : (Int.tmod a n + n) % n = Int.tmod a n + n := Int.emod_eq_of_lt (by omega) (by omega)
    have e2 : (Int.tmod a n + n) % n = a % n := by
      rw [Int.add_emod_right]
      have : a = Int.tmod a n + n * Int.tdiv a n := by omega
      conv => rhs; rw [this]
      rw [Int.add_mul_emod_self_left]
    omega
  · rw [if_neg h]
    congr 1
    have e1 : (Int.tmod a n) % n = Int.tmod a n := Int.emod_eq_of_lt (by omega) (by omega)
    have e2 : (Int.tmod a n) % n = a % n := by
      have : a = Int.tmod a n + n * Int.tdiv a n := by omega
      conv => rhs; rw [this]
      rw [Int.add_mul_emod_self_left]
    omega
end Go.Proofs.Ytijmhegccakndaa
