/-
  The reference's functions of InternWalk, as plain functions on lists.
-/
import Derived.Test.YtijmhegccakndaaPInternWalkx1
import Derived.Test.YtijmhegccakndaaCut
namespace Go.Proofs.Ytijmhegccakndaa
open Go.RowKit Go.Maps Go.WideMaps
open Go.Proofs.YtijmhegccakndaaW.PrintWords Go.Proofs.YtijmhegccakndaaW.PrintMore
open PInternWalk

theorem find_l0 (l : List ByteArray) (t : ByteArray) (hl : l.length ≤ 4611686018427387904) : ∀ (d k i : Nat), i + d = l.length → d < k → (∀ j, j < i → l[j]? ≠ some t) → portageref05_Find.l0 k l t (i : Int) = some (fN l t, fB l t) := by
  intro d
  induction d with
  | zero =>
    intro k i hi hk hf
    obtain ⟨k, rfl⟩ : ∃ m, k = m + 1 := ⟨k - 1, by omega⟩
    have hn : ¬ t ∈ l := by
      have := not_mem_take (l := l) (t := t) (k := i) hf
      rwa [List.take_of_length_le (by omega)] at this
    simp only [portageref05_Find.l0]
    rw [if_neg (by omega), fN_no hn, fB_no hn]
  | succ d ih =>
    intro k i hi hk hf
    obtain ⟨k, rfl⟩ : ∃ m, k = m + 1 := ⟨k - 1, by omega⟩
    obtain ⟨u, hu⟩ : ∃ u, l[i]? = some u := ⟨_, List.getElem?_eq_getElem (by omega)⟩
    simp only [portageref05_Find.l0]
    rw [if_pos (by omega), if_pos (by omega), rd_get l i u hu]
    by_cases he : u = t
    · subst he
      rw [if_pos rfl, fN_yes (List.mem_of_getElem? hu), fB_yes (List.mem_of_getElem? hu), show posOf l u = i from idxOf_of hu hf]
    · have ht : ¬ u.toList = t.toList := by
        intro e
        have := toList_eq (a := u) (b := t)
        rw [e] at this
        simp at this
        exact he this
      have hw : wrap64 ((i : Int) + 1) = ((i + 1 : Nat) : Int) := by unfold wrap64; omega
      rw [if_neg ht, hw]
      refine ih k (i + 1) (by omega) (by omega) fun j hj e => ?_
      rcases Nat.lt_or_ge j i with h1 | h1
      · exact hf j h1 e
      · obtain rfl : j = i := by omega
        rw [hu] at e
        exact he (Option.some.inj e)
theorem find_f (l : List ByteArray) (t : ByteArray) (k : Nat) (hl : l.length ≤ 4611686018427387904) (hk : l.length < k) : portageref05_Find.f k l t = some (fN l t, fB l t) :=
  find_l0 l t hl l.length k 0 (by omega) hk fun j hj => absurd hj (by omega)

theorem add_l0 (l : List ByteArray) (t : ByteArray) (hl : l.length < 8796093022208) : ∀ (d k i : Nat), i + d = l.length → d < k → portageref05_Add.l0 k l t (l.take i) (i : Int) = some (l ++ [t], (l.length : Int)) := by
  intro d
  induction d with
  | zero =>
    intro k i hi hk
    obtain ⟨k, rfl⟩ : ∃ m, k = m + 1 := ⟨k - 1, by omega⟩
    simp only [portageref05_Add.l0]
    rw [if_neg (by omega), List.take_of_length_le (by omega), if_pos hl]
  | succ d ih =>
    intro k i hi hk
    obtain ⟨k, rfl⟩ : ∃ m, k = m + 1 := ⟨k - 1, by omega⟩
    obtain ⟨u, hu⟩ : ∃ u, l[i]? = some u := ⟨_, List.getElem?_eq_getElem (by omega)⟩
    have hw : wrap64 ((i : Int) + 1) = ((i + 1 : Nat) : Int) := by unfold wrap64; omega
    simp only [portageref05_Add.l0]
    rw [if_pos (by omega), if_pos (by omega), if_pos (by rw [List.length_take]; omega), rd_get l i u hu, hw, ← take_snoc hu]
    exact ih k (i + 1) (by omega) (by omega)
theorem add_f (l : List ByteArray) (t : ByteArray) (k : Nat) (hl : l.length < 8796093022208) (hk : l.length < k) : portageref05_Add.f k l t = some (rowAdd l t, (posOf l t : Int)) := by
  simp only [portageref05_Add.f]
  rw [find_f l t k (by omega) hk]
  simp only [Option.bind_some]
  by_cases hm : t ∈ l
  · rw [fB_yes hm, fN_yes hm, if_pos rfl]
    unfold rowAdd
    rw [if_pos hm]
  · rw [fB_no hm, if_neg (by simp)]
    have := add_l0 l t hl l.length k 0 (by omega) hk
    rw [List.take_zero] at this
    rw [show ((0 : Nat) : Int) = 0 from rfl] at this
    rw [this, idxOf_not_mem hm]
    unfold rowAdd
    rw [if_neg hm]

theorem cut_l0 (l : List ByteArray) (n : Int) (hl : l.length < 8796093022208) : ∀ (d k i : Nat), i + d = l.length → d < k → (i : Int) ≤ n ∨ i = 0 → portageref05_Cut.l0 k l n (l.take i) (i : Int) = some (cutRow l n) := by
  intro d
  induction d with
  | zero =>
    intro k i hi hk hn
    obtain ⟨k, rfl⟩ : ∃ m, k = m + 1 := ⟨k - 1, by omega⟩
    simp only [portageref05_Cut.l0]
    rw [if_neg (by omega)]
    unfold cutRow
    rw [List.take_of_length_le (by omega)]
    by_cases h0 : l.length = 0
    · rw [List.length_eq_zero_iff.1 h0]; simp
    · rw [List.take_of_length_le (by omega)]
  | succ d ih =>
    intro k i hi hk hn
    obtain ⟨k, rfl⟩ : ∃ m, k = m + 1 := ⟨k - 1, by omega⟩
    obtain ⟨u, hu⟩ : ∃ u, l[i]? = some u := ⟨_, List.getElem?_eq_getElem (by omega)⟩
    have hw : wrap64 ((i : Int) + 1) = ((i + 1 : Nat) : Int) := by unfold wrap64; omega
    simp only [portageref05_Cut.l0]
    rw [if_pos (by omega)]
    by_cases hin : (i : Int) < n
    · rw [if_pos hin, if_pos (by omega), if_pos (by rw [List.length_take]; omega), rd_get l i u hu, hw, ← take_snoc hu]
      exact ih k (i + 1) (by omega) (by omega) (.inl (by omega))
    · rw [if_neg hin]
      unfold cutRow
      rw [show n.toNat = i by omega]
theorem cut_f (l : List ByteArray) (n : Int) (k : Nat) (hl : l.length < 8796093022208) (hk : l.length < k) : portageref05_Cut.f k l n = some (cutRow l n) := by
  have := cut_l0 l n hl l.length k 0 (by omega) hk (.inr rfl)
  rw [List.take_zero] at this
  exact this

/-- the row behind an act -/
def doneRow (l : List ByteArray) (a : S72) : List ByteArray := if a.f0 then cutRow l a.f1 else rowAdd l a.f2
theorem done_f (l : List ByteArray) (a : S72) (k : Nat) (hl : l.length < 8796093022208) (hk : l.length < k) : portageref05_Done.f k l a.f0 a.f1 a.f2 = some (doneRow l a) := by
  unfold doneRow
  simp only [portageref05_Done.f]
  by_cases h : a.f0 = true
  · rw [if_pos h, if_pos h, cut_f l _ k hl hk]; rfl
  · rw [if_neg h, if_neg h, add_f l _ k hl hk]; rfl
theorem doneRow_length (l : List ByteArray) (a : S72) : (doneRow l a).length ≤ l.length + 1 := by
  unfold doneRow
  split
  · unfold cutRow; rw [List.length_take]; omega
  · exact (length_rowAdd l a.f2).2

theorem same_l0 (l : List ByteArray) (hl : l.length ≤ 4611686018427387904) : ∀ (d k i : Nat), i + d = l.length → d < k → portageref0_SameTexts.l0 k l l (i : Int) = some true := by
  intro d
  induction d with
  | zero =>
    intro k i hi hk
    obtain ⟨k, rfl⟩ : ∃ m, k = m + 1 := ⟨k - 1, by omega⟩
    simp only [portageref0_SameTexts.l0]
    rw [if_neg (by omega)]
  | succ d ih =>
    intro k i hi hk
    obtain ⟨k, rfl⟩ : ∃ m, k = m + 1 := ⟨k - 1, by omega⟩
    have hw : wrap64 ((i : Int) + 1) = ((i + 1 : Nat) : Int) := by unfold wrap64; omega
    have h1 : (i : Int) < (l.length : Int) := by omega
    have h0 : (0 : Int) ≤ (i : Int) := by omega
    simp [portageref0_SameTexts.l0, h1, h0, hw]
    exact ih k (i + 1) (by omega) (by omega)
theorem same_f (l : List ByteArray) (k : Nat) (hl : l.length ≤ 4611686018427387904) (hk : l.length < k) : portageref0_SameTexts.f k l l = some true := by
  simp only [portageref0_SameTexts.f]
  rw [if_pos trivial]
  exact same_l0 l hl l.length k 0 (by omega) hk

/-- what the act of a place leaves -/
def actRow (acts : List S72) (row : List ByteArray) (i : Nat) : List ByteArray := match acts[i]? with | some a => doneRow row a | none => row

theorem rd_act {acts : List S72} {i : Nat} {a : S72} (h : acts[i]? = some a) : rd_T72 acts (i : Int) = a := by simp [rd_T72, List.getD_eq_getElem?_getD, h]
theorem actRow_length (acts : List S72) (row : List ByteArray) (i : Nat) : (actRow acts row i).length ≤ row.length + 1 := by
  unfold actRow
  split
  · exact doneRow_length _ _
  · omega
theorem done_any {row r : List ByteArray} {a : S72} {k : Nat} (hl : row.length < 8796093022208) (h : portageref05_Done.f k row a.f0 a.f1 a.f2 = some r) : r = doneRow row a := by
  have h1 := at_rounds (fun k => portageref05_Done.mono row a.f0 a.f1 a.f2 k) (Nat.le_add_right k (row.length + 1)) h
  rw [done_f row a _ hl (by omega)] at h1
  exact (Option.some.inj h1).symm
/-- one round of the reference's Walk -/
theorem walk_round {acts : List S72} {stop : Int} {n0 : Nat} {row : List ByteArray} {out want : List S78} {next : List ByteArray} {k : Nat} {t : ByteArray} (hl : row.length < 8796093022208)
    (h : portageref05_Walk.l0 k row acts stop out (n0 : Int) (out.length : Int) = some (want, next)) (h1 : out.length < n0) (ht : row[out.length]? = some t) :
    ((out.length : Int) + 1 = stop ∧ want = out ++ [⟨(out.length : Int), t⟩] ∧ next = actRow acts row out.length) ∨
    ((out.length : Int) + 1 ≠ stop ∧ ∃ k', k' < k ∧ portageref05_Walk.l0 k' (actRow acts row out.length) acts stop (out ++ [⟨(out.length : Int), t⟩]) (n0 : Int) ((out ++ [(⟨(out.length : Int), t⟩ : S78)]).length : Int) = some (want, next)) := by
  have hlt : out.length < row.length := (List.getElem?_eq_some_iff.1 ht).1
  have hw : wrap64 ((out.length : Int) + 1) = ((out ++ [(⟨(out.length : Int), t⟩ : S78)]).length : Int) := by unfold wrap64; simp; omega
  cases k with
  | zero => simp [portageref05_Walk.l0] at h
  | succ k =>
    simp only [portageref05_Walk.l0] at h
    rw [if_pos (by omega), decide_eq_true (by omega)] at h
    cases k with
    | zero => simp [portageref05_Walk.j1] at h
    | succ k =>
      simp only [portageref05_Walk.j1] at h
      rw [if_pos trivial, if_pos (by omega), if_pos (by omega)] at h
      by_cases hb : out.length < 5864062014805
      · rw [if_pos hb, rd_get row out.length t ht] at h
        simp only [Option.bind_some] at h
        have hll : (((out ++ [(⟨(out.length : Int), t⟩ : S78)]).length : Nat) : Int) = (out.length : Int) + 1 := by simp
        by_cases ha : out.length < acts.length
        · obtain ⟨a, haa⟩ : ∃ a, acts[out.length]? = some a := ⟨_, List.getElem?_eq_getElem ha⟩
          rw [if_pos (by omega), rd_act haa] at h
          cases hd : portageref05_Done.f k row a.f0 a.f1 a.f2 with
          | none => rw [hd] at h; simp at h
          | some r =>
            have hr := done_any hl hd
            have har : actRow acts row out.length = r := by unfold actRow; rw [haa, hr]
            rw [hd] at h
            simp only [Option.bind_some] at h
            rw [hll] at h
            by_cases hs : (out.length : Int) + 1 = stop
            · rw [if_pos hs] at h
              injection h with h
              injection h with e1 e2
              exact .inl ⟨hs, e1.symm, by rw [har, e2]⟩
            · rw [if_neg hs, hw] at h
              exact .inr ⟨hs, k, by omega, by rw [har]; exact h⟩
        · have har : actRow acts row out.length = row := by unfold actRow; rw [List.getElem?_eq_none (by omega)]
          rw [if_neg (by omega), hll] at h
          by_cases hs : (out.length : Int) + 1 = stop
          · rw [if_pos hs] at h
            injection h with h
            injection h with e1 e2
            exact .inl ⟨hs, e1.symm, by rw [har, e2]⟩
          · rw [if_neg hs, hw] at h
            exact .inr ⟨hs, k, by omega, by rw [har]; exact h⟩
      · rw [if_neg hb] at h; cases h
theorem walk_over {acts : List S72} {stop : Int} {n0 : Nat} {row : List ByteArray} {out want : List S78} {next : List ByteArray} {k : Nat}
    (h : portageref05_Walk.l0 k row acts stop out (n0 : Int) (out.length : Int) = some (want, next)) (h1 : n0 ≤ out.length ∨ row.length ≤ out.length) : want = out ∧ next = row := by
  cases k with
  | zero => simp [portageref05_Walk.l0] at h
  | succ k =>
    simp only [portageref05_Walk.l0] at h
    have key : portageref05_Walk.j1 k row acts stop out (n0 : Int) (out.length : Int) false = some (want, next) := by
      by_cases hn : out.length < n0
      · rw [if_pos (by omega), decide_eq_false (by omega)] at h
        exact h
      · rw [if_neg (by omega)] at h
        exact h
    cases k with
    | zero => simp [portageref05_Walk.j1] at key
    | succ k =>
      simp only [portageref05_Walk.j1] at key
      rw [if_neg (by simp)] at key
      injection key with key
      injection key with e1 e2
      exact ⟨e1.symm, e2.symm⟩
theorem walk_prefix {acts : List S72} {stop : Int} {n0 : Nat} {want : List S78} {next : List ByteArray} : ∀ (k : Nat) (row : List ByteArray) (out : List S78), row.length + k < 8796093022208 →
    portageref05_Walk.l0 k row acts stop out (n0 : Int) (out.length : Int) = some (want, next) → out <+: want := by
  intro k
  induction k using Nat.strongRecOn with
  | _ k ih =>
    intro row out hl h
    by_cases h1 : out.length < n0 ∧ out.length < row.length
    · obtain ⟨t, ht⟩ : ∃ t, row[out.length]? = some t := ⟨_, List.getElem?_eq_getElem h1.2⟩
      rcases walk_round (by omega) h h1.1 ht with ⟨_, e, _⟩ | ⟨_, k', hk, h2⟩
      · rw [e]; exact List.prefix_append _ _
      · have := actRow_length acts row out.length
        exact (List.prefix_append _ _).trans (ih k' hk _ _ (by omega) h2)
    · rw [(walk_over h (by omega)).1]
      exact List.prefix_rfl
/-- the reference's Walk comes to its end -/
theorem walk_ends {acts : List S72} {stop : Int} {n0 M : Nat} (hM : M < 8796093022208) (hn : n0 < 5864062014805) : ∀ (d k : Nat) (row : List ByteArray) (out : List S78), out.length + d = n0 → row.length + d ≤ M → 2 * d + M + 3 < k →
    ∃ want next, portageref05_Walk.l0 k row acts stop out (n0 : Int) (out.length : Int) = some (want, next) ∧ next.length ≤ M := by
  intro d
  induction d with
  | zero =>
    intro k row out h1 h2 hk
    obtain ⟨k, rfl⟩ : ∃ m, k = m + 1 + 1 := ⟨k - 2, by omega⟩
    refine ⟨out, row, ?_, by omega⟩
    simp only [portageref05_Walk.l0]
    rw [if_neg (by omega)]
    simp only [portageref05_Walk.j1]
    rw [if_neg (by simp)]
  | succ d ih =>
    intro k row out h1 h2 hk
    obtain ⟨k, rfl⟩ : ∃ m, k = m + 1 + 1 := ⟨k - 2, by omega⟩
    by_cases hlr : out.length < row.length
    · obtain ⟨t, ht⟩ : ∃ t, row[out.length]? = some t := ⟨_, List.getElem?_eq_getElem hlr⟩
      have hw : wrap64 ((out.length : Int) + 1) = ((out ++ [(⟨(out.length : Int), t⟩ : S78)]).length : Int) := by unfold wrap64; simp; omega
      have hll : (((out ++ [(⟨(out.length : Int), t⟩ : S78)]).length : Nat) : Int) = (out.length : Int) + 1 := by simp
      have har := actRow_length acts row out.length
      obtain ⟨want, next, h3, h4⟩ := ih k (actRow acts row out.length) (out ++ [⟨(out.length : Int), t⟩]) (by simp; omega) (by omega) (by omega)
      have hd : (if (out.length : Int) < (acts.length : Int) then portageref05_Done.f k row (rd_T72 acts (out.length : Int)).f0 (rd_T72 acts (out.length : Int)).f1 (rd_T72 acts (out.length : Int)).f2 else some row) = some (actRow acts row out.length) := by
        by_cases ha : out.length < acts.length
        · obtain ⟨a, haa⟩ : ∃ a, acts[out.length]? = some a := ⟨_, List.getElem?_eq_getElem ha⟩
          rw [if_pos (by omega), rd_act haa, done_f row a k (by omega) (by omega)]
          unfold actRow; rw [haa]
        · rw [if_neg (by omega)]
          unfold actRow; rw [List.getElem?_eq_none (by omega)]
      simp only [portageref05_Walk.l0]
      rw [if_pos (by omega), decide_eq_true (by omega)]
      simp only [portageref05_Walk.j1]
      rw [if_pos trivial, if_pos (by omega), if_pos (by omega), if_pos (by omega), rd_get row out.length t ht]
      simp only [Option.bind_some]
      rw [hll]
      by_cases hs : (out.length : Int) + 1 = stop
      · refine ⟨out ++ [⟨(out.length : Int), t⟩], actRow acts row out.length, ?_, by omega⟩
        by_cases ha : (out.length : Int) < (acts.length : Int)
        · rw [if_pos ha] at hd
          rw [if_pos ha, hd]
          simp only [Option.bind_some]
          rw [if_pos hs]
        · rw [if_neg ha] at hd
          injection hd with hd
          rw [if_neg ha, if_pos hs, ← hd]
      · refine ⟨want, next, ?_, h4⟩
        by_cases ha : (out.length : Int) < (acts.length : Int)
        · rw [if_pos ha] at hd
          rw [if_pos ha, hd]
          simp only [Option.bind_some]
          rw [if_neg hs, hw]
          exact h3
        · rw [if_neg ha] at hd
          injection hd with hd
          rw [if_neg ha, if_neg hs, hw]
          rw [← hd] at h3
          exact h3
    · refine ⟨out, row, ?_, by omega⟩
      simp only [portageref05_Walk.l0]
      rw [if_pos (by omega), decide_eq_false (by omega)]
      simp only [portageref05_Walk.j1]
      rw [if_neg (by simp)]
end Go.Proofs.Ytijmhegccakndaa
