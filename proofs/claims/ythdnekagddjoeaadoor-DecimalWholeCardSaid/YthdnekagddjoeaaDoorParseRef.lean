/-
  The reference's ParseInt answers as decimal's.
-/
import Derived.Test.YthdnekagddjoeaaDoorRefParse
import Derived.Test.YthdnekagddjoeaaDoorParseLaw
namespace Go.Proofs.YthdnekagddjoeaaDoor
set_option linter.unusedVariables false
open Go.RowKit Go.Proofs.YthdnekagddjoeaaDoorW.PrintWords Go.Proofs.YthdnekagddjoeaaDoorW.PrintLast Go.Proofs.YthdnekagddjoeaaDoorW.PrintMore
open Q

theorem bt_of (s : ByteArray) (k : Nat) : bt s (k : Int) = ((s.data.toList.getD k 0).toNat : Int) := by
  unfold bt
  split
  · rename_i h
    simp only [Int.toNat_natCast] at h ⊢
    have h' : k < s.data.toList.length := by simpa using h
    rw [List.getD_eq_getElem?_getD, List.getElem?_eq_getElem h']
    rfl
  · rename_i h
    simp only [Int.toNat_natCast] at h
    have h' : s.data.toList.length ≤ k := by simpa using h
    rw [List.getD_eq_getElem?_getD, List.getElem?_eq_none h']
    rfl
theorem w64 (n : Int) (h0 : -9223372036854775808 ≤ n) (h1 : n ≤ 9223372036854775807) : wrap64 n = n := by
  rw [← i64_w, IntKind.wrap_i64]
  omega
theorem u64w (n : Int) : IntKind.u64.wrap n = n % 18446744073709551616 := IntKind.wrap_u64 n

theorem drop_at (s : ByteArray) (i : Nat) (h : i < s.size) : ∃ c, s.data.toList.drop i = c :: s.data.toList.drop (i + 1) ∧ bt s (i : Int) = (c.toNat : Int) := by
  have h' : i < s.data.toList.length := by simpa using h
  refine ⟨s.data.toList[i], List.drop_eq_getElem_cons h', ?_⟩
  rw [bt_of, List.getD_eq_getElem?_getD, List.getElem?_eq_getElem h']
  rfl
theorem digs_cons_eq (c : UInt8) (r : List UInt8) : digs (c :: r) = (decide (48 ≤ c.toNat ∧ c.toNat ≤ 57) && digs r) := by
  unfold digs
  rw [List.all_cons]
theorem digit_is (s : ByteArray) (i : Nat) (c : UInt8) (h : i < s.size) (hc : bt s (i : Int) = (c.toNat : Int)) : portageref04_digit.f s (i : Int) = some (decide (48 ≤ c.toNat ∧ c.toNat ≤ 57)) := by
  unfold portageref04_digit.f
  rw [if_pos (by omega), if_pos (by omega), hc]
  by_cases h1 : 48 ≤ c.toNat
  · rw [if_pos (by omega)]
    congr 1
    by_cases h2 : c.toNat ≤ 57
    · rw [decide_eq_true (show (c.toNat : Int) ≤ 57 by omega), decide_eq_true ⟨h1, h2⟩]
    · rw [decide_eq_false (show ¬ (c.toNat : Int) ≤ 57 by omega), decide_eq_false (by omega)]
  · rw [if_neg (by omega)]
    congr 1
    rw [decide_eq_false (by omega)]

theorem l0_is (s : ByteArray) (fr : Int) (m : Bool) (ss : s.size ≤ 140737488351232) : ∀ (n i fuel : Nat), i + n = s.size →
    portageref04_ParseInt.l0 (fuel + n + 1) s fr m (i : Int) = if digs (s.data.toList.drop i) = true then portageref04_ParseInt.l1 fuel s m 0 fr else some (0, 6) := by
  intro n
  induction n with
  | zero =>
    intro i fuel hi
    rw [portageref04_ParseInt.l0, if_neg (by omega)]
    have : s.data.toList.length = s.size := by simp
    rw [List.drop_of_length_le (by omega)]
    rfl
  | succ n ih =>
    intro i fuel hi
    obtain ⟨c, hd, hc⟩ := drop_at s i (by omega)
    rw [portageref04_ParseInt.l0, if_pos (by omega), digit_is s i c (by omega) hc]
    simp only [Option.bind_some]
    rw [hd, digs_cons_eq]
    by_cases h : 48 ≤ c.toNat ∧ c.toNat ≤ 57
    · rw [decide_eq_true h, if_pos rfl, Bool.true_and, w64 _ (by omega) (by omega), show (i : Int) + 1 = ((i + 1 : Nat) : Int) by omega]
      rw [show fuel + (n + 1) = fuel + n + 1 by omega]
      exact ih (i + 1) fuel (by omega)
    · rw [decide_eq_false h, if_neg (by decide), Bool.false_and, if_neg (by decide)]

theorem l1_is (s : ByteArray) (m : Bool) (ss : s.size ≤ 140737488351232) : ∀ (n i x fuel : Nat), i + n = s.size → digs (s.data.toList.drop i) = true → x ≤ 11529215046068469769 →
    portageref04_ParseInt.l1 (fuel + n + 2) s m (x : Int) (i : Int) = some (res m (val x (s.data.toList.drop i))) := by
  intro n
  induction n with
  | zero =>
    intro i x fuel hi hd hx
    have : s.data.toList.length = s.size := by simp
    rw [List.drop_of_length_le (by omega)]
    show _ = some (res m x)
    rw [portageref04_ParseInt.l1, if_neg (by omega)]
    unfold res
    cases m with
    | true =>
      rw [if_pos rfl, if_pos rfl]
      show portageref04_ParseInt.j2 (fuel + 1) true (x : Int) _ = _
      rw [portageref04_ParseInt.j2]
      by_cases h : x ≤ 9223372036854775808
      · rw [decide_eq_true (by omega), if_pos rfl, if_pos h]
        congr 2
        rw [← i64_w, IntKind.wrap_i64, u64w]
        omega
      · rw [decide_eq_false (by omega), if_neg (by decide), if_pos rfl, if_neg h]
    | false =>
      rw [if_neg (by decide), if_neg (by decide)]
      show portageref04_ParseInt.j2 (fuel + 1) false (x : Int) _ = _
      rw [portageref04_ParseInt.j2]
      rw [if_neg (by decide), if_neg (by decide)]
      by_cases h : x < 9223372036854775808
      · rw [if_neg (by omega), if_pos h, w64 _ (by omega) (by omega)]
      · rw [if_pos (by omega), if_neg h]
  | succ n ih =>
    intro i x fuel hi hd hx
    obtain ⟨c, hdr, hc⟩ := drop_at s i (by omega)
    rw [hdr] at hd ⊢
    obtain ⟨h48, hd2⟩ := digs_cons hd
    rw [show fuel + (n + 1) + 2 = (fuel + n + 2) + 1 by omega, portageref04_ParseInt.l1, if_pos (by omega)]
    by_cases hb : (x : Int) > 1152921504606846976
    · rw [if_pos hb]
      have := val_ten x c (s.data.toList.drop (i + 1))
      unfold res
      cases m with
      | true => rw [if_pos rfl, if_neg (by omega)]
      | false => rw [if_neg (by decide), if_neg (by omega)]
    · rw [if_neg hb, if_pos (by omega), hc]
      have e : IntKind.u64.wrap (IntKind.u64.wrap (10 * (x : Int)) + ((c.toNat : Int) - 48) % 256) = ((x * 10 + (c.toNat - 48) : Nat) : Int) := by
        rw [u64w, u64w]
        omega
      rw [e, w64 _ (by omega) (by omega), show (i : Int) + 1 = ((i + 1 : Nat) : Int) by omega]
      exact ih (i + 1) (x * 10 + (c.toNat - 48)) fuel (by omega) hd2 (by omega)

theorem tail_is (s : ByteArray) (m : Bool) (fr : Nat) (fuel : Nat) (ss : s.size ≤ 140737488351232) (hf : fr ≤ s.size) :
    (if (fr : Int) = (s.size : Int) then some ((0 : Int), (6 : Int)) else portageref04_ParseInt.l0 (fuel + (s.size - fr) + 2 + (s.size - fr) + 1) s (fr : Int) m (fr : Int)) =
      some (if s.data.toList.drop fr = [] then (0, 6) else if digs (s.data.toList.drop fr) = true then res m (val 0 (s.data.toList.drop fr)) else (0, 6)) := by
  have hl : s.data.toList.length = s.size := by simp
  by_cases h : fr = s.size
  · rw [if_pos (by omega), if_pos (List.drop_of_length_le (by omega))]
  · rw [if_neg (by omega), if_neg (by
      intro e
      have := congrArg List.length e
      rw [List.length_drop, List.length_nil] at this
      omega), l0_is s _ m ss (s.size - fr) fr _ (by omega)]
    by_cases hd : digs (s.data.toList.drop fr) = true
    · rw [if_pos hd, if_pos hd]
      exact l1_is s m ss (s.size - fr) fr 0 fuel (by omega) hd (by decide)
    · rw [if_neg hd, if_neg hd]

theorem spl_of (s : ByteArray) : spl s.data.toList = if 0 < s.size ∧ bt s 0 = 45 then (s.data.toList.drop 1, true) else if 0 < s.size ∧ bt s 0 = 43 then (s.data.toList.drop 1, false) else (s.data.toList, false) := by
  have hl : s.data.toList.length = s.size := by simp
  have hb : bt s 0 = ((s.data.toList.getD 0 0).toNat : Int) := bt_of s 0
  obtain ⟨l, hll⟩ : ∃ l, l = s.data.toList := ⟨_, rfl⟩
  rw [← hll] at hl hb ⊢
  rw [hb, ← hl]
  cases l with
  | nil => rfl
  | cons c r =>
    have hpos : 0 < (c :: r).length := by simp
    have hg : ((c :: r).getD 0 0).toNat = c.toNat := rfl
    rw [hg]
    unfold spl Lib.hasPrefix Lib.trimPrefix Lib.hasPrefix
    have e45 : (List.isPrefixOf [45] (c :: r)) = (45 == c) := by simp [List.isPrefixOf]
    have e43 : (List.isPrefixOf [43] (c :: r)) = (43 == c) := by simp [List.isPrefixOf]
    rw [e45, e43]
    by_cases h : c.toNat = 45
    · have hc : (45 == c) = true := beq_iff_eq.2 (UInt8.toNat_inj.1 (show (45 : UInt8).toNat = c.toNat by rw [h]; rfl))
      rw [hc, if_pos (show true = true from rfl), if_pos (show 0 < (c :: r).length ∧ (c.toNat : Int) = 45 from ⟨hpos, by omega⟩)]
      rfl
    · have hc : (45 == c) = false := by
        rw [beq_eq_false_iff_ne]
        intro e
        exact h (by rw [← e]; rfl)
      rw [hc, if_neg (show ¬ (false = true) by decide), if_neg (show ¬ (0 < (c :: r).length ∧ (c.toNat : Int) = 45) from fun hh => h (by have := hh.2; omega))]
      by_cases h2 : c.toNat = 43
      · have hc2 : (43 == c) = true := beq_iff_eq.2 (UInt8.toNat_inj.1 (show (43 : UInt8).toNat = c.toNat by rw [h2]; rfl))
        rw [hc2, if_pos (show true = true from rfl), if_pos (show 0 < (c :: r).length ∧ (c.toNat : Int) = 43 from ⟨hpos, by omega⟩)]
        rfl
      · have hc2 : (43 == c) = false := by
          rw [beq_eq_false_iff_ne]
          intro e
          exact h2 (by rw [← e]; rfl)
        rw [hc2, if_neg (show ¬ (false = true) by decide), if_neg (show ¬ (0 < (c :: r).length ∧ (c.toNat : Int) = 43) from fun hh => h2 (by have := hh.2; omega))]
theorem signed_is (s : ByteArray) (k : Nat) (ss : s.size ≤ 140737488351232) : ∃ fr : Nat, portageref04_signed.f (k + 1) s 0 = some ((fr : Int), (spl s.data.toList).2) ∧ fr ≤ s.size ∧ (spl s.data.toList).1 = s.data.toList.drop fr := by
  rw [spl_of]
  unfold portageref04_signed.f
  by_cases h0 : 0 < s.size
  · rw [if_pos (show (0 : Int) < (s.size : Int) by omega), if_pos (show (0 : Int) ≤ 0 by decide), portageref04_signed.j0]
    by_cases h45 : bt s 0 = 45
    · rw [if_pos (show (bt s 0 == 45) = true from beq_iff_eq.2 h45), if_pos (show 0 < s.size ∧ bt s 0 = 45 from ⟨h0, h45⟩)]
      exact ⟨1, by rw [w64 _ (by decide) (by decide)]; rfl, h0, rfl⟩
    · rw [if_neg (show ¬ (bt s 0 == 45) = true by rw [beq_iff_eq]; exact h45), if_neg (show ¬ (0 < s.size ∧ bt s 0 = 45) from fun h => h45 h.2), if_pos (show (0 : Int) < (s.size : Int) by omega), if_pos (show (0 : Int) ≤ 0 by decide)]
      by_cases h43 : bt s 0 = 43
      · rw [if_pos h43, if_pos (show 0 < s.size ∧ bt s 0 = 43 from ⟨h0, h43⟩)]
        exact ⟨1, by rw [w64 _ (by decide) (by decide)]; rfl, h0, rfl⟩
      · rw [if_neg h43, if_neg (show ¬ (0 < s.size ∧ bt s 0 = 43) from fun h => h43 h.2)]
        exact ⟨0, rfl, Nat.zero_le _, rfl⟩
  · rw [if_neg (show ¬ (0 : Int) < (s.size : Int) by omega), portageref04_signed.j0, if_neg (show ¬ (false = true) by decide), if_neg (show ¬ (0 : Int) < (s.size : Int) by omega), if_neg (show ¬ (0 < s.size ∧ bt s 0 = 45) from fun h => h0 h.1), if_neg (show ¬ (0 < s.size ∧ bt s 0 = 43) from fun h => h0 h.1)]
    exact ⟨0, rfl, Nat.zero_le _, rfl⟩
theorem refParse_is (s : ByteArray) (ss : s.size ≤ 140737488351232) : ∃ k, portageref04_ParseInt.f k s = some (resP s.data.toList) := by
  obtain ⟨fr, _, hle, hdr⟩ := signed_is s 0 ss
  refine ⟨(0 + (s.size - fr) + 2 + (s.size - fr)) + 1, ?_⟩
  obtain ⟨fr', h1, hle', hdr'⟩ := signed_is s (0 + (s.size - fr) + 2 + (s.size - fr)) ss
  have hl : s.data.toList.length = s.size := by simp
  have hfr : fr' = fr := by
    have := congrArg List.length (hdr.symm.trans hdr')
    rw [List.length_drop, List.length_drop] at this
    omega
  subst hfr
  unfold portageref04_ParseInt.f
  rw [h1]
  simp only [Option.bind_some]
  rw [tail_is s _ fr' 0 ss hle]
  unfold resP
  rw [hdr]
end Go.Proofs.YthdnekagddjoeaaDoor
