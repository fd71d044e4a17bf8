/-
  A whole number is read back from its text; a text that is read is the number's own but for a plus and needless 0s: the plain law.
-/
import Derived.Test.YthdnekagddjoeaaDoorParseLaw
namespace Go.Proofs.YthdnekagddjoeaaDoor
set_option linter.unusedVariables false
open Go.RowKit Go.Proofs.YthdnekagddjoeaaDoorW.PrintWords Go.Proofs.YthdnekagddjoeaaDoorW.PrintLast Go.Proofs.YthdnekagddjoeaaDoorW.PrintMore
open P

theorem val_snoc (acc : Nat) (l : List UInt8) (c : UInt8) : val acc (l ++ [c]) = val acc l * 10 + (c.toNat - 48) := by
  induction l generalizing acc with
  | nil => rfl
  | cons d r ih => exact ih _
theorem digs_append (a b : List UInt8) : digs (a ++ b) = (digs a && digs b) := by
  unfold digs
  rw [List.all_append]
theorem dig_nat (d : Nat) (h : d < 10) : (UInt8.ofNat (48 + d)).toNat = 48 + d := by
  rw [UInt8.toNat_ofNat']
  omega
theorem dec_val (u : Nat) : val 0 (Lib.decDigits u) = u ∧ digs (Lib.decDigits u) = true ∧ Lib.decDigits u ≠ [] := by
  induction u using Nat.strongRecOn with
  | _ u ih =>
    rw [Lib.decDigits]
    split
    · rename_i h
      refine ⟨?_, ?_, by simp⟩
      · show 0 * 10 + ((UInt8.ofNat (48 + u)).toNat - 48) = u
        rw [dig_nat u h]
        omega
      · show (decide (48 ≤ (UInt8.ofNat (48 + u)).toNat ∧ (UInt8.ofNat (48 + u)).toNat ≤ 57) && true) = true
        rw [dig_nat u h, decide_eq_true (by omega)]
        rfl
    · rename_i h
      obtain ⟨h1, h2, h3⟩ := ih (u / 10) (by omega)
      refine ⟨?_, ?_, by simp⟩
      · rw [val_snoc, h1, dig_nat _ (by omega)]
        omega
      · rw [digs_append, h2]
        show (true && (decide (48 ≤ (UInt8.ofNat (48 + u % 10)).toNat ∧ (UInt8.ofNat (48 + u % 10)).toNat ≤ 57) && true)) = true
        rw [dig_nat _ (by omega), decide_eq_true (by omega)]
        rfl
theorem spl_minus (r : List UInt8) : spl (45 :: r) = (r, true) := by
  unfold spl Lib.hasPrefix Lib.trimPrefix Lib.hasPrefix
  rfl
theorem spl_digs (r : List UInt8) (h : digs r = true) : spl r = (r, false) := by
  cases r with
  | nil => rfl
  | cons c q =>
    obtain ⟨hc, _⟩ := digs_cons h
    have e45 : ((45 : UInt8) == c) = false := by
      rw [beq_eq_false_iff_ne]
      intro e
      rw [← e] at hc
      exact absurd hc (by decide)
    have e43 : ((43 : UInt8) == c) = false := by
      rw [beq_eq_false_iff_ne]
      intro e
      rw [← e] at hc
      exact absurd hc (by decide)
    unfold spl Lib.hasPrefix Lib.trimPrefix Lib.hasPrefix
    rw [show List.isPrefixOf [45] (c :: q) = (45 == c) by simp [List.isPrefixOf], show List.isPrefixOf [43] (c :: q) = (43 == c) by simp [List.isPrefixOf], e45, e43]
    rfl
/-- a number's text is read as the number -/
theorem resP_itoa (n : Int) (h0 : -9223372036854775808 ≤ n) (h1 : n ≤ 9223372036854775807) : resP (Lib.itoa n) = (n, 0) := by
  unfold Lib.itoa resP
  by_cases h : n < 0
  · rw [if_pos h, spl_minus]
    obtain ⟨e1, e2, e3⟩ := dec_val n.natAbs
    simp only []
    rw [if_neg e3, if_pos e2, e1]
    unfold res
    rw [if_pos rfl, if_pos (by omega)]
    congr 1
    omega
  · rw [if_neg h]
    obtain ⟨e1, e2, e3⟩ := dec_val n.toNat
    rw [spl_digs _ e2]
    simp only []
    rw [if_neg e3, if_pos e2, e1]
    unfold res
    rw [if_neg (by decide), if_pos (by omega)]
    congr 1
    omega

/-- without needless 0s ahead -/
def stripZ : List UInt8 → List UInt8
  | c :: d :: r => if c.toNat = 48 then stripZ (d :: r) else c :: d :: r
  | l => l
theorem val_pos (c : UInt8) (r : List UInt8) (h : digs (c :: r) = true) (hc : c.toNat ≠ 48) : 1 ≤ val 0 (c :: r) := by
  obtain ⟨h1, _⟩ := digs_cons h
  exact Nat.le_trans (show 1 ≤ 0 * 10 + (c.toNat - 48) by omega) (val_ge _ r)
theorem dec_of (n : Nat) : ∀ (r : List UInt8), r.length = n → digs r = true → r ≠ [] → (r.length = 1 ∨ ∀ c, r.head? = some c → c.toNat ≠ 48) → Lib.decDigits (val 0 r) = r := by
  induction n with
  | zero => intro r hl _ h0; exact absurd (List.eq_nil_of_length_eq_zero hl) h0
  | succ n ih =>
    intro r hl hd h0 hh
    obtain ⟨q, c, rfl⟩ : ∃ q c, r = q ++ [c] := ⟨r.dropLast, r.getLast h0, (List.dropLast_concat_getLast h0).symm⟩
    rw [digs_append, Bool.and_eq_true] at hd
    obtain ⟨hq, hc⟩ := hd
    obtain ⟨hc1, _⟩ := digs_cons hc
    rw [List.length_append, List.length_singleton] at hl
    have hce : UInt8.ofNat (48 + (c.toNat - 48)) = c := by
      apply UInt8.toNat_inj.1
      rw [dig_nat _ (by omega)]
      omega
    rw [val_snoc]
    cases q with
    | nil =>
      show Lib.decDigits (0 * 10 + (c.toNat - 48)) = [c]
      rw [Lib.decDigits, dif_pos (by omega), Nat.zero_mul, Nat.zero_add, hce]
    | cons a q =>
      have ha : a.toNat ≠ 48 := by
        rcases hh with hh | hh
        · simp at hh
        · exact hh a rfl
      have hv := val_pos a q hq ha
      rw [Lib.decDigits, dif_neg (by omega), show (val 0 (a :: q) * 10 + (c.toNat - 48)) / 10 = val 0 (a :: q) by omega, show (val 0 (a :: q) * 10 + (c.toNat - 48)) % 10 = c.toNat - 48 by omega, hce]
      rw [ih (a :: q) (by omega) hq (by simp) (.inr fun x hx => by
        have : a = x := by simpa using hx
        rw [← this]
        exact ha)]
theorem dec_strip (r : List UInt8) (h : digs r = true) (h0 : r ≠ []) : Lib.decDigits (val 0 r) = stripZ r := by
  induction r with
  | nil => exact absurd rfl h0
  | cons c q ih =>
    cases q with
    | nil => exact dec_of 1 [c] rfl h (by simp) (.inl rfl)
    | cons d q =>
      obtain ⟨hc, hq⟩ := digs_cons h
      unfold stripZ
      by_cases h48 : c.toNat = 48
      · rw [if_pos h48, ← ih hq (by simp)]
        congr 1
        show val (0 * 10 + (c.toNat - 48)) (d :: q) = _
        rw [h48]
      · rw [if_neg h48]
        exact dec_of _ _ rfl h (by simp) (.inr fun x hx => by
          have : c = x := by simpa using hx
          rw [← this]
          exact h48)
/-- what the law's noughtless leaves of a text -/
def nou (m : Bool) (r : List UInt8) : List UInt8 := if m = true then (if stripZ r = [48] then stripZ r else 45 :: stripZ r) else stripZ r
theorem dec_zero (u : Nat) : Lib.decDigits u = [48] ↔ u = 0 := by
  constructor
  · intro h
    have := (dec_val u).1
    rw [h] at this
    exact this.symm
  · rintro rfl
    rw [Lib.decDigits, dif_pos (by decide)]
    rfl
/-- a text that is read is the number's own but for a plus and needless 0s -/
theorem itoa_nou (l : List UInt8) (v : Int) (h : resP l = (v, 0)) : Lib.itoa v = nou (spl l).2 (spl l).1 ∧ (spl l).1 ≠ [] := by
  unfold resP at h
  by_cases h0 : (spl l).1 = []
  · rw [if_pos h0] at h
    exact absurd (show (6 : Int) = 0 from congrArg Prod.snd h) (by decide)
  · rw [if_neg h0] at h
    by_cases hd : digs (spl l).1 = true
    · rw [if_pos hd] at h
      refine ⟨?_, h0⟩
      have hs := dec_strip _ hd h0
      have hz := dec_zero (val 0 (spl l).1)
      rw [hs] at hz
      unfold nou
      unfold res at h
      by_cases hm : (spl l).2 = true
      · rw [if_pos hm] at h ⊢
        by_cases hv : val 0 (spl l).1 ≤ 9223372036854775808
        · rw [if_pos hv] at h
          have hv1 : v = -(val 0 (spl l).1 : Int) := (congrArg Prod.fst h).symm
          unfold Lib.itoa
          by_cases hzero : val 0 (spl l).1 = 0
          · rw [if_pos (hz.2 hzero), if_neg (by omega), show v.toNat = val 0 (spl l).1 by omega, hs]
          · rw [if_neg (fun e => hzero (hz.1 e)), if_pos (by omega), show v.natAbs = val 0 (spl l).1 by omega, hs]
        · rw [if_neg hv] at h
          exact absurd (show (5 : Int) = 0 from congrArg Prod.snd h) (by decide)
      · rw [if_neg hm] at h ⊢
        by_cases hv : val 0 (spl l).1 < 9223372036854775808
        · rw [if_pos hv] at h
          have hv1 : v = (val 0 (spl l).1 : Int) := (congrArg Prod.fst h).symm
          unfold Lib.itoa
          rw [if_neg (by omega), show v.toNat = val 0 (spl l).1 by omega, hs]
        · rw [if_neg hv] at h
          exact absurd (show (5 : Int) = 0 from congrArg Prod.snd h) (by decide)
    · rw [if_neg hd] at h
      exact absurd (show (6 : Int) = 0 from congrArg Prod.snd h) (by decide)
end Go.Proofs.YthdnekagddjoeaaDoor
