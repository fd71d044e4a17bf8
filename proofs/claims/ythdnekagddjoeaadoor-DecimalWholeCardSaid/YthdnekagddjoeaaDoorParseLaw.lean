/-
  Reading a whole number: what the library's reader of texts of digits answers, by the number that they spell.
-/
import Derived.Test.YthdnekagddjoeaaDoorNums
namespace Go.Proofs.YthdnekagddjoeaaDoor
set_option linter.unusedVariables false
open Go.RowKit Go.Proofs.YthdnekagddjoeaaDoorW.PrintWords Go.Proofs.YthdnekagddjoeaaDoorW.PrintLast Go.Proofs.YthdnekagddjoeaaDoorW.PrintMore
open P

/-- what digits spell behind a number -/
def val (acc : Nat) : List UInt8 → Nat
  | [] => acc
  | c :: r => val (acc * 10 + (c.toNat - 48)) r
theorem val_ge (acc : Nat) (l : List UInt8) : acc ≤ val acc l := by
  induction l generalizing acc with
  | nil => exact Nat.le_refl _
  | cons c r ih => exact Nat.le_trans (by omega) (ih _)
theorem val_ten (acc : Nat) (c : UInt8) (l : List UInt8) : acc * 10 ≤ val acc (c :: l) := Nat.le_trans (Nat.le_add_right _ _) (val_ge _ l)
theorem digs_cons {c : UInt8} {r : List UInt8} (h : digs (c :: r) = true) : (48 ≤ c.toNat ∧ c.toNat ≤ 57) ∧ digs r = true := by
  unfold digs at h ⊢
  rw [List.all_cons, Bool.and_eq_true] at h
  exact ⟨of_decide_eq_true h.1, h.2⟩
theorem uintM_ok (M acc : Nat) (l : List UInt8) (hM : M ≤ 18446744073709551615) (h : digs l = true) (hv : val acc l ≤ M) : Lib.parseUintM M acc l = .ok (val acc l) := by
  induction l generalizing acc with
  | nil => rfl
  | cons c r ih =>
    obtain ⟨hc, hr⟩ := digs_cons h
    have h10 := val_ten acc c r
    have hs := val_ge (acc * 10 + (c.toNat - 48)) r
    have e : val acc (c :: r) = val (acc * 10 + (c.toNat - 48)) r := rfl
    rw [Lib.parseUintM, if_pos hc, if_neg (by omega), if_neg (by omega), ih _ hr (by rw [← e]; exact hv)]
    rfl
theorem uintM_over (M acc : Nat) (l : List UInt8) (hM : M ≤ 18446744073709551615) (h : digs l = true) (ha : acc ≤ M) (hv : M < val acc l) : Lib.parseUintM M acc l = .range := by
  induction l generalizing acc with
  | nil => exact absurd hv (by show ¬ M < acc; omega)
  | cons c r ih =>
    obtain ⟨hc, hr⟩ := digs_cons h
    have e : val acc (c :: r) = val (acc * 10 + (c.toNat - 48)) r := rfl
    rw [Lib.parseUintM, if_pos hc]
    by_cases h1 : 1844674407370955162 ≤ acc
    · rw [if_pos h1]
    · rw [if_neg h1]
      by_cases h2 : M < acc * 10 + (c.toNat - 48)
      · rw [if_pos h2]
      · rw [if_neg h2]
        exact ih _ hr (by omega) (by rw [← e]; exact hv)
theorem uintB_is (l : List UInt8) (h : digs l = true) (h0 : l ≠ []) : (val 0 l ≤ 18446744073709551615 → Lib.parseUintB 64 l = .ok (val 0 l)) ∧ (18446744073709551615 < val 0 l → Lib.parseUintB 64 l = .range) := by
  unfold Lib.parseUintB
  rw [if_neg h0]
  exact ⟨fun hv => uintM_ok _ _ _ (by decide) h hv, fun hv => uintM_over _ _ _ (by decide) h (by omega) hv⟩

/-- what is read of digits behind a sign, or behind none: the number, and the error's number -/
def res (neg : Bool) (v : Nat) : Int × Int :=
  if neg = true then (if v ≤ 9223372036854775808 then (-(v : Int), 0) else (0, 5)) else (if v < 9223372036854775808 then ((v : Int), 0) else (0, 5))
def resP (l : List UInt8) : Int × Int :=
  if (spl l).1 = [] then (0, 6) else if digs (spl l).1 = true then res (spl l).2 (val 0 (spl l).1) else (0, 6)

theorem intB_neg (r : List UInt8) (h : digs r = true) (h0 : r ≠ []) : (val 0 r ≤ 9223372036854775808 → Lib.parseIntB 64 (45 :: r) = .ok (-(val 0 r : Int))) ∧ (9223372036854775808 < val 0 r → Lib.parseIntB 64 (45 :: r) = .range) := by
  obtain ⟨h1, h2⟩ := uintB_is r h h0
  have e : Lib.parseIntB 64 (45 :: r) = match Lib.parseUintB 64 r with
    | .ok u => if 9223372036854775808 < u then .range else .ok (-(u : Int))
    | .range => .range
    | x => Lib.parseIntB 64 [] := by
    unfold Lib.parseIntB
    cases hh : Lib.parseUintB 64 r <;> simp [hh]
  constructor
  · intro hv
    rw [e, h1 (by omega)]
    simp only []
    rw [if_neg (by omega)]
  · intro hv
    rw [e]
    by_cases hb : val 0 r ≤ 18446744073709551615
    · rw [h1 hb]
      simp only []
      rw [if_pos hv]
    · rw [h2 (by omega)]
theorem intB_pos (r : List UInt8) (h : digs r = true) (h0 : r ≠ []) : (val 0 r < 9223372036854775808 → Lib.parseIntB 64 r = .ok (val 0 r : Int)) ∧ (9223372036854775808 ≤ val 0 r → Lib.parseIntB 64 r = .range) := by
  obtain ⟨h1, h2⟩ := uintB_is r h h0
  have e : Lib.parseIntB 64 r = match Lib.parseUintB 64 r with
    | .ok u => if 9223372036854775808 ≤ u then .range else .ok (u : Int)
    | .range => .range
    | x => Lib.parseIntB 64 [] := by
    match r, h0 with
    | c :: q, _ =>
      obtain ⟨hc, _⟩ := digs_cons h
      have n43 : ¬ (c.toNat = 43 ∨ c.toNat = 45) := by omega
      have n45 : ¬ c.toNat = 45 := by omega
      unfold Lib.parseIntB
      simp only [if_neg n43]
      cases Lib.parseUintB 64 (c :: q) <;> simp [n45]
  constructor
  · intro hv
    rw [e, h1 (by omega)]
    simp only []
    rw [if_neg (by omega)]
  · intro hv
    rw [e]
    by_cases hb : val 0 r ≤ 18446744073709551615
    · rw [h1 hb]
      simp only []
      rw [if_pos hv]
    · rw [h2 (by omega)]
end Go.Proofs.YthdnekagddjoeaaDoor
