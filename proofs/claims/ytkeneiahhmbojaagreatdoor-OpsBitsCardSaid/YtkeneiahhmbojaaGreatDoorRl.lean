/-
  Whole numbers that wrap: a ring; division with a rest; plain.
-/
import Derived.RowKit
import Derived.Laws.BitsLemmas
namespace Go.Proofs.YtkeneiahhmbojaaGreatDoor
open Go.RowKit

theorem wrap_bmod (n : Int) : wrap64 n = Int.bmod n 18446744073709551616 := by
  unfold wrap64
  rw [Int.bmod_def]
  split <;> omega
theorem wrap_in {n : Int} (h0 : -9223372036854775808 ≤ n) (h1 : n ≤ 9223372036854775807) : wrap64 n = n := by unfold wrap64; omega
theorem wrap_range (n : Int) : -9223372036854775808 ≤ wrap64 n ∧ wrap64 n ≤ 9223372036854775807 := by unfold wrap64; omega
theorem ring_back (a b : Int) (h0 : -9223372036854775808 ≤ a) (h1 : a ≤ 9223372036854775807) : wrap64 (wrap64 (a - b) + b) = a := by
  unfold wrap64; omega
theorem ring_left (a b c : Int) : wrap64 (wrap64 (a * b) + wrap64 (a * c)) = wrap64 (a * wrap64 (b + c)) := by
  simp only [wrap_bmod]
  rw [Int.bmod_add_bmod, Int.add_bmod_bmod, Int.mul_bmod_bmod, Int.mul_add]
theorem ring_zero (a : Int) : wrap64 (a + wrap64 (-a)) = 0 := by unfold wrap64; omega
theorem ring_not (a : Int) (h0 : -9223372036854775808 ≤ a) (h1 : a ≤ 9223372036854775807) : wrap64 (wrap64 (-a) - 1) = -1 - a := by unfold wrap64; omega
theorem ring_again (a b : Int) (h0 : -9223372036854775808 ≤ a) (h1 : a ≤ 9223372036854775807) : wrap64 (wrap64 (wrap64 (a.tdiv b) * b) + a.tmod b) = a := by
  have h : wrap64 (wrap64 (wrap64 (a.tdiv b) * b) + a.tmod b) = wrap64 a := by
    simp only [wrap_bmod]
    rw [Int.bmod_mul_bmod, Int.bmod_add_bmod]
    congr 1
    have := Int.tmod_add_mul_tdiv a b
    rw [Int.mul_comm] at this
    omega
  rw [h, wrap_in h0 h1]
theorem wrap_toInt (r : BitVec 64) : IntKind.i64.wrap (r.toNat : Int) = r.toInt := by
  have := r.isLt
  rw [IntKind.wrap_i64, BitVec.toInt_eq_toNat_cond]
  split <;> omega
theorem bits_xor (a b : Int) : bits .xor .i64 a b = (BitVec.ofInt 64 a ^^^ BitVec.ofInt 64 b).toInt := wrap_toInt _
theorem bits_and (a b : Int) : bits .and .i64 a b = (BitVec.ofInt 64 a &&& BitVec.ofInt 64 b).toInt := wrap_toInt _
theorem bits_or (a b : Int) : bits .or .i64 a b = (BitVec.ofInt 64 a ||| BitVec.ofInt 64 b).toInt := wrap_toInt _
theorem bits_bic (a b : Int) : bits .andNot .i64 a b = (BitVec.ofInt 64 a &&& ~~~ BitVec.ofInt 64 b).toInt := wrap_toInt _
theorem ofInt_toInt {a : Int} (h0 : -9223372036854775808 ≤ a) (h1 : a ≤ 9223372036854775807) : (BitVec.ofInt 64 a).toInt = a := by
  rw [BitVec.toInt_ofInt, Int.bmod_def]
  split <;> omega
/-- the complement -/
theorem bits_not (a : Int) (h0 : -9223372036854775808 ≤ a) (h1 : a ≤ 9223372036854775807) : bits .xor .i64 (-1) a = -1 - a := by
  rw [bits_xor, show BitVec.ofInt 64 (-1) = BitVec.allOnes 64 by decide, BitVec.allOnes_xor, BitVec.toInt_not, BitVec.toNat_ofInt, Int.bmod_def]
  split <;> omega
theorem tmod_abs (a b : Int) (hb : b ≠ 0) : -(if b < 0 then -b else b) < a.tmod b ∧ a.tmod b < (if b < 0 then -b else b) := by
  split
  · rename_i h
    rw [← Int.tmod_neg]
    exact ⟨Int.lt_tmod_of_pos a (by omega), Int.tmod_lt_of_pos a (by omega)⟩
  · exact ⟨Int.lt_tmod_of_pos a (by omega), Int.tmod_lt_of_pos a (by omega)⟩
theorem tmod_sign (a b : Int) : a.tmod b = 0 ∨ (decide (a.tmod b < 0) = decide (a < 0)) := by
  by_cases h : a < 0
  · have := Int.tmod_nonneg (a := -a) b (by omega)
    rw [Int.neg_tmod] at this
    by_cases h0 : a.tmod b = 0
    · exact .inl h0
    · right; rw [decide_eq_true h, decide_eq_true (by omega)]
  · have := Int.tmod_nonneg b (show 0 ≤ a by omega)
    right; rw [decide_eq_false h, decide_eq_false (by omega)]
end Go.Proofs.YtkeneiahhmbojaaGreatDoor
