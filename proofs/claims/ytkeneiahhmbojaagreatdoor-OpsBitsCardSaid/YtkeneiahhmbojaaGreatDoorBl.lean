/-
  Bits, shifts, widths of whole numbers; plain.
-/
import Derived.Test.YtkeneiahhmbojaaGreatDoorRl
import Derived.IntWalk
namespace Go.Proofs.YtkeneiahhmbojaaGreatDoor
open Go.RowKit

theorem ofInt_not (b : Int) (h0 : -9223372036854775808 ≤ b) (h1 : b ≤ 9223372036854775807) : BitVec.ofInt 64 (-1 - b) = ~~~ BitVec.ofInt 64 b := by
  have h := bits_not b h0 h1
  rw [bits_xor, show BitVec.ofInt 64 (-1) = BitVec.allOnes 64 by decide, BitVec.allOnes_xor] at h
  rw [← h, BitVec.ofInt_toInt]
theorem and_bic (a b : Int) (h0 : -9223372036854775808 ≤ b) (h1 : b ≤ 9223372036854775807) : bits .and .i64 a (-1 - b) = bits .andNot .i64 a b := by
  rw [bits_and, bits_bic, ofInt_not b h0 h1]
theorem rest_xor (a b : Int) : bits .andNot .i64 (bits .or .i64 a b) (bits .and .i64 a b) = bits .xor .i64 a b := by
  rw [bits_bic, bits_or, bits_and, bits_xor, BitVec.ofInt_toInt, BitVec.ofInt_toInt]
  congr 1
  apply BitVec.eq_of_getLsbD_eq
  intro i hi
  simp
  cases (BitVec.ofInt 64 a).getLsbD i <;> cases (BitVec.ofInt 64 b).getLsbD i <;> simp [hi]
theorem nat_or_and : ∀ (x y : Nat), (x ||| y) + (x &&& y) = x + y := by
  intro x
  induction x using Nat.strongRecOn with
  | ind x ih =>
    intro y
    by_cases hx : x = 0
    · subst hx; simp
    · have h := ih (x / 2) (by omega) (y / 2)
      rw [← Nat.or_div_two, ← Nat.and_div_two] at h
      have t1 : decide ((x ||| y) % 2 = 1) = (decide (x % 2 = 1) || decide (y % 2 = 1)) := by
        rw [← Nat.testBit_zero, ← Nat.testBit_zero, ← Nat.testBit_zero]
        exact Nat.testBit_or ..
      have t2 : decide ((x &&& y) % 2 = 1) = (decide (x % 2 = 1) && decide (y % 2 = 1)) := by
        rw [← Nat.testBit_zero, ← Nat.testBit_zero, ← Nat.testBit_zero]
        exact Nat.testBit_and ..
      generalize (x ||| y) = p at *
      generalize (x &&& y) = q at *
      by_cases h1 : x % 2 = 1 <;> by_cases h2 : y % 2 = 1 <;> simp only [h1, h2, decide_true, decide_false, Bool.or_true, Bool.or_false, Bool.and_true, Bool.and_false, decide_eq_true_eq, decide_eq_false_iff_not] at t1 t2 <;> omega
theorem or_and (a b : Int) : wrap64 (bits .or .i64 a b + bits .and .i64 a b) = wrap64 (a + b) := by
  have h : (BitVec.ofInt 64 a ||| BitVec.ofInt 64 b) + (BitVec.ofInt 64 a &&& BitVec.ofInt 64 b) = BitVec.ofInt 64 a + BitVec.ofInt 64 b := by
    apply BitVec.eq_of_toNat_eq
    rw [BitVec.toNat_add, BitVec.toNat_add, BitVec.toNat_or, BitVec.toNat_and, nat_or_and]
  have h2 := congrArg BitVec.toInt h
  rw [BitVec.toInt_add, BitVec.toInt_add, ← bits_or, ← bits_and, BitVec.toInt_ofInt, BitVec.toInt_ofInt] at h2
  simp only [wrap_bmod]
  rw [show (2 : Nat) ^ 64 = 18446744073709551616 by decide, Int.bmod_add_bmod, Int.add_bmod_bmod] at h2
  exact h2
theorem min_shift {m : Nat} (h : m < 64) : min (IntKind.u64.wrap (m : Int)).toNat 64 = m := by
  rw [IntWalk.u64_in _ (by omega)]
  omega
theorem times_up (a : Int) (m : Nat) : wrap64 (a * wrap64 (1 * 2 ^ m)) = wrap64 (a * 2 ^ m) := by
  simp only [wrap_bmod, Int.one_mul]
  rw [Int.mul_bmod_bmod]
theorem pow_le {m : Nat} (h : m < 64) : (2 : Int) ^ m ≤ 9223372036854775808 ∧ 1 ≤ (2 : Int) ^ m ∧ ∃ q : Int, 9223372036854775808 = q * 2 ^ m := by
  obtain ⟨d, hd⟩ : ∃ d, m + d = 63 := ⟨63 - m, by omega⟩
  have e : (2 : Int) ^ d * 2 ^ m = 9223372036854775808 := by rw [← Int.pow_add, show d + m = 63 by omega]; decide
  have h1 : (1 : Int) ≤ 2 ^ m := Int.pow_pos (by decide)
  have h2 : (1 : Int) ≤ 2 ^ d := Int.pow_pos (by decide)
  refine ⟨?_, h1, 2 ^ d, e.symm⟩
  calc (2 : Int) ^ m = 1 * 2 ^ m := (Int.one_mul _).symm
    _ ≤ 2 ^ d * 2 ^ m := Int.mul_le_mul_of_nonneg_right h2 (by omega)
    _ = _ := e
theorem back_low (a : Int) (m : Nat) (hm : m < 64) (h0 : -9223372036854775808 ≤ a) (h1 : a ≤ 9223372036854775807) :
    wrap64 (a / 2 ^ m * 2 ^ m) = a - a % 2 ^ m ∧ wrap64 (a - (a - a % 2 ^ m)) = a % 2 ^ m ∧ 0 ≤ a % 2 ^ m ∧ a % 2 ^ m < 2 ^ m ∧ (decide (a / 2 ^ m < 0) = decide (a < 0)) := by
  obtain ⟨hp, hp1, q, hq⟩ := pow_le hm
  generalize (2 : Int) ^ m = p at *
  have e := Int.emod_add_mul_ediv a p
  have n0 := Int.emod_nonneg a (show p ≠ 0 by omega)
  have n1 := Int.emod_lt_of_pos a (show 0 < p by omega)
  have e2 : a / p * p = a - a % p := by rw [Int.mul_comm]; omega
  have lo : -9223372036854775808 ≤ a - a % p := by
    have hq1 : -q ≤ a / p := by
      apply Int.le_ediv_of_mul_le (by omega)
      rw [Int.neg_mul, ← hq]
      exact h0
    have := Int.mul_le_mul_of_nonneg_right hq1 (show 0 ≤ p by omega)
    rw [Int.neg_mul, ← hq, e2] at this
    exact this
  refine ⟨by rw [e2]; exact wrap_in lo (by omega), by rw [show a - (a - a % p) = a % p by omega]; exact wrap_in (by omega) (by omega), n0, n1, ?_⟩
  by_cases h : a < 0
  · rw [decide_eq_true h, decide_eq_true (Int.ediv_neg_of_neg_of_pos h (by omega))]
  · rw [decide_eq_false h, decide_eq_false (by have := Int.ediv_nonneg (show 0 ≤ a by omega) (show 0 ≤ p by omega); omega)]
theorem wrap8_eq (a : Int) : IntKind.i8.wrap a = (a + 128) % 256 - 128 := by
  simp only [IntKind.wrap, IntKind.bits, IntKind.signed]
  simp
  split <;> omega
theorem wrap16_eq (a : Int) : IntKind.i16.wrap a = (a + 32768) % 65536 - 32768 := by
  simp only [IntKind.wrap, IntKind.bits, IntKind.signed]
  simp
  split <;> omega
theorem ext8 (a : Int) : wrap64 (IntKind.i8.wrap (wrap64 (IntKind.i8.wrap a))) = wrap64 (IntKind.i8.wrap a) ∧ wrap64 (a * 72057594037927936) / 72057594037927936 = wrap64 (IntKind.i8.wrap a) := by
  rw [wrap8_eq, wrap8_eq]
  unfold wrap64
  constructor <;> omega
theorem ext16 (a : Int) : wrap64 (IntKind.i16.wrap (wrap64 (IntKind.i16.wrap a))) = wrap64 (IntKind.i16.wrap a) ∧ wrap64 (a * 281474976710656) / 281474976710656 = wrap64 (IntKind.i16.wrap a) := by
  rw [wrap16_eq, wrap16_eq]
  unfold wrap64
  constructor <;> omega
theorem ext32 (a : Int) : wrap64 (wrap32 (wrap64 (wrap32 a))) = wrap64 (wrap32 a) ∧ wrap64 (a * 4294967296) / 4294967296 = wrap64 (wrap32 a) := by
  unfold wrap64 wrap32
  constructor <;> omega
end Go.Proofs.YtkeneiahhmbojaaGreatDoor
