/-
  The plain law: what the reference's functions answer at every number is what the program's tables hold.
-/
import Derived.Test.YtoaomnlgjniljaaKinds
namespace Go.Proofs.Ytoaomnlgjniljaa.Kinds
open Go.RowKit Go.Proofs.YtoaomnlgjniljaaW.PrintWords Go.Proofs.YtoaomnlgjniljaaW.PrintLast Go.Proofs.YtoaomnlgjniljaaW.PrintMore
open Go.Proofs.Ytoaomnlgjniljaa.POpsKinds

theorem wrap_in (x : Int) (h1 : -9223372036854775808 ≤ x) (h2 : x < 9223372036854775808) : wrap64 x = x := by unfold wrap64; omega
theorem wrap_range (x : Int) : -9223372036854775808 ≤ wrap64 x ∧ wrap64 x < 9223372036854775808 := by unfold wrap64; omega

/-- below 0, or above what is left of the text: no word is found -/
theorem word_out (s : ByteArray) (hs : s.size ≤ 1000) : ∀ (k i : Nat) (n from_ : Int), i ≤ s.size → s.size - i < k → -9223372036854775808 ≤ n → n < 9223372036854775808 → (n < 0 ∨ (s.size : Int) - i ≤ n) →
    portageref13_word.l0 k s n from_ (i : Int) = some ⟨#[]⟩ := by
  intro k
  induction k with
  | zero => intro i n from_ hi hk; omega
  | succ k ih =>
    intro i n from_ hi hk h1 h2 hn
    unfold portageref13_word.l0
    by_cases hlt : i < s.size
    · rw [if_pos (by omega), if_pos (by omega)]
      have e1 : wrap64 ((i : Int) + 1) = ((i + 1 : Nat) : Int) := by rw [wrap_in _ (by omega) (by omega)]; omega
      by_cases hb : bt s i = 32
      · rw [if_pos hb, if_neg (by omega), e1]
        have hw := wrap_range (n - 1)
        refine ih (i + 1) _ _ (by omega) (by omega) hw.1 hw.2 ?_
        by_cases hm : n = -9223372036854775808
        · subst hm; right; have : wrap64 (-9223372036854775808 - 1) = 9223372036854775807 := by unfold wrap64; omega
          omega
        · rw [wrap_in _ (by omega) (by omega)]; omega
      · rw [if_neg hb, e1]
        exact ih (i + 1) _ _ (by omega) (by omega) h1 h2 (by omega)
    · rw [if_neg (by omega)]

theorem kind_small : ∀ m : Fin 60, portageref13_KindName.f 70 (m.val : Int) = some (kn m.val) := by decide +kernel
theorem trap_small : ∀ m : Fin 70, portageref13_TrapName.f 80 (m.val : Int) = some (tn m.val) := by decide +kernel

theorem kind_all (n : Int) (h1 : -9223372036854775808 ≤ n) (h2 : n < 9223372036854775808) : portageref13_KindName.f 70 n = some (kn n) := by
  by_cases h : 0 ≤ n ∧ n < 60
  · obtain ⟨m, rfl⟩ := Int.eq_ofNat_of_zero_le h.1
    exact kind_small ⟨m, by omega⟩
  · rw [kn_out n (by omega)]
    unfold portageref13_KindName.f portageref13_word.f
    have := word_out ⟨#[110, 105, 108, 32, 98, 111, 111, 108, 32, 105, 110, 116, 32, 114, 101, 97, 108, 32, 116, 101, 120, 116, 32, 102, 117, 110, 99, 32, 97, 114, 114, 97, 121, 32, 114, 101, 99, 111, 114, 100, 32, 98, 111, 117, 110, 100, 32, 99, 104, 97, 110, 32]⟩ (by decide) 70 0 n 0 (by decide) (by decide) h1 h2 (by
      have : ByteArray.size ⟨#[110, 105, 108, 32, 98, 111, 111, 108, 32, 105, 110, 116, 32, 114, 101, 97, 108, 32, 116, 101, 120, 116, 32, 102, 117, 110, 99, 32, 97, 114, 114, 97, 121, 32, 114, 101, 99, 111, 114, 100, 32, 98, 111, 117, 110, 100, 32, 99, 104, 97, 110, 32]⟩ = 52 := by decide
      rw [this]; omega)
    erw [this]; rfl

theorem trap_all (n : Int) (h1 : -9223372036854775808 ≤ n) (h2 : n < 9223372036854775808) : portageref13_TrapName.f 80 n = some (tn n) := by
  by_cases h : 0 ≤ n ∧ n < 70
  · obtain ⟨m, rfl⟩ := Int.eq_ofNat_of_zero_le h.1
    exact trap_small ⟨m, by omega⟩
  · rw [tn_out n (by omega)]
    unfold portageref13_TrapName.f portageref13_word.f
    have hw := wrap_range (n - 1)
    have := word_out ⟨#[116, 121, 112, 101, 32, 100, 105, 118, 105, 100, 101, 32, 105, 110, 100, 101, 120, 32, 107, 101, 121, 32, 97, 114, 105, 116, 121, 32, 100, 101, 101, 112, 32, 99, 108, 111, 115, 101, 100, 32, 114, 97, 110, 103, 101, 32, 102, 111, 114, 109, 32, 102, 105, 98, 101, 114, 115, 32]⟩ (by decide) 80 0 (wrap64 (n - 1)) 0 (by decide) (by decide) hw.1 hw.2 (by
      have : ByteArray.size ⟨#[116, 121, 112, 101, 32, 100, 105, 118, 105, 100, 101, 32, 105, 110, 100, 101, 120, 32, 107, 101, 121, 32, 97, 114, 105, 116, 121, 32, 100, 101, 101, 112, 32, 99, 108, 111, 115, 101, 100, 32, 114, 97, 110, 103, 101, 32, 102, 111, 114, 109, 32, 102, 105, 98, 101, 114, 115, 32]⟩ = 58 := by decide
      rw [this]
      by_cases hm : n = -9223372036854775808
      · subst hm; right; have : wrap64 (-9223372036854775808 - 1) = 9223372036854775807 := by unfold wrap64; omega
        omega
      · rw [wrap_in _ (by omega) (by omega)]; omega)
    erw [this]; rfl

/-- the program's table of operations is the reference's -/
def app (n : Int) : Bool := decide (12 ≤ n ∧ n ≤ 39) || decide (n = 46) || decide (47 ≤ n ∧ n ≤ 57) || decide (n = 62) || decide (n = 65) || decide (n = 66)
theorem applies_all (n : Int) : ops_Applies.f 3 n = some (app n) := by
  unfold ops_Applies.f ops_Applies.j0 ops_Applies.j1 app
  by_cases a : 12 ≤ n <;> by_cases b : n ≤ 39 <;> by_cases c : n = 46 <;> by_cases d : 47 ≤ n <;> by_cases e : n ≤ 57 <;> by_cases f : n = 62 <;> by_cases g : n = 65 <;> by_cases h : n = 66 <;> first | omega | simp [a, b, c, d, e, f, g, h]
theorem applies_ref (n : Int) : portageref13_Applies.f n = some (app n) := by
  unfold portageref13_Applies.f app
  by_cases a : 46 ≤ n ∧ n ≤ 57
  · obtain ⟨m, rfl⟩ := Int.eq_ofNat_of_zero_le (show 0 ≤ n by omega)
    have : m = 46 ∨ m = 47 ∨ m = 48 ∨ m = 49 ∨ m = 50 ∨ m = 51 ∨ m = 52 ∨ m = 53 ∨ m = 54 ∨ m = 55 ∨ m = 56 ∨ m = 57 := by omega
    rcases this with rfl | rfl | rfl | rfl | rfl | rfl | rfl | rfl | rfl | rfl | rfl | rfl <;> rfl
  · rw [if_neg (by omega), if_neg (by omega), if_neg (by omega), if_neg (by omega), if_neg (by omega), if_neg (by omega), if_neg (by omega), if_neg (by omega), if_neg (by omega), if_neg (by omega), if_neg (by omega), if_neg (by omega)]
    by_cases f : n = 62 <;> by_cases g : n = 65 <;> by_cases h : n = 66 <;> by_cases b : 12 ≤ n <;> by_cases c : n ≤ 39 <;> first | omega | (simp [f, g, h, b, c] <;> omega)
theorem pure_all (n : Int) : ops_Pure.f n = portageref13_Pure.f n := rfl
end Go.Proofs.Ytoaomnlgjniljaa.Kinds
