/-
  The reference's answers on one operation, by the table.
-/
import Derived.Test.YtpallcggmaheoaaDoorPi
import Derived.Test.YtpallcggmaheoaaDoorEf
namespace Go.Proofs.YtpallcggmaheoaaDoor
open Go.RowKit Go.Proofs.YtpallcggmaheoaaDoorW.PrintWords Go.Proofs.YtpallcggmaheoaaDoorW.PrintMore
open PListInstr
set_option linter.unusedVariables false

/-- may an operand of this kind be this number? -/
def okA (kd : Nat) (a : Int) : Bool :=
  if kd = 1 then true else if kd = 2 then decide (0 ≤ a ∧ a < 2000) else if kd = 3 then decide (0 ≤ a ∧ a < 64) else if kd = 4 then decide (0 ≤ a ∧ a < 512) else if kd = 5 then decide (0 ≤ a ∧ a < 128) else if kd = 6 then decide (0 ≤ a ∧ a < 64) else if kd = 7 then decide (a = 8 ∨ a = 16 ∨ a = 32) else if kd = 8 then decide (1 ≤ a ∧ a ≤ 64) else decide (0 ≤ a ∧ a < 1)
theorem ge_lt (a n : Int) : (if a ≥ 0 then some (decide (a < n)) else some false) = some (decide (0 ≤ a ∧ a < n)) := by
  by_cases h : a ≥ 0
  · rw [if_pos h]
    by_cases h2 : a < n <;> simp [h2, h]
  · rw [if_neg h]
    simp [h]
theorem right_f (kd : Nat) (h : kd ≤ 8) (a : Int) : portageref07_right.f (kd : Int) a = some (okA kd a) := by
  have hk : kd = 0 ∨ kd = 1 ∨ kd = 2 ∨ kd = 3 ∨ kd = 4 ∨ kd = 5 ∨ kd = 6 ∨ kd = 7 ∨ kd = 8 := by omega
  unfold portageref07_right.f okA
  rcases hk with rfl | rfl | rfl | rfl | rfl | rfl | rfl | rfl | rfl
  · simp
    by_cases h : a = 0
    · subst h; rfl
    · have h1 : (a == 0) = false := by simpa using h
      have h2 : ¬ (0 ≤ a ∧ a < 1) := by omega
      simp [h1]
      omega
  · simp
  · simpa using ge_lt a 2000
  · simpa using ge_lt a 64
  · simpa using ge_lt a 512
  · simpa using ge_lt a 128
  · simpa using ge_lt a 64
  · simp
    by_cases h8 : a = 8
    · simp [h8]
    · by_cases h16 : a = 16
      · simp [h16]
      · by_cases h32 : a = 32
        · simp [h32]
        · simp [h8, h16, h32]
  · simp
    by_cases h1 : 1 ≤ a <;> simp [h1]
theorem kd_le (n : Nat) (h : n < 67) : (opRow n).2.1 ≤ 8 := by
  have : (List.range 67).all (fun n => decide ((opRow n).2.1 ≤ 8)) = true := by decide +kernel
  exact of_decide_eq_true (List.all_eq_true.1 this n (List.mem_range.2 h))
theorem operand_f (n : Nat) (h : n < 67) : portageref07_Operand.f 8 (n : Int) = some (((opRow n).2.1 : Int), true) := by
  have : (List.range 67).all (fun n => decide (portageref07_Operand.f 8 (n : Int) = some (((opRow n).2.1 : Int), true))) = true := by decide +kernel
  exact of_decide_eq_true (List.all_eq_true.1 this n (List.mem_range.2 h))
theorem operand_none (n : Int) (h : n < 0 ∨ 67 ≤ n) : portageref07_Operand.f 8 n = some (0, false) := by
  unfold portageref07_Operand.f
  rcases h with h | h
  · rw [if_pos h]
    rfl
  · rw [if_neg (by omega), decide_eq_true (show n ≥ 67 from h)]
    rfl
theorem check_f (n : Nat) (h : n < 67) (a : Int) : portageref07_Check.f 8 (n : Int) a = some (if okA (opRow n).2.1 a = true then 0 else 7) := by
  unfold portageref07_Check.f
  rw [operand_f n h]
  simp only [Option.bind_some]
  rw [if_pos trivial, right_f _ (kd_le n h)]
  simp only [Option.bind_some]
  split <;> rfl
theorem check_none (n : Int) (h : n < 0 ∨ 67 ≤ n) (a : Int) : portageref07_Check.f 8 n a = some 7 := by
  unfold portageref07_Check.f
  rw [operand_none n h]
  rfl
def nmOk (n : Nat) : Bool := match portageref07_Name.f 330 (n : Int) with
  | some (s, true) => s.data.toList == (opRow n).1
  | _ => false
set_option maxRecDepth 100000 in
theorem names_ok : (List.range 67).all nmOk = true := by decide +kernel
theorem name_f (n : Nat) (h : n < 67) : portageref07_Name.f 330 (n : Int) = some (⟨(opRow n).1.toArray⟩, true) := by
  have h1 := List.all_eq_true.1 names_ok n (List.mem_range.2 h)
  unfold nmOk at h1
  split at h1
  · next s e =>
    have h2 : s.data.toList = (opRow n).1 := by simpa using h1
    rw [e, ← h2]
  · cases h1
end Go.Proofs.YtpallcggmaheoaaDoor
