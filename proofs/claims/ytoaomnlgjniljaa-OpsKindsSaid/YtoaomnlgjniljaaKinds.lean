/-
  What the two functions of the program that tell names answer, at every number.
-/
import Derived.Test.YtoaomnlgjniljaaPOpsKindsx1
import Derived.WalkLawsBesides
import Derived.WalkSpells
namespace Go.Proofs.Ytoaomnlgjniljaa.Kinds
open Go.RowKit Go.Proofs.YtoaomnlgjniljaaW.PrintWords Go.Proofs.YtoaomnlgjniljaaW.PrintLast Go.Proofs.YtoaomnlgjniljaaW.PrintMore

def kn (n : Int) : ByteArray := if n = 0 then ⟨#[110, 105, 108]⟩ else if n = 1 then ⟨#[98, 111, 111, 108]⟩ else if n = 2 then ⟨#[105, 110, 116]⟩ else if n = 3 then ⟨#[114, 101, 97, 108]⟩ else if n = 4 then ⟨#[116, 101, 120, 116]⟩ else if n = 5 then ⟨#[102, 117, 110, 99]⟩ else if n = 6 then ⟨#[97, 114, 114, 97, 121]⟩ else if n = 7 then ⟨#[114, 101, 99, 111, 114, 100]⟩ else if n = 8 then ⟨#[98, 111, 117, 110, 100]⟩ else if n = 9 then ⟨#[99, 104, 97, 110]⟩ else ⟨#[]⟩
theorem kn_out (n : Int) (h : n < 0 ∨ 10 ≤ n) : kn n = ⟨#[]⟩ := by unfold kn; repeat (rw [if_neg (by omega)])
theorem kn_low (n : Int) (w : World) (h : n < 0) :
    Calls Try.prog 8 #[.int .i64 n] w fun e w' => e = .returned (.string (kn n)) ∧ Below w.heap.size w w' := by
  rw [kn_out n (.inl h)]
  have h1 : decide (n < 0) = true := decide_eq_true h
  clear h
  go_enter Try.func8, Try.ntmps8
  go_wp2
  repeat (go_quiet (fail); try go_wp2)
  go_ret
  exact ⟨rfl, (Below.refl _ _).alloc (Nat.le_refl _) _⟩
theorem kn_high (n : Int) (w : World) (h : 10 ≤ n) :
    Calls Try.prog 8 #[.int .i64 n] w fun e w' => e = .returned (.string (kn n)) ∧ Below w.heap.size w w' := by
  rw [kn_out n (.inr h)]
  have h1 : decide (n < 0) = false := decide_eq_false (by omega)
  have h2 : decide (10 ≤ n) = true := decide_eq_true h
  clear h
  go_enter Try.func8, Try.ntmps8
  go_wp2
  repeat (go_quiet (fail); try go_wp2)
  go_ret
  exact ⟨rfl, (Below.refl _ _).alloc (Nat.le_refl _) _⟩
theorem kn_0 (w : World) :
    Calls Try.prog 8 #[.int .i64 0] w fun e w' => e = .returned (.string (kn 0)) ∧ Below w.heap.size w w' := by
  go_enter Try.func8, Try.ntmps8
  go_wp2
  go_ret
  exact ⟨rfl, (Below.refl _ _).alloc (Nat.le_refl _) _⟩
theorem kn_1 (w : World) :
    Calls Try.prog 8 #[.int .i64 1] w fun e w' => e = .returned (.string (kn 1)) ∧ Below w.heap.size w w' := by
  go_enter Try.func8, Try.ntmps8
  go_wp2
  go_ret
  exact ⟨rfl, (Below.refl _ _).alloc (Nat.le_refl _) _⟩
theorem kn_2 (w : World) :
    Calls Try.prog 8 #[.int .i64 2] w fun e w' => e = .returned (.string (kn 2)) ∧ Below w.heap.size w w' := by
  go_enter Try.func8, Try.ntmps8
  go_wp2
  go_ret
  exact ⟨rfl, (Below.refl _ _).alloc (Nat.le_refl _) _⟩
theorem kn_3 (w : World) :
    Calls Try.prog 8 #[.int .i64 3] w fun e w' => e = .returned (.string (kn 3)) ∧ Below w.heap.size w w' := by
  go_enter Try.func8, Try.ntmps8
  go_wp2
  go_ret
  exact ⟨rfl, (Below.refl _ _).alloc (Nat.le_refl _) _⟩
theorem kn_4 (w : World) :
    Calls Try.prog 8 #[.int .i64 4] w fun e w' => e = .returned (.string (kn 4)) ∧ Below w.heap.size w w' := by
  go_enter Try.func8, Try.ntmps8
  go_wp2
  go_ret
  exact ⟨rfl, (Below.refl _ _).alloc (Nat.le_refl _) _⟩
theorem kn_5 (w : World) :
    Calls Try.prog 8 #[.int .i64 5] w fun e w' => e = .returned (.string (kn 5)) ∧ Below w.heap.size w w' := by
  go_enter Try.func8, Try.ntmps8
  go_wp2
  go_ret
  exact ⟨rfl, (Below.refl _ _).alloc (Nat.le_refl _) _⟩
theorem kn_6 (w : World) :
    Calls Try.prog 8 #[.int .i64 6] w fun e w' => e = .returned (.string (kn 6)) ∧ Below w.heap.size w w' := by
  go_enter Try.func8, Try.ntmps8
  go_wp2
  go_ret
  exact ⟨rfl, (Below.refl _ _).alloc (Nat.le_refl _) _⟩
theorem kn_7 (w : World) :
    Calls Try.prog 8 #[.int .i64 7] w fun e w' => e = .returned (.string (kn 7)) ∧ Below w.heap.size w w' := by
  go_enter Try.func8, Try.ntmps8
  go_wp2
  go_ret
  exact ⟨rfl, (Below.refl _ _).alloc (Nat.le_refl _) _⟩
theorem kn_8 (w : World) :
    Calls Try.prog 8 #[.int .i64 8] w fun e w' => e = .returned (.string (kn 8)) ∧ Below w.heap.size w w' := by
  go_enter Try.func8, Try.ntmps8
  go_wp2
  go_ret
  exact ⟨rfl, (Below.refl _ _).alloc (Nat.le_refl _) _⟩
theorem kn_9 (w : World) :
    Calls Try.prog 8 #[.int .i64 9] w fun e w' => e = .returned (.string (kn 9)) ∧ Below w.heap.size w w' := by
  go_enter Try.func8, Try.ntmps8
  go_wp2
  go_ret
  exact ⟨rfl, (Below.refl _ _).alloc (Nat.le_refl _) _⟩
theorem kn_calls (n : Int) (w : World) :
    Calls Try.prog 8 #[.int .i64 n] w fun e w' => e = .returned (.string (kn n)) ∧ Below w.heap.size w w' := by
  have hc : n < 0 ∨ 10 ≤ n ∨ n = 0 ∨ n = 1 ∨ n = 2 ∨ n = 3 ∨ n = 4 ∨ n = 5 ∨ n = 6 ∨ n = 7 ∨ n = 8 ∨ n = 9 := by omega
  rcases hc with h | h | rfl | rfl | rfl | rfl | rfl | rfl | rfl | rfl | rfl | rfl
  · exact kn_low n w h
  · exact kn_high n w h
  · exact kn_0 w
  · exact kn_1 w
  · exact kn_2 w
  · exact kn_3 w
  · exact kn_4 w
  · exact kn_5 w
  · exact kn_6 w
  · exact kn_7 w
  · exact kn_8 w
  · exact kn_9 w

def tn (n : Int) : ByteArray := if n = 0 then ⟨#[]⟩ else if n = 1 then ⟨#[116, 121, 112, 101]⟩ else if n = 2 then ⟨#[100, 105, 118, 105, 100, 101]⟩ else if n = 3 then ⟨#[105, 110, 100, 101, 120]⟩ else if n = 4 then ⟨#[107, 101, 121]⟩ else if n = 5 then ⟨#[97, 114, 105, 116, 121]⟩ else if n = 6 then ⟨#[100, 101, 101, 112]⟩ else if n = 7 then ⟨#[99, 108, 111, 115, 101, 100]⟩ else if n = 8 then ⟨#[114, 97, 110, 103, 101]⟩ else if n = 9 then ⟨#[102, 111, 114, 109]⟩ else if n = 10 then ⟨#[102, 105, 98, 101, 114, 115]⟩ else ⟨#[]⟩
theorem tn_out (n : Int) (h : n < 0 ∨ 11 ≤ n) : tn n = ⟨#[]⟩ := by unfold tn; repeat (rw [if_neg (by omega)])
theorem tn_low (n : Int) (w : World) (h : n < 0) :
    Calls Try.prog 10 #[.int .i64 n] w fun e w' => e = .returned (.string (tn n)) ∧ Below w.heap.size w w' := by
  rw [tn_out n (.inl h)]
  have h1 : decide (n < 0) = true := decide_eq_true h
  clear h
  go_enter Try.func10, Try.ntmps10
  go_wp2
  repeat (go_quiet (fail); try go_wp2)
  go_ret
  exact ⟨rfl, (Below.refl _ _).alloc (Nat.le_refl _) _⟩
theorem tn_high (n : Int) (w : World) (h : 11 ≤ n) :
    Calls Try.prog 10 #[.int .i64 n] w fun e w' => e = .returned (.string (tn n)) ∧ Below w.heap.size w w' := by
  rw [tn_out n (.inr h)]
  have h1 : decide (n < 0) = false := decide_eq_false (by omega)
  have h2 : decide (11 ≤ n) = true := decide_eq_true h
  clear h
  go_enter Try.func10, Try.ntmps10
  go_wp2
  repeat (go_quiet (fail); try go_wp2)
  go_ret
  exact ⟨rfl, (Below.refl _ _).alloc (Nat.le_refl _) _⟩
theorem tn_0 (w : World) :
    Calls Try.prog 10 #[.int .i64 0] w fun e w' => e = .returned (.string (tn 0)) ∧ Below w.heap.size w w' := by
  go_enter Try.func10, Try.ntmps10
  go_wp2
  go_ret
  exact ⟨rfl, (Below.refl _ _).alloc (Nat.le_refl _) _⟩
theorem tn_1 (w : World) :
    Calls Try.prog 10 #[.int .i64 1] w fun e w' => e = .returned (.string (tn 1)) ∧ Below w.heap.size w w' := by
  go_enter Try.func10, Try.ntmps10
  go_wp2
  go_ret
  exact ⟨rfl, (Below.refl _ _).alloc (Nat.le_refl _) _⟩
theorem tn_2 (w : World) :
    Calls Try.prog 10 #[.int .i64 2] w fun e w' => e = .returned (.string (tn 2)) ∧ Below w.heap.size w w' := by
  go_enter Try.func10, Try.ntmps10
  go_wp2
  go_ret
  exact ⟨rfl, (Below.refl _ _).alloc (Nat.le_refl _) _⟩
theorem tn_3 (w : World) :
    Calls Try.prog 10 #[.int .i64 3] w fun e w' => e = .returned (.string (tn 3)) ∧ Below w.heap.size w w' := by
  go_enter Try.func10, Try.ntmps10
  go_wp2
  go_ret
  exact ⟨rfl, (Below.refl _ _).alloc (Nat.le_refl _) _⟩
theorem tn_4 (w : World) :
    Calls Try.prog 10 #[.int .i64 4] w fun e w' => e = .returned (.string (tn 4)) ∧ Below w.heap.size w w' := by
  go_enter Try.func10, Try.ntmps10
  go_wp2
  go_ret
  exact ⟨rfl, (Below.refl _ _).alloc (Nat.le_refl _) _⟩
theorem tn_5 (w : World) :
    Calls Try.prog 10 #[.int .i64 5] w fun e w' => e = .returned (.string (tn 5)) ∧ Below w.heap.size w w' := by
  go_enter Try.func10, Try.ntmps10
  go_wp2
  go_ret
  exact ⟨rfl, (Below.refl _ _).alloc (Nat.le_refl _) _⟩
theorem tn_6 (w : World) :
    Calls Try.prog 10 #[.int .i64 6] w fun e w' => e = .returned (.string (tn 6)) ∧ Below w.heap.size w w' := by
  go_enter Try.func10, Try.ntmps10
  go_wp2
  go_ret
  exact ⟨rfl, (Below.refl _ _).alloc (Nat.le_refl _) _⟩
theorem tn_7 (w : World) :
    Calls Try.prog 10 #[.int .i64 7] w fun e w' => e = .returned (.string (tn 7)) ∧ Below w.heap.size w w' := by
  go_enter Try.func10, Try.ntmps10
  go_wp2
  go_ret
  exact ⟨rfl, (Below.refl _ _).alloc (Nat.le_refl _) _⟩
theorem tn_8 (w : World) :
    Calls Try.prog 10 #[.int .i64 8] w fun e w' => e = .returned (.string (tn 8)) ∧ Below w.heap.size w w' := by
  go_enter Try.func10, Try.ntmps10
  go_wp2
  go_ret
  exact ⟨rfl, (Below.refl _ _).alloc (Nat.le_refl _) _⟩
theorem tn_9 (w : World) :
    Calls Try.prog 10 #[.int .i64 9] w fun e w' => e = .returned (.string (tn 9)) ∧ Below w.heap.size w w' := by
  go_enter Try.func10, Try.ntmps10
  go_wp2
  go_ret
  exact ⟨rfl, (Below.refl _ _).alloc (Nat.le_refl _) _⟩
theorem tn_10 (w : World) :
    Calls Try.prog 10 #[.int .i64 10] w fun e w' => e = .returned (.string (tn 10)) ∧ Below w.heap.size w w' := by
  go_enter Try.func10, Try.ntmps10
  go_wp2
  go_ret
  exact ⟨rfl, (Below.refl _ _).alloc (Nat.le_refl _) _⟩
theorem tn_calls (n : Int) (w : World) :
    Calls Try.prog 10 #[.int .i64 n] w fun e w' => e = .returned (.string (tn n)) ∧ Below w.heap.size w w' := by
  have hc : n < 0 ∨ 11 ≤ n ∨ n = 0 ∨ n = 1 ∨ n = 2 ∨ n = 3 ∨ n = 4 ∨ n = 5 ∨ n = 6 ∨ n = 7 ∨ n = 8 ∨ n = 9 ∨ n = 10 := by omega
  rcases hc with h | h | rfl | rfl | rfl | rfl | rfl | rfl | rfl | rfl | rfl | rfl | rfl
  · exact tn_low n w h
  · exact tn_high n w h
  · exact tn_0 w
  · exact tn_1 w
  · exact tn_2 w
  · exact tn_3 w
  · exact tn_4 w
  · exact tn_5 w
  · exact tn_6 w
  · exact tn_7 w
  · exact tn_8 w
  · exact tn_9 w
  · exact tn_10 w

end Go.Proofs.Ytoaomnlgjniljaa.Kinds
