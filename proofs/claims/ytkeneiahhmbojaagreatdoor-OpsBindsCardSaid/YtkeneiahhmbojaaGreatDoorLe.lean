/-
  The operations on two whole numbers, and what they come to. (Printed by wip/tools/ops_Le.py.)
-/
import Derived.Test.YtkeneiahhmbojaaGreatDoorEff
namespace Go.Proofs.YtkeneiahhmbojaaGreatDoor
open Go.RowKit Go.MapKept
open Go.Proofs.YtkeneiahhmbojaaGreatDoorW.PrintWords Go.Proofs.YtkeneiahhmbojaaGreatDoorW.PrintMore

theorem value_calls (k n : Int) (w : World) : Calls Tryz.prog 86 #[.agg #[.int .i64 k, .int .i64 n]] w fun e w' => e = .returned (.agg #[.int .i64 k, .int .i64 n, .int .i64 0, .bool false]) ∧ Below w.heap.size w w' := by
  go_enter Tryz.func86, Tryz.ntmps86
  go_wp2_with fail
  exact bodyPost_ret (results_cell_row rfl _ _ (w.heap.size + 1) 90 _ (0, 0) _ rfl (heap_alloc2_new w _ _) Tryz.underlying90 rfl (by kernel_rfl)) rfl ⟨rfl, ((Below.refl _ _).alloc (Nat.le_refl _) _).alloc (by simp) _⟩
theorem number_calls (n : Int) (w : World) : Calls Tryz.prog 83 #[.int .i64 n] w fun e w' => e = .returned (.agg #[.int .i64 2, .int .i64 n, .int .i64 0, .bool false]) ∧ Below w.heap.size w w' := by
  go_enter Tryz.func83, Tryz.ntmps83
  go_wp2_with fail
  refine (value_calls _ _ _).mono ?_
  rintro e w1 ⟨rfl, hb⟩
  have HG := Aside0.mk (old_block hb)
  have HB := Aside0.mk (below_after hb)
  clear hb
  go_wp2_with (with_reducible refine wpList_store_row rfl 90 _ _ rfl w.heap.size #[.int .i64 2, .int .i64 n, .int .i64 0, .bool false] rfl rfl 90 _ HG.out (by kernel_rfl) (by kernel_rfl) (by kernel_rfl) ?_)
  exact bodyPost_ret (results_cell_row rfl _ _ w.heap.size 90 _ (0, 0) _ rfl (setRow_heap _ _ _ _ _ _ HG.out) Tryz.underlying90 rfl (by kernel_rfl)) rfl ⟨rfl, below_setRow HB.out (Nat.le_refl _) _⟩
theorem trap_calls (n : Int) (w : World) : Calls Tryz.prog 80 #[.int .i64 n] w fun e w' => e = .returned (.agg #[.int .i64 0, .int .i64 0, .int .i64 n, .bool false]) ∧ Below w.heap.size w w' := by
  go_enter Tryz.func80, Tryz.ntmps80
  go_wp2_with fail
  exact bodyPost_ret (results_cell_row rfl _ _ w.heap.size 90 _ (0, 0) _ rfl (heap_alloc_last w _) Tryz.underlying90 rfl (by kernel_rfl)) rfl ⟨rfl, below_alloc1 w _⟩
theorem applies_calls (n : Int) (h : (12 ≤ n ∧ n ≤ 39) ∨ n = 46 ∨ (47 ≤ n ∧ n ≤ 57) ∨ n = 66) (w : World) : Calls Tryz.prog 33 #[.int .i64 n] w fun e w' => e = .returned (.bool true) ∧ w = w' := by
  by_cases h0 : 12 ≤ n ∧ n ≤ 39
  · have p0 : decide (12 ≤ n) = true := decide_eq_true h0.1
    have p1 : decide (n ≤ 39) = true := decide_eq_true h0.2
    clear h h0
    go_enter Tryz.func33, Tryz.ntmps33
    go_wp2_with fail
    go_ret
    exact ⟨rfl, rfl⟩
  · have p0 : decide (12 ≤ n) = true := decide_eq_true (by omega)
    have p1 : decide (n ≤ 39) = false := decide_eq_false (by omega)
    by_cases h1 : n = 46
    · have p2 : (n == 46) = true := by simp [h1]
      clear h h0 h1
      go_enter Tryz.func33, Tryz.ntmps33
      go_wp2_with fail
      go_ret
      exact ⟨rfl, rfl⟩
    · have p2 : (n == 46) = false := by simp [h1]
      have p3 : decide (47 ≤ n) = true := decide_eq_true (by omega)
      by_cases h2 : n = 66
      · have p4 : decide (n ≤ 57) = false := decide_eq_false (by omega)
        have p5 : (n == 62) = false := by simp [h2]
        have p6 : (n == 65) = false := by simp [h2]
        have p7 : (n == 66) = true := by simp [h2]
        clear h h0 h1 h2
        go_enter Tryz.func33, Tryz.ntmps33
        go_wp2_with fail
        go_ret
        exact ⟨rfl, rfl⟩
      · have p4 : decide (n ≤ 57) = true := decide_eq_true (by omega)
        clear h h0 h1 h2
        go_enter Tryz.func33, Tryz.ntmps33
        go_wp2_with fail
        go_ret
        exact ⟨rfl, rfl⟩
theorem i_add (a b : Int) (w : World) : Calls Tryz.prog 140 #[.int .i64 a, .int .i64 b] w fun e w' => e = .returned (.int .i64 (wrap64 (a + b))) ∧ w = w' := by
  go_enter Tryz.func140, Tryz.ntmps140
  go_wp2_with fail
  go_ret
  exact ⟨rfl, rfl⟩
theorem i_sub (a b : Int) (w : World) : Calls Tryz.prog 141 #[.int .i64 a, .int .i64 b] w fun e w' => e = .returned (.int .i64 (wrap64 (a - b))) ∧ w = w' := by
  go_enter Tryz.func141, Tryz.ntmps141
  go_wp2_with fail
  go_ret
  exact ⟨rfl, rfl⟩
theorem i_mul (a b : Int) (w : World) : Calls Tryz.prog 142 #[.int .i64 a, .int .i64 b] w fun e w' => e = .returned (.int .i64 (wrap64 (a * b))) ∧ w = w' := by
  go_enter Tryz.func142, Tryz.ntmps142
  go_wp2_with fail
  go_ret
  exact ⟨rfl, rfl⟩
theorem i_div (a b : Int) (hb : b ≠ 0) (w : World) : Calls Tryz.prog 143 #[.int .i64 a, .int .i64 b] w fun e w' => e = .returned (.int .i64 (wrap64 (a.tdiv b))) ∧ w = w' := by
  go_enter Tryz.func143, Tryz.ntmps143
  go_wp2_with fail
  go_ret
  exact ⟨rfl, rfl⟩
theorem i_rem (a b : Int) (hb : b ≠ 0) (w : World) : Calls Tryz.prog 144 #[.int .i64 a, .int .i64 b] w fun e w' => e = .returned (.int .i64 (a.tmod b)) ∧ w = w' := by
  go_enter Tryz.func144, Tryz.ntmps144
  go_wp2_with fail
  go_ret
  exact ⟨rfl, rfl⟩
theorem i_and (a b : Int) (w : World) : Calls Tryz.prog 145 #[.int .i64 a, .int .i64 b] w fun e w' => e = .returned (.int .i64 (bits BinOp.and .i64 a b)) ∧ w = w' := by
  go_enter Tryz.func145, Tryz.ntmps145
  go_wp2_with fail
  go_ret
  exact ⟨rfl, rfl⟩
theorem i_or (a b : Int) (w : World) : Calls Tryz.prog 146 #[.int .i64 a, .int .i64 b] w fun e w' => e = .returned (.int .i64 (bits BinOp.or .i64 a b)) ∧ w = w' := by
  go_enter Tryz.func146, Tryz.ntmps146
  go_wp2_with fail
  go_ret
  exact ⟨rfl, rfl⟩
theorem i_xor (a b : Int) (w : World) : Calls Tryz.prog 147 #[.int .i64 a, .int .i64 b] w fun e w' => e = .returned (.int .i64 (bits BinOp.xor .i64 a b)) ∧ w = w' := by
  go_enter Tryz.func147, Tryz.ntmps147
  go_wp2_with fail
  go_ret
  exact ⟨rfl, rfl⟩
theorem i_bic (a b : Int) (w : World) : Calls Tryz.prog 148 #[.int .i64 a, .int .i64 b] w fun e w' => e = .returned (.int .i64 (bits BinOp.andNot .i64 a b)) ∧ w = w' := by
  go_enter Tryz.func148, Tryz.ntmps148
  go_wp2_with fail
  go_ret
  exact ⟨rfl, rfl⟩
theorem i_shl (a b : Int) (w : World) : Calls Tryz.prog 149 #[.int .i64 a, .int .i64 b] w fun e w' => e = .returned (.int .i64 (wrap64 (a * 2 ^ min (IntKind.u64.wrap b).toNat 64))) ∧ w = w' := by
  go_enter Tryz.func149, Tryz.ntmps149
  go_wp2_with fail
  go_ret
  exact ⟨rfl, rfl⟩
theorem i_shr (a b : Int) (w : World) : Calls Tryz.prog 150 #[.int .i64 a, .int .i64 b] w fun e w' => e = .returned (.int .i64 (a / 2 ^ min (IntKind.u64.wrap b).toNat 64)) ∧ w = w' := by
  go_enter Tryz.func150, Tryz.ntmps150
  go_wp2_with fail
  go_ret
  exact ⟨rfl, rfl⟩
end Go.Proofs.YtkeneiahhmbojaaGreatDoor
