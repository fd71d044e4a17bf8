/-
  What Apply comes to on whole numbers, operation by operation. (Printed by wip/tools/ops_App.py.)
-/
import Derived.Test.YtkeneiahhmbojaaGreatDoorOn
namespace Go.Proofs.YtkeneiahhmbojaaGreatDoor
open Go.RowKit Go.MapKept
open Go.Proofs.YtkeneiahhmbojaaGreatDoorW.PrintWords Go.Proofs.YtkeneiahhmbojaaGreatDoorW.PrintMore

theorem bin_15_zero (a : Int) (w : World) :
    Calls Tryz.prog 54 #[.int .i64 15, .agg #[.int .i64 2, .int .i64 a], .agg #[.int .i64 2, .int .i64 0]] w fun e w' => e = .returned (.agg #[.int .i64 0, .int .i64 0, .int .i64 2, .bool false]) ∧ Below w.heap.size w w' := by
  go_enter Tryz.func54, Tryz.ntmps54
  go_wp2_with fail
  refine (trap_calls _ _).mono ?_
  rintro e w1 ⟨rfl, hb⟩
  have HG := Aside0.mk ((hb.block _ (by simp)).trans (heap3_last w _ _ _))
  have HB := Aside0.mk ((below3 w _ _ _).trans (hb.mono (by simp; omega)))
  clear hb
  go_wp2_with (with_reducible refine wpList_store_row rfl 90 _ _ rfl (w.heap.size + 1 + 1) #[.int .i64 0, .int .i64 0, .int .i64 2, .bool false] rfl rfl 90 _ HG.out (by kernel_rfl) (by kernel_rfl) (by kernel_rfl) ?_)
  exact bodyPost_ret (results_cell_row rfl _ _ (w.heap.size + 1 + 1) 90 _ (0, 0) _ rfl (setRow_heap _ _ _ _ _ _ HG.out) Tryz.underlying90 rfl (by kernel_rfl)) rfl ⟨rfl, below_setRow HB.out (by omega) _⟩
theorem bin_16_zero (a : Int) (w : World) :
    Calls Tryz.prog 54 #[.int .i64 16, .agg #[.int .i64 2, .int .i64 a], .agg #[.int .i64 2, .int .i64 0]] w fun e w' => e = .returned (.agg #[.int .i64 0, .int .i64 0, .int .i64 2, .bool false]) ∧ Below w.heap.size w w' := by
  go_enter Tryz.func54, Tryz.ntmps54
  go_wp2_with fail
  refine (trap_calls _ _).mono ?_
  rintro e w1 ⟨rfl, hb⟩
  have HG := Aside0.mk ((hb.block _ (by simp)).trans (heap3_last w _ _ _))
  have HB := Aside0.mk ((below3 w _ _ _).trans (hb.mono (by simp; omega)))
  clear hb
  go_wp2_with (with_reducible refine wpList_store_row rfl 90 _ _ rfl (w.heap.size + 1 + 1) #[.int .i64 0, .int .i64 0, .int .i64 2, .bool false] rfl rfl 90 _ HG.out (by kernel_rfl) (by kernel_rfl) (by kernel_rfl) ?_)
  exact bodyPost_ret (results_cell_row rfl _ _ (w.heap.size + 1 + 1) 90 _ (0, 0) _ rfl (setRow_heap _ _ _ _ _ _ HG.out) Tryz.underlying90 rfl (by kernel_rfl)) rfl ⟨rfl, below_setRow HB.out (by omega) _⟩
theorem app_add (a b : Int) : App2 12 a b 2 (wrap64 (a + b)) 0 true := by
  intro W g p hg
  refine apply_val 12 0 p g 2 1 2 _ W (Array.getElem?_eq_some_iff.1 hg).1 (fun w => ?_) (fun w => applies_calls 12 (by omega) w) (fun W1 hW1 => do_bin 12 (by omega) p 0 g a b 2 _ 0 false W1 (hW1.trans hg) (fun W2 => bin_plain 12 140 0 (by kernel_rfl) a b _ (fun _ _ => by kernel_rfl) (fun w => i_add a b w) (by decide) (by decide) (by decide) (by decide) W2))
  exact effect_0_yes 12 0 (by decide) (by decide) [97, 100, 100] 2 1 (by decide) (by decide) (by decide +kernel) w
theorem app_sub (a b : Int) : App2 13 a b 2 (wrap64 (a - b)) 0 true := by
  intro W g p hg
  refine apply_val 13 0 p g 2 1 2 _ W (Array.getElem?_eq_some_iff.1 hg).1 (fun w => ?_) (fun w => applies_calls 13 (by omega) w) (fun W1 hW1 => do_bin 13 (by omega) p 0 g a b 2 _ 0 false W1 (hW1.trans hg) (fun W2 => bin_plain 13 141 1 (by kernel_rfl) a b _ (fun _ _ => by kernel_rfl) (fun w => i_sub a b w) (by decide) (by decide) (by decide) (by decide) W2))
  exact effect_0_yes 13 0 (by decide) (by decide) [115, 117, 98] 2 1 (by decide) (by decide) (by decide +kernel) w
theorem app_mul (a b : Int) : App2 14 a b 2 (wrap64 (a * b)) 0 true := by
  intro W g p hg
  refine apply_val 14 0 p g 2 1 2 _ W (Array.getElem?_eq_some_iff.1 hg).1 (fun w => ?_) (fun w => applies_calls 14 (by omega) w) (fun W1 hW1 => do_bin 14 (by omega) p 0 g a b 2 _ 0 false W1 (hW1.trans hg) (fun W2 => bin_plain 14 142 2 (by kernel_rfl) a b _ (fun _ _ => by kernel_rfl) (fun w => i_mul a b w) (by decide) (by decide) (by decide) (by decide) W2))
  exact effect_0_yes 14 0 (by decide) (by decide) [109, 117, 108] 2 1 (by decide) (by decide) (by decide +kernel) w
theorem app_div (a b : Int) (hb : b ≠ 0) : App2 15 a b 2 (wrap64 (a.tdiv b)) 0 true := by
  intro W g p hg
  refine apply_val 15 0 p g 2 1 2 _ W (Array.getElem?_eq_some_iff.1 hg).1 (fun w => ?_) (fun w => applies_calls 15 (by omega) w) (fun W1 hW1 => do_bin 15 (by omega) p 0 g a b 2 _ 0 false W1 (hW1.trans hg) (fun W2 => bin_15 143 3 (by kernel_rfl) a b _ (fun _ _ => by kernel_rfl) (fun w => i_div a b hb w) (by simp [hb]) W2))
  exact effect_0_yes 15 0 (by decide) (by decide) [100, 105, 118] 2 1 (by decide) (by decide) (by decide +kernel) w
theorem app_rem (a b : Int) (hb : b ≠ 0) : App2 16 a b 2 (a.tmod b) 0 true := by
  intro W g p hg
  refine apply_val 16 0 p g 2 1 2 _ W (Array.getElem?_eq_some_iff.1 hg).1 (fun w => ?_) (fun w => applies_calls 16 (by omega) w) (fun W1 hW1 => do_bin 16 (by omega) p 0 g a b 2 _ 0 false W1 (hW1.trans hg) (fun W2 => bin_16 144 4 (by kernel_rfl) a b _ (fun _ _ => by kernel_rfl) (fun w => i_rem a b hb w) (by simp [hb]) W2))
  exact effect_0_yes 16 0 (by decide) (by decide) [114, 101, 109] 2 1 (by decide) (by decide) (by decide +kernel) w
theorem app_and (a b : Int) : App2 18 a b 2 (bits BinOp.and .i64 a b) 0 true := by
  intro W g p hg
  refine apply_val 18 0 p g 2 1 2 _ W (Array.getElem?_eq_some_iff.1 hg).1 (fun w => ?_) (fun w => applies_calls 18 (by omega) w) (fun W1 hW1 => do_bin 18 (by omega) p 0 g a b 2 _ 0 false W1 (hW1.trans hg) (fun W2 => bin_plain 18 145 5 (by kernel_rfl) a b _ (fun _ _ => by kernel_rfl) (fun w => i_and a b w) (by decide) (by decide) (by decide) (by decide) W2))
  exact effect_0_yes 18 0 (by decide) (by decide) [97, 110, 100] 2 1 (by decide) (by decide) (by decide +kernel) w
theorem app_or (a b : Int) : App2 19 a b 2 (bits BinOp.or .i64 a b) 0 true := by
  intro W g p hg
  refine apply_val 19 0 p g 2 1 2 _ W (Array.getElem?_eq_some_iff.1 hg).1 (fun w => ?_) (fun w => applies_calls 19 (by omega) w) (fun W1 hW1 => do_bin 19 (by omega) p 0 g a b 2 _ 0 false W1 (hW1.trans hg) (fun W2 => bin_plain 19 146 6 (by kernel_rfl) a b _ (fun _ _ => by kernel_rfl) (fun w => i_or a b w) (by decide) (by decide) (by decide) (by decide) W2))
  exact effect_0_yes 19 0 (by decide) (by decide) [111, 114] 2 1 (by decide) (by decide) (by decide +kernel) w
theorem app_xor (a b : Int) : App2 20 a b 2 (bits BinOp.xor .i64 a b) 0 true := by
  intro W g p hg
  refine apply_val 20 0 p g 2 1 2 _ W (Array.getElem?_eq_some_iff.1 hg).1 (fun w => ?_) (fun w => applies_calls 20 (by omega) w) (fun W1 hW1 => do_bin 20 (by omega) p 0 g a b 2 _ 0 false W1 (hW1.trans hg) (fun W2 => bin_plain 20 147 7 (by kernel_rfl) a b _ (fun _ _ => by kernel_rfl) (fun w => i_xor a b w) (by decide) (by decide) (by decide) (by decide) W2))
  exact effect_0_yes 20 0 (by decide) (by decide) [120, 111, 114] 2 1 (by decide) (by decide) (by decide +kernel) w
theorem app_bic (a b : Int) : App2 66 a b 2 (bits BinOp.andNot .i64 a b) 0 true := by
  intro W g p hg
  refine apply_val 66 0 p g 2 1 2 _ W (Array.getElem?_eq_some_iff.1 hg).1 (fun w => ?_) (fun w => applies_calls 66 (by omega) w) (fun W1 hW1 => do_bin 66 (by omega) p 0 g a b 2 _ 0 false W1 (hW1.trans hg) (fun W2 => bin_plain 66 148 8 (by kernel_rfl) a b _ (fun _ _ => by kernel_rfl) (fun w => i_bic a b w) (by decide) (by decide) (by decide) (by decide) W2))
  exact effect_0_yes 66 0 (by decide) (by decide) [98, 105, 99] 2 1 (by decide) (by decide) (by decide +kernel) w
theorem app_shl (a b : Int) (hb : 0 ≤ b) : App2 22 a b 2 (wrap64 (a * 2 ^ min (IntKind.u64.wrap b).toNat 64)) 0 true := by
  intro W g p hg
  refine apply_val 22 0 p g 2 1 2 _ W (Array.getElem?_eq_some_iff.1 hg).1 (fun w => ?_) (fun w => applies_calls 22 (by omega) w) (fun W1 hW1 => do_bin 22 (by omega) p 0 g a b 2 _ 0 false W1 (hW1.trans hg) (fun W2 => bin_22 149 9 (by kernel_rfl) a b _ (fun _ _ => by kernel_rfl) (fun w => i_shl a b w) (by simp; omega) W2))
  exact effect_0_yes 22 0 (by decide) (by decide) [115, 104, 108] 2 1 (by decide) (by decide) (by decide +kernel) w
theorem app_shr (a b : Int) (hb : 0 ≤ b) : App2 23 a b 2 (a / 2 ^ min (IntKind.u64.wrap b).toNat 64) 0 true := by
  intro W g p hg
  refine apply_val 23 0 p g 2 1 2 _ W (Array.getElem?_eq_some_iff.1 hg).1 (fun w => ?_) (fun w => applies_calls 23 (by omega) w) (fun W1 hW1 => do_bin 23 (by omega) p 0 g a b 2 _ 0 false W1 (hW1.trans hg) (fun W2 => bin_23 150 10 (by kernel_rfl) a b _ (fun _ _ => by kernel_rfl) (fun w => i_shr a b w) (by simp; omega) W2))
  exact effect_0_yes 23 0 (by decide) (by decide) [115, 104, 114] 2 1 (by decide) (by decide) (by decide +kernel) w
theorem app_div0 (a : Int) : App2 15 a 0 0 0 2 true := by
  intro W g p hg
  refine apply_trap 15 0 p g 2 1 2 (by decide) W (Array.getElem?_eq_some_iff.1 hg).1 (fun w => ?_) (fun w => applies_calls 15 (by omega) w) (fun W1 hW1 => do_bin 15 (by omega) p 0 g a 0 0 0 2 false W1 (hW1.trans hg) (fun W2 => bin_15_zero a W2))
  exact effect_0_yes 15 0 (by decide) (by decide) [100, 105, 118] 2 1 (by decide) (by decide) (by decide +kernel) w
theorem app_rem0 (a : Int) : App2 16 a 0 0 0 2 true := by
  intro W g p hg
  refine apply_trap 16 0 p g 2 1 2 (by decide) W (Array.getElem?_eq_some_iff.1 hg).1 (fun w => ?_) (fun w => applies_calls 16 (by omega) w) (fun W1 hW1 => do_bin 16 (by omega) p 0 g a 0 0 0 2 false W1 (hW1.trans hg) (fun W2 => bin_16_zero a W2))
  exact effect_0_yes 16 0 (by decide) (by decide) [114, 101, 109] 2 1 (by decide) (by decide) (by decide +kernel) w
theorem app_neg (a : Int) : App1 17 0 a 2 (wrap64 (-a)) 0 true := by
  intro W g p hg
  refine apply_val 17 0 p g 1 1 2 _ W (Array.getElem?_eq_some_iff.1 hg).1 (fun w => ?_) (fun w => applies_calls 17 (by omega) w) (fun W1 hW1 => do_neg p 0 g a 2 _ 0 false W1 (hW1.trans hg) (fun W2 => un_neg a W2))
  exact effect_0_yes 17 0 (by decide) (by decide) [110, 101, 103] 1 1 (by decide) (by decide) (by decide +kernel) w
theorem app_not (a : Int) : App1 21 0 a 2 (bits BinOp.xor .i64 (-1) a) 0 true := by
  intro W g p hg
  refine apply_val 21 0 p g 1 1 2 _ W (Array.getElem?_eq_some_iff.1 hg).1 (fun w => ?_) (fun w => applies_calls 21 (by omega) w) (fun W1 hW1 => do_not p 0 g a 2 _ 0 false W1 (hW1.trans hg) (fun W2 => un_not a W2))
  exact effect_0_yes 21 0 (by decide) (by decide) [110, 111, 116] 1 1 (by decide) (by decide) (by decide +kernel) w
theorem app_ext8 (a : Int) : App1 24 8 a 2 (wrap64 (IntKind.i8.wrap a)) 0 true := by
  intro W g p hg
  refine apply_val 24 8 p g 1 1 2 _ W (Array.getElem?_eq_some_iff.1 hg).1 (fun w => ?_) (fun w => applies_calls 24 (by omega) w) (fun W1 hW1 => do_ext p 8 g a 2 _ 0 false W1 (hW1.trans hg) (fun W2 => ext_8 a W2))
  exact effect_7_yes 24 8 (by decide) (by decide) [101, 120, 116] 1 1 (by decide) (by decide) (by decide +kernel) w
theorem app_ext16 (a : Int) : App1 24 16 a 2 (wrap64 (IntKind.i16.wrap a)) 0 true := by
  intro W g p hg
  refine apply_val 24 16 p g 1 1 2 _ W (Array.getElem?_eq_some_iff.1 hg).1 (fun w => ?_) (fun w => applies_calls 24 (by omega) w) (fun W1 hW1 => do_ext p 16 g a 2 _ 0 false W1 (hW1.trans hg) (fun W2 => ext_16 a W2))
  exact effect_7_yes 24 16 (by decide) (by decide) [101, 120, 116] 1 1 (by decide) (by decide) (by decide +kernel) w
theorem app_ext32 (a : Int) : App1 24 32 a 2 (wrap64 (wrap32 a)) 0 true := by
  intro W g p hg
  refine apply_val 24 32 p g 1 1 2 _ W (Array.getElem?_eq_some_iff.1 hg).1 (fun w => ?_) (fun w => applies_calls 24 (by omega) w) (fun W1 hW1 => do_ext p 32 g a 2 _ 0 false W1 (hW1.trans hg) (fun W2 => ext_32 a W2))
  exact effect_7_yes 24 32 (by decide) (by decide) [101, 120, 116] 1 1 (by decide) (by decide) (by decide +kernel) w
end Go.Proofs.YtkeneiahhmbojaaGreatDoor
