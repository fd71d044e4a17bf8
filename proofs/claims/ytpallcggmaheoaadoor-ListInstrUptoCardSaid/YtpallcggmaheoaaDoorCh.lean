/-
  What the code answers on one operation, by the table.
-/
import Derived.Test.YtpallcggmaheoaaDoorEff
import Derived.Test.YtpallcggmaheoaaDoorEfg
import Derived.Test.YtpallcggmaheoaaDoorInr
namespace Go.Proofs.YtpallcggmaheoaaDoor
open Go.RowKit Go.Proofs.YtpallcggmaheoaaDoorW.PrintWords Go.Proofs.YtpallcggmaheoaaDoorW.PrintMore
set_option linter.unusedVariables false

theorem row_facts (n : Nat) (h : n < 67) : (opRow n).2.2.1 < 128 ∧ (opRow n).2.2.2.1 < 128 ∧ (opRow n).2.2.2.2 = decide ((opRow n).2.1 = 6) := by
  have : (List.range 67).all (fun n => decide ((opRow n).2.2.1 < 128 ∧ (opRow n).2.2.2.1 < 128 ∧ (opRow n).2.2.2.2 = decide ((opRow n).2.1 = 6))) = true := by decide +kernel
  exact of_decide_eq_true (List.all_eq_true.1 this n (List.mem_range.2 h))
theorem effect_ok (n : Nat) (A : Int) (hn : n < 67) (w : World) : Calls Tryd.prog 27 #[.agg #[.int .i64 (n : Int), .int .i64 A]] w fun e w' => ∃ t p : Int, e = .returned (.tuple #[.int .i64 t, .int .i64 p, .bool (okA (opRow n).2.1 A)]) ∧ Below w.heap.size w w' := by
  obtain ⟨f1, f2, f3⟩ := row_facts n hn
  have f4 := kd_le n hn
  obtain ⟨⟨nm, kd, tk, pt, mn⟩, hr⟩ : ∃ r, opRow n = r := ⟨_, rfl⟩
  rw [hr] at f1 f2 f3 f4 ⊢
  have f3' : mn = decide (kd = 6) := f3
  have f4' : kd ≤ 8 := f4
  have f1' : tk < 128 := f1
  have f2' : pt < 128 := f2
  clear f1 f2 f3 f4
  subst f3'
  show Calls Tryd.prog 27 #[.agg #[.int .i64 (n : Int), .int .i64 A]] w fun e w' => ∃ t p : Int, e = .returned (.tuple #[.int .i64 t, .int .i64 p, .bool (okA kd A)]) ∧ Below w.heap.size w w'
  have hk : kd = 0 ∨ kd = 1 ∨ kd = 2 ∨ kd = 3 ∨ kd = 4 ∨ kd = 5 ∨ kd = 6 ∨ kd = 7 ∨ kd = 8 := by omega
  rcases hk with hk | hk | hk | hk | hk | hk | hk | hk | hk
  · subst hk
    by_cases hA : 0 ≤ A ∧ A < 1
    · have e : okA 0 A = true := by unfold okA; simp; try omega
      rw [e]
      exact (effect_0_yes n A hn hA nm tk pt (by omega) (by omega) hr w).mono fun e w' ⟨h1, h2⟩ => ⟨_, _, h1, h2⟩
    · have e : okA 0 A = false := by unfold okA; simp; try omega
      rw [e]
      exact (effect_0_no n A hn hA nm tk pt (by omega) (by omega) hr w).mono fun e w' ⟨h1, h2⟩ => ⟨_, _, h1, h2⟩
  · subst hk
    exact (effect_1_yes n A hn trivial nm tk pt (by omega) (by omega) hr w).mono fun e w' ⟨h1, h2⟩ => ⟨_, _, h1, h2⟩
  · subst hk
    by_cases hA : 0 ≤ A ∧ A < 2000
    · have e : okA 2 A = true := by unfold okA; simp; try omega
      rw [e]
      exact (effect_2_yes n A hn hA nm tk pt (by omega) (by omega) hr w).mono fun e w' ⟨h1, h2⟩ => ⟨_, _, h1, h2⟩
    · have e : okA 2 A = false := by unfold okA; simp; try omega
      rw [e]
      exact (effect_2_no n A hn hA nm tk pt (by omega) (by omega) hr w).mono fun e w' ⟨h1, h2⟩ => ⟨_, _, h1, h2⟩
  · subst hk
    by_cases hA : 0 ≤ A ∧ A < 64
    · have e : okA 3 A = true := by unfold okA; simp; try omega
      rw [e]
      exact (effect_3_yes n A hn hA nm tk pt (by omega) (by omega) hr w).mono fun e w' ⟨h1, h2⟩ => ⟨_, _, h1, h2⟩
    · have e : okA 3 A = false := by unfold okA; simp; try omega
      rw [e]
      exact (effect_3_no n A hn hA nm tk pt (by omega) (by omega) hr w).mono fun e w' ⟨h1, h2⟩ => ⟨_, _, h1, h2⟩
  · subst hk
    by_cases hA : 0 ≤ A ∧ A < 512
    · have e : okA 4 A = true := by unfold okA; simp; try omega
      rw [e]
      exact (effect_4_yes n A hn hA nm tk pt (by omega) (by omega) hr w).mono fun e w' ⟨h1, h2⟩ => ⟨_, _, h1, h2⟩
    · have e : okA 4 A = false := by unfold okA; simp; try omega
      rw [e]
      exact (effect_4_no n A hn hA nm tk pt (by omega) (by omega) hr w).mono fun e w' ⟨h1, h2⟩ => ⟨_, _, h1, h2⟩
  · subst hk
    by_cases hA : 0 ≤ A ∧ A < 128
    · have e : okA 5 A = true := by unfold okA; simp; try omega
      rw [e]
      exact (effect_5_yes n A hn hA nm tk pt (by omega) (by omega) hr w).mono fun e w' ⟨h1, h2⟩ => ⟨_, _, h1, h2⟩
    · have e : okA 5 A = false := by unfold okA; simp; try omega
      rw [e]
      exact (effect_5_no n A hn hA nm tk pt (by omega) (by omega) hr w).mono fun e w' ⟨h1, h2⟩ => ⟨_, _, h1, h2⟩
  · subst hk
    by_cases hA : 0 ≤ A ∧ A < 64
    · have e : okA 6 A = true := by unfold okA; simp; try omega
      rw [e]
      exact (effect_6_yes n A hn hA nm tk pt (by omega) (by omega) hr w).mono fun e w' ⟨h1, h2⟩ => ⟨_, _, h1, h2⟩
    · have e : okA 6 A = false := by unfold okA; simp; try omega
      rw [e]
      exact (effect_6_no n A hn hA nm tk pt (by omega) (by omega) hr w).mono fun e w' ⟨h1, h2⟩ => ⟨_, _, h1, h2⟩
  · subst hk
    by_cases hA : A = 8 ∨ A = 16 ∨ A = 32
    · have e : okA 7 A = true := by unfold okA; simp; try omega
      rw [e]
      exact (effect_7_yes n A hn hA nm tk pt (by omega) (by omega) hr w).mono fun e w' ⟨h1, h2⟩ => ⟨_, _, h1, h2⟩
    · have e : okA 7 A = false := by unfold okA; simp; try omega
      rw [e]
      exact (effect_7_no n A hn hA nm tk pt (by omega) (by omega) hr w).mono fun e w' ⟨h1, h2⟩ => ⟨_, _, h1, h2⟩
  · subst hk
    by_cases hA : 1 ≤ A ∧ A ≤ 64
    · have e : okA 8 A = true := by unfold okA; simp; try omega
      rw [e]
      exact (effect_8_yes n A hn hA nm tk pt (by omega) (by omega) hr w).mono fun e w' ⟨h1, h2⟩ => ⟨_, _, h1, h2⟩
    · have e : okA 8 A = false := by unfold okA; simp; try omega
      rw [e]
      exact (effect_8_no n A hn hA nm tk pt (by omega) (by omega) hr w).mono fun e w' ⟨h1, h2⟩ => ⟨_, _, h1, h2⟩
theorem effect_none (n A : Int) (h : n < 0 ∨ 67 ≤ n) (w : World) : Calls Tryd.prog 27 #[.agg #[.int .i64 n, .int .i64 A]] w fun e w' => e = .returned (.tuple #[.int .i64 0, .int .i64 0, .bool false]) ∧ Below w.heap.size w w' := by
  have HN := Aside0.mk h
  clear h
  go_enter Tryd.func27, Tryd.ntmps27
  go_wp2_with fail
  refine (rowOf_none n HN.out _).mono ?_
  rintro e w1 ⟨rfl, hb⟩
  obtain ⟨hc1, hf1⟩ := bcell hb
  have hz : w.heap.size < w1.heap.size := by have := hb.size; simp at this; omega
  have HE := Aside0.mk (below_after hb)
  clear hb
  go_wp2_with fail
  go_region
  all_goals
    go_wp2_with fail
    go_ret3
    exact ⟨rfl, by first | exact HE.out | exact below_drew (HE.out.trans ((below_alloc1 _ _).mono HE.out.size)) | exact HE.out.trans ((below_alloc1 _ _).mono HE.out.size)⟩
theorem check_code (n : Nat) (A : Int) (hn : n < 67) (w : World) : Calls Tryd.prog 15 #[.agg #[.int .i64 (n : Int), .int .i64 A]] w fun e w' => e = .returned (.int .i64 (if okA (opRow n).2.1 A = true then 0 else 7)) ∧ Below w.heap.size w w' := by
  obtain ⟨b, hbk⟩ : ∃ b, b = okA (opRow n).2.1 A := ⟨_, rfl⟩
  have HE := Aside0.mk (fun X => (by have h := effect_ok n A hn X; rw [← hbk] at h; exact h : Calls Tryd.prog 27 #[.agg #[.int .i64 (n : Int), .int .i64 A]] X fun e w' => ∃ t p : Int, e = .returned (.tuple #[.int .i64 t, .int .i64 p, .bool b]) ∧ Below X.heap.size X w'))
  rw [← hbk]
  clear hbk
  cases b
  all_goals
    go_enter Tryd.func15, Tryd.ntmps15
    go_wp2_with fail
    refine (HE.out _).mono ?_
    rintro e w1 ⟨t, p, rfl, hb⟩
    have HB := Aside0.mk (below_after hb)
    clear hb
    go_wp2_with fail
    go_ret
    exact ⟨rfl, HB.out⟩
theorem check_code_none (n A : Int) (h : n < 0 ∨ 67 ≤ n) (w : World) : Calls Tryd.prog 15 #[.agg #[.int .i64 n, .int .i64 A]] w fun e w' => e = .returned (.int .i64 7) ∧ Below w.heap.size w w' := by
  have HE := Aside0.mk (fun X => effect_none n A h X)
  clear h
  go_enter Tryd.func15, Tryd.ntmps15
  go_wp2_with fail
  refine (HE.out _).mono ?_
  rintro e w1 ⟨rfl, hb⟩
  have HB := Aside0.mk (below_after hb)
  clear hb
  go_wp2_with fail
  go_ret
  exact ⟨rfl, HB.out⟩
theorem name_code (n : Nat) (hn : n < 67) (w : World) : Calls Tryd.prog 16 #[.int .i64 (n : Int)] w fun e w' => e = .returned (.tuple #[.string ⟨(opRow n).1.toArray⟩, .bool true]) ∧ Below w.heap.size w w' := by
  have HE := Aside0.mk (fun X => rowOf_calls n hn (opRow n) rfl X)
  generalize opRow n = r at *
  obtain ⟨nm, kd, tk, pt, mn⟩ := r
  go_enter Tryd.func16, Tryd.ntmps16
  go_wp2_with fail
  refine (HE.out _).mono ?_
  rintro e w1 ⟨rfl, hb⟩
  obtain ⟨hc1, hf1⟩ := bcell hb
  go_wp2_with fail
  go_ret2
  exact ⟨rfl, hb.trans ((below_alloc1 _ _).mono hb.size)⟩
theorem operand_code (n : Nat) (hn : n < 67) (w : World) : Calls Tryd.prog 17 #[.int .i64 (n : Int)] w fun e w' => e = .returned (.tuple #[.int .i64 ((opRow n).2.1 : Int), .bool true]) ∧ Below w.heap.size w w' := by
  have HE := Aside0.mk (fun X => rowOf_calls n hn (opRow n) rfl X)
  have hk := kd_le n hn
  generalize opRow n = r at *
  obtain ⟨nm, kd, tk, pt, mn⟩ := r
  go_enter Tryd.func17, Tryd.ntmps17
  go_wp2_with fail
  refine (HE.out _).mono ?_
  rintro e w1 ⟨rfl, hb⟩
  obtain ⟨hc1, hf1⟩ := bcell hb
  go_wp2_with fail
  go_ret2
  exact ⟨rfl, hb.trans ((below_alloc1 _ _).mono hb.size)⟩
theorem num_code (n : Int) (h0 : -9223372036854775808 ≤ n) (h1 : n ≤ 9223372036854775807) (w : World) (htab : Lib.TabIs Tryd.prog w "internal/strconv.uint64pow10" .u64 Lib.pow10Tab) :
    Calls Tryd.prog 29 #[.int .i64 n] w fun e w' => e = .returned (.string (ofL (Lib.itoa n))) ∧ Below w.heap.size w w' := by
  have HC := Aside0.mk (int_calls n h0 h1 w htab)
  clear h0 h1 htab
  go_enter Tryd.func29, Tryd.ntmps29
  go_wp2_with fail
  refine HC.out.mono ?_
  rintro e w1 ⟨rfl, hb⟩
  have HB := Aside0.mk hb
  clear hb
  go_wp2_with fail
  go_ret
  exact ⟨rfl, HB.out⟩
theorem label_code (n : Int) (h0 : -9223372036854775808 ≤ n) (h1 : n ≤ 9223372036854775807) (w : World) (htab : Lib.TabIs Tryd.prog w "internal/strconv.uint64pow10" .u64 Lib.pow10Tab) :
    Calls Tryd.prog 18 #[.int .i64 n] w fun e w' => e = .returned (.string (ofL (76 :: Lib.itoa n))) ∧ Below w.heap.size w w' := by
  have HC := Aside0.mk (num_code n h0 h1 w htab)
  have q : (9223372036854775807 < 1 + (ofL (Lib.itoa n)).size) = False := eq_false (by rw [ofL_size]; have := itoa_len n h0 h1; omega)
  have he : (⟨#[76]⟩ : ByteArray) ++ ofL (Lib.itoa n) = ofL (76 :: Lib.itoa n) := ofL_append [76] (Lib.itoa n)
  rw [← he]
  clear h0 h1 htab he
  go_enter Tryd.func18, Tryd.ntmps18
  go_wp2_with fail
  refine HC.out.mono ?_
  rintro e w1 ⟨rfl, hb⟩
  have HB := Aside0.mk hb
  clear hb
  go_wp2_with fail
  go_ret
  exact ⟨rfl, HB.out⟩
theorem gPow : Tryd.prog.globalNamed "internal/strconv.uint64pow10" = some 0 := by kernel_rfl
end Go.Proofs.YtpallcggmaheoaaDoor
