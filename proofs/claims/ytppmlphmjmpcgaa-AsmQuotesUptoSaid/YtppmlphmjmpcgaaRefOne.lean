/-
  The reference's worth, digit and one: what they answer.
-/
import Derived.Test.YtppmlphmjmpcgaaQuoted
namespace Go.Proofs.Ytppmlphmjmpcgaa
set_option linter.unusedVariables false
open Go.RowKit
open Go.Proofs.YtppmlphmjmpcgaaW.PrintWords Go.Proofs.YtppmlphmjmpcgaaW.PrintMore

theorem quiet_same {P : Program} {f : FuncId} {args : Array Value} {w : World} {m n : Nat} {v : Value}
    (h : Calls P f args (w.drewN (m + n)) fun e w' => e = .returned v ∧ w' = w.drewN (m + n)) : Calls P f args (w.drewN (m + n)) fun e w'' => e = .returned v ∧ ∃ q, w'' = w.drewN (m + q) :=
  h.mono fun _ _ ⟨he, hm⟩ => ⟨he, n, hm⟩

/-- the reference's worth of a byte: 16 where it is no digit -/
def wt (c : Int) : Int := if Ytppmlphmjmpcgaa.hb c = true then hv c else 16
theorem wt_yes {c : Int} (h : Ytppmlphmjmpcgaa.hb c = true) : wt c = hv c := by unfold wt; rw [if_pos h]
theorem wt_no {c : Int} (h : Ytppmlphmjmpcgaa.hb c = false) : wt c = 16 := by unfold wt; rw [if_neg (by rw [h]; decide)]
theorem ret_i64 {a a' : Int} (h : a = a') : Ending.returned (.int .i64 a) = .returned (.int .i64 a') := by rw [h]
theorem ret_u8 {a a' : Int} (h : a = a') : Ending.returned (.int .u8 a) = .returned (.int .u8 a') := by rw [h]
theorem ret_one {a a' b b' : Int} (h : a = a') (g : b = b') : Ending.returned (.tuple #[.int .u8 a, .int .i64 b]) = .returned (.tuple #[.int .u8 a', .int .i64 b']) := by rw [h, g]

theorem worth_calls (c : Int) (w : World) (h0 : 0 ≤ c) (h1 : c ≤ 255) :
    Calls Try.prog 17 #[.int .u8 c] w fun e w' => e = .returned (.int .i64 (wt c)) ∧ w' = w := by
  have hcase : (48 ≤ c ∧ c ≤ 57) ∨ (97 ≤ c ∧ c ≤ 102) ∨ (65 ≤ c ∧ c ≤ 70) ∨ c < 48 ∨ (57 < c ∧ c < 65) ∨ (70 < c ∧ c < 97) ∨ 102 < c := by omega
  rcases hcase with h | h | h | h | h | h | h
  · have e1 : (c - 48) % 256 = wt c := by
      rw [wt_yes (by unfold Ytppmlphmjmpcgaa.hb; exact decide_eq_true (by omega))]
      unfold hv; (repeat (first | rw [if_pos (by omega)] | rw [if_neg (by omega)])) <;> omega
    have d0 : decide (48 ≤ c) = true := by first | exact decide_eq_true (by omega) | exact decide_eq_false (by omega)
    have d1 : decide (c ≤ 57) = true := by first | exact decide_eq_true (by omega) | exact decide_eq_false (by omega)
    have d2 : decide (97 ≤ c) = false := by first | exact decide_eq_true (by omega) | exact decide_eq_false (by omega)
    have d3 : decide (c ≤ 102) = true := by first | exact decide_eq_true (by omega) | exact decide_eq_false (by omega)
    have d4 : decide (65 ≤ c) = false := by first | exact decide_eq_true (by omega) | exact decide_eq_false (by omega)
    have d5 : decide (c ≤ 70) = true := by first | exact decide_eq_true (by omega) | exact decide_eq_false (by omega)
    have E := Aside0.mk e1
    clear h e1
    go_enter Try.func17, Try.ntmps17
    go_wp2
    go_ret
    exact ⟨ret_i64 E.out, rfl⟩
  · have e1 : (c - 97) % 256 + 10 = wt c := by
      rw [wt_yes (by unfold Ytppmlphmjmpcgaa.hb; exact decide_eq_true (by omega))]
      unfold hv; (repeat (first | rw [if_pos (by omega)] | rw [if_neg (by omega)])) <;> omega
    have d0 : decide (48 ≤ c) = true := by first | exact decide_eq_true (by omega) | exact decide_eq_false (by omega)
    have d1 : decide (c ≤ 57) = false := by first | exact decide_eq_true (by omega) | exact decide_eq_false (by omega)
    have d2 : decide (97 ≤ c) = true := by first | exact decide_eq_true (by omega) | exact decide_eq_false (by omega)
    have d3 : decide (c ≤ 102) = true := by first | exact decide_eq_true (by omega) | exact decide_eq_false (by omega)
    have d4 : decide (65 ≤ c) = true := by first | exact decide_eq_true (by omega) | exact decide_eq_false (by omega)
    have d5 : decide (c ≤ 70) = false := by first | exact decide_eq_true (by omega) | exact decide_eq_false (by omega)
    have E := Aside0.mk e1
    clear h e1
    go_enter Try.func17, Try.ntmps17
    go_wp2
    go_ret
    exact ⟨ret_i64 E.out, rfl⟩
  · have e1 : (c - 65) % 256 + 10 = wt c := by
      rw [wt_yes (by unfold Ytppmlphmjmpcgaa.hb; exact decide_eq_true (by omega))]
      unfold hv; (repeat (first | rw [if_pos (by omega)] | rw [if_neg (by omega)])) <;> omega
    have d0 : decide (48 ≤ c) = true := by first | exact decide_eq_true (by omega) | exact decide_eq_false (by omega)
    have d1 : decide (c ≤ 57) = false := by first | exact decide_eq_true (by omega) | exact decide_eq_false (by omega)
    have d2 : decide (97 ≤ c) = false := by first | exact decide_eq_true (by omega) | exact decide_eq_false (by omega)
    have d3 : decide (c ≤ 102) = true := by first | exact decide_eq_true (by omega) | exact decide_eq_false (by omega)
    have d4 : decide (65 ≤ c) = true := by first | exact decide_eq_true (by omega) | exact decide_eq_false (by omega)
    have d5 : decide (c ≤ 70) = true := by first | exact decide_eq_true (by omega) | exact decide_eq_false (by omega)
    have E := Aside0.mk e1
    clear h e1
    go_enter Try.func17, Try.ntmps17
    go_wp2
    go_ret
    exact ⟨ret_i64 E.out, rfl⟩
  · have e1 : (16 : Int) = wt c := by
      rw [wt_no (by unfold Ytppmlphmjmpcgaa.hb; exact decide_eq_false (by omega))]
    have d0 : decide (48 ≤ c) = false := by first | exact decide_eq_true (by omega) | exact decide_eq_false (by omega)
    have d1 : decide (c ≤ 57) = true := by first | exact decide_eq_true (by omega) | exact decide_eq_false (by omega)
    have d2 : decide (97 ≤ c) = false := by first | exact decide_eq_true (by omega) | exact decide_eq_false (by omega)
    have d3 : decide (c ≤ 102) = true := by first | exact decide_eq_true (by omega) | exact decide_eq_false (by omega)
    have d4 : decide (65 ≤ c) = false := by first | exact decide_eq_true (by omega) | exact decide_eq_false (by omega)
    have d5 : decide (c ≤ 70) = true := by first | exact decide_eq_true (by omega) | exact decide_eq_false (by omega)
    have E := Aside0.mk e1
    clear h e1
    go_enter Try.func17, Try.ntmps17
    go_wp2
    go_ret
    exact ⟨ret_i64 E.out, rfl⟩
  · have e1 : (16 : Int) = wt c := by
      rw [wt_no (by unfold Ytppmlphmjmpcgaa.hb; exact decide_eq_false (by omega))]
    have d0 : decide (48 ≤ c) = true := by first | exact decide_eq_true (by omega) | exact decide_eq_false (by omega)
    have d1 : decide (c ≤ 57) = false := by first | exact decide_eq_true (by omega) | exact decide_eq_false (by omega)
    have d2 : decide (97 ≤ c) = false := by first | exact decide_eq_true (by omega) | exact decide_eq_false (by omega)
    have d3 : decide (c ≤ 102) = true := by first | exact decide_eq_true (by omega) | exact decide_eq_false (by omega)
    have d4 : decide (65 ≤ c) = false := by first | exact decide_eq_true (by omega) | exact decide_eq_false (by omega)
    have d5 : decide (c ≤ 70) = true := by first | exact decide_eq_true (by omega) | exact decide_eq_false (by omega)
    have E := Aside0.mk e1
    clear h e1
    go_enter Try.func17, Try.ntmps17
    go_wp2
    go_ret
    exact ⟨ret_i64 E.out, rfl⟩
  · have e1 : (16 : Int) = wt c := by
      rw [wt_no (by unfold Ytppmlphmjmpcgaa.hb; exact decide_eq_false (by omega))]
    have d0 : decide (48 ≤ c) = true := by first | exact decide_eq_true (by omega) | exact decide_eq_false (by omega)
    have d1 : decide (c ≤ 57) = false := by first | exact decide_eq_true (by omega) | exact decide_eq_false (by omega)
    have d2 : decide (97 ≤ c) = false := by first | exact decide_eq_true (by omega) | exact decide_eq_false (by omega)
    have d3 : decide (c ≤ 102) = true := by first | exact decide_eq_true (by omega) | exact decide_eq_false (by omega)
    have d4 : decide (65 ≤ c) = true := by first | exact decide_eq_true (by omega) | exact decide_eq_false (by omega)
    have d5 : decide (c ≤ 70) = false := by first | exact decide_eq_true (by omega) | exact decide_eq_false (by omega)
    have E := Aside0.mk e1
    clear h e1
    go_enter Try.func17, Try.ntmps17
    go_wp2
    go_ret
    exact ⟨ret_i64 E.out, rfl⟩
  · have e1 : (16 : Int) = wt c := by
      rw [wt_no (by unfold Ytppmlphmjmpcgaa.hb; exact decide_eq_false (by omega))]
    have d0 : decide (48 ≤ c) = true := by first | exact decide_eq_true (by omega) | exact decide_eq_false (by omega)
    have d1 : decide (c ≤ 57) = false := by first | exact decide_eq_true (by omega) | exact decide_eq_false (by omega)
    have d2 : decide (97 ≤ c) = true := by first | exact decide_eq_true (by omega) | exact decide_eq_false (by omega)
    have d3 : decide (c ≤ 102) = false := by first | exact decide_eq_true (by omega) | exact decide_eq_false (by omega)
    have d4 : decide (65 ≤ c) = true := by first | exact decide_eq_true (by omega) | exact decide_eq_false (by omega)
    have d5 : decide (c ≤ 70) = false := by first | exact decide_eq_true (by omega) | exact decide_eq_false (by omega)
    have E := Aside0.mk e1
    clear h e1
    go_enter Try.func17, Try.ntmps17
    go_wp2
    go_ret
    exact ⟨ret_i64 E.out, rfl⟩

theorem digit_calls (c : Int) (w : World) (h0 : 0 ≤ c) (h1 : c < 16) :
    Calls Try.prog 16 #[.int .u8 c] w fun e w' => e = .returned (.int .u8 ((Ytppmlphmjmpcgaa.hd c.toNat).toNat : Int)) ∧ w' = w := by
  by_cases h : c < 10
  · have e1 : 48 + c = ((Ytppmlphmjmpcgaa.hd c.toNat).toNat : Int) := by
      unfold Ytppmlphmjmpcgaa.hd; rw [if_pos (by omega), UInt8.toNat_ofNat']; omega
    have d0 : decide (c < 10) = true := decide_eq_true h
    have E := Aside0.mk e1
    clear h e1
    go_enter Try.func16, Try.ntmps16
    go_wp2
    go_ret
    exact ⟨ret_u8 E.out, rfl⟩
  · have e1 : 97 + c - 10 = ((Ytppmlphmjmpcgaa.hd c.toNat).toNat : Int) := by
      unfold Ytppmlphmjmpcgaa.hd; rw [if_neg (by omega), UInt8.toNat_ofNat']; omega
    have d0 : decide (c < 10) = false := decide_eq_false h
    have E := Aside0.mk e1
    clear h e1
    go_enter Try.func16, Try.ntmps16
    go_wp2
    go_ret
    exact ⟨ret_u8 E.out, rfl⟩

def OneIs (c n : Int) (w : World) (e : Ending) (w' : World) : Prop := e = .returned (.tuple #[.int .u8 c, .int .i64 n]) ∧ Drawn0 w w'

theorem wrap_i64_id (x : Int) (h0 : -9223372036854775808 ≤ x) (h1 : x ≤ 9223372036854775807) : IntKind.i64.wrap x = x := by rw [IntKind.wrap_i64]; omega
set_option maxRecDepth 100000 in
set_option maxHeartbeats 4000000 in
theorem one_stop (s : ByteArray) (i e : Int) (w : World) (i0 : 0 ≤ i) (ie : i < e) (es : e < (s.size : Int)) (ss : (s.size : Int) ≤ 140737488355328) (h0 : bt s i = 34 ∨ bt s i = 10) :
    Calls Try.prog 9 #[.string s, .int .i64 i, .int .i64 e] w (OneIs 0 0 w) := by
  have p0 := eq_true i0
  have q0 := eq_true (show i < (s.size : Int) by omega)
  have x0 := bt_at s i
  clear i0 ie es ss 
  rcases h0 with h0 | h0
  · have ea0 : (bt s i == 34) = true := beq_iff_eq.2 (by omega)
    clear h0
    go_enter Try.func9, Try.ntmps9
    go_wp2_with fail
    repeat (go_quiet (fail); try go_wp2_with fail)
    go_ret2
    exact ⟨rfl, by repeat (first | exact Drawn0.refl _ | apply Drawn0.step)⟩
  · have ea0 : (bt s i == 34) = false := beq_eq_false_iff_ne.2 (by omega)
    have ea1 : (bt s i == 10) = true := beq_iff_eq.2 (by omega)
    clear h0
    go_enter Try.func9, Try.ntmps9
    go_wp2_with fail
    repeat (go_quiet (fail); try go_wp2_with fail)
    go_ret2
    exact ⟨rfl, by repeat (first | exact Drawn0.refl _ | apply Drawn0.step)⟩
set_option maxRecDepth 100000 in
set_option maxHeartbeats 4000000 in
theorem one_plain (s : ByteArray) (i e : Int) (w : World) (i0 : 0 ≤ i) (ie : i < e) (es : e < (s.size : Int)) (ss : (s.size : Int) ≤ 140737488355328) (h0 : bt s i ≠ 34) (h1 : bt s i ≠ 10) (h2 : bt s i ≠ 92) :
    Calls Try.prog 9 #[.string s, .int .i64 i, .int .i64 e] w (OneIs (bt s i) 1 w) := by
  have p0 := eq_true i0
  have q0 := eq_true (show i < (s.size : Int) by omega)
  have x0 := bt_at s i
  have ea0 : (bt s i == 34) = false := beq_eq_false_iff_ne.2 (by omega)
  have na0 : (bt s i != 34) = true := by unfold bne; rw [ea0]; rfl
  have ea1 : (bt s i == 10) = false := beq_eq_false_iff_ne.2 (by omega)
  have na1 : (bt s i != 10) = true := by unfold bne; rw [ea1]; rfl
  have ea2 : (bt s i == 92) = false := beq_eq_false_iff_ne.2 (by omega)
  have na2 : (bt s i != 92) = true := by unfold bne; rw [ea2]; rfl
  clear i0 ie es ss h0 h1 h2
  go_enter Try.func9, Try.ntmps9
  go_wp2_with fail
  repeat (go_quiet (fail); try go_wp2_with fail)
  go_ret2
  exact ⟨rfl, by repeat (first | exact Drawn0.refl _ | apply Drawn0.step)⟩
set_option maxRecDepth 100000 in
set_option maxHeartbeats 4000000 in
theorem one_short (s : ByteArray) (i e : Int) (w : World) (i0 : 0 ≤ i) (ie : i < e) (es : e < (s.size : Int)) (ss : (s.size : Int) ≤ 140737488355328) (h0 : bt s i = 92) (h1 : e ≤ i + 1) :
    Calls Try.prog 9 #[.string s, .int .i64 i, .int .i64 e] w (OneIs 0 0 w) := by
  have p0 := eq_true i0
  have q0 := eq_true (show i < (s.size : Int) by omega)
  have x0 := bt_at s i
  have ea0 : (bt s i == 34) = false := beq_eq_false_iff_ne.2 (by omega)
  have na0 : (bt s i != 34) = true := by unfold bne; rw [ea0]; rfl
  have ea1 : (bt s i == 10) = false := beq_eq_false_iff_ne.2 (by omega)
  have na1 : (bt s i != 10) = true := by unfold bne; rw [ea1]; rfl
  have ea2 : (bt s i == 92) = true := beq_iff_eq.2 (by omega)
  have na2 : (bt s i != 92) = false := by unfold bne; rw [ea2]; rfl
  obtain ⟨j1, hj1⟩ : ∃ j, j = i + 1 := ⟨_, rfl⟩
  have wj1 : IntKind.i64.wrap (i + 1) = j1 := by rw [hj1]; exact wrap_i64_id _ (by omega) (by omega)
  have g1 : decide (e ≤ j1) = true := decide_eq_true (by omega)
  clear i0 ie es ss h0 h1 hj1
  go_enter Try.func9, Try.ntmps9
  go_wp2_with fail
  repeat (go_quiet (fail); try go_wp2_with fail)
  go_ret2
  exact ⟨rfl, by repeat (first | exact Drawn0.refl _ | apply Drawn0.step)⟩
set_option maxRecDepth 100000 in
set_option maxHeartbeats 4000000 in
theorem one_self0 (s : ByteArray) (i e : Int) (w : World) (i0 : 0 ≤ i) (ie : i < e) (es : e < (s.size : Int)) (ss : (s.size : Int) ≤ 140737488355328) (h0 : bt s i = 92) (h1 : i + 1 < e) (h2 : bt s (i + 1) = 34) :
    Calls Try.prog 9 #[.string s, .int .i64 i, .int .i64 e] w (OneIs (bt s (i + 1)) 2 w) := by
  have p0 := eq_true i0
  have q0 := eq_true (show i < (s.size : Int) by omega)
  have x0 := bt_at s i
  have ea0 : (bt s i == 34) = false := beq_eq_false_iff_ne.2 (by omega)
  have na0 : (bt s i != 34) = true := by unfold bne; rw [ea0]; rfl
  have ea1 : (bt s i == 10) = false := beq_eq_false_iff_ne.2 (by omega)
  have na1 : (bt s i != 10) = true := by unfold bne; rw [ea1]; rfl
  have ea2 : (bt s i == 92) = true := beq_iff_eq.2 (by omega)
  have na2 : (bt s i != 92) = false := by unfold bne; rw [ea2]; rfl
  obtain ⟨j1, hj1⟩ : ∃ j, j = i + 1 := ⟨_, rfl⟩
  have wj1 : IntKind.i64.wrap (i + 1) = j1 := by rw [hj1]; exact wrap_i64_id _ (by omega) (by omega)
  rw [← hj1] at h2 ⊢
  have g1 : decide (e ≤ j1) = false := decide_eq_false (by omega)
  have p1 := eq_true (show 0 ≤ j1 by omega)
  have q1 := eq_true (show j1 < (s.size : Int) by omega)
  have x1 := bt_at s j1
  have eb0 : (bt s j1 == 34) = true := beq_iff_eq.2 (by omega)
  have nb0 : (bt s j1 != 34) = false := by unfold bne; rw [eb0]; rfl
  clear i0 ie es ss h0 h1 hj1 h2
  go_enter Try.func9, Try.ntmps9
  go_wp2_with fail
  repeat (go_quiet (fail); try go_wp2_with fail)
  go_ret2
  exact ⟨rfl, by repeat (first | exact Drawn0.refl _ | apply Drawn0.step)⟩
set_option maxRecDepth 100000 in
set_option maxHeartbeats 4000000 in
theorem one_self1 (s : ByteArray) (i e : Int) (w : World) (i0 : 0 ≤ i) (ie : i < e) (es : e < (s.size : Int)) (ss : (s.size : Int) ≤ 140737488355328) (h0 : bt s i = 92) (h1 : i + 1 < e) (h2 : bt s (i + 1) = 92) :
    Calls Try.prog 9 #[.string s, .int .i64 i, .int .i64 e] w (OneIs (bt s (i + 1)) 2 w) := by
  have p0 := eq_true i0
  have q0 := eq_true (show i < (s.size : Int) by omega)
  have x0 := bt_at s i
  have ea0 : (bt s i == 34) = false := beq_eq_false_iff_ne.2 (by omega)
  have na0 : (bt s i != 34) = true := by unfold bne; rw [ea0]; rfl
  have ea1 : (bt s i == 10) = false := beq_eq_false_iff_ne.2 (by omega)
  have na1 : (bt s i != 10) = true := by unfold bne; rw [ea1]; rfl
  have ea2 : (bt s i == 92) = true := beq_iff_eq.2 (by omega)
  have na2 : (bt s i != 92) = false := by unfold bne; rw [ea2]; rfl
  obtain ⟨j1, hj1⟩ : ∃ j, j = i + 1 := ⟨_, rfl⟩
  have wj1 : IntKind.i64.wrap (i + 1) = j1 := by rw [hj1]; exact wrap_i64_id _ (by omega) (by omega)
  rw [← hj1] at h2 ⊢
  have g1 : decide (e ≤ j1) = false := decide_eq_false (by omega)
  have p1 := eq_true (show 0 ≤ j1 by omega)
  have q1 := eq_true (show j1 < (s.size : Int) by omega)
  have x1 := bt_at s j1
  have eb0 : (bt s j1 == 34) = false := beq_eq_false_iff_ne.2 (by omega)
  have nb0 : (bt s j1 != 34) = true := by unfold bne; rw [eb0]; rfl
  have eb1 : (bt s j1 == 92) = true := beq_iff_eq.2 (by omega)
  have nb1 : (bt s j1 != 92) = false := by unfold bne; rw [eb1]; rfl
  clear i0 ie es ss h0 h1 hj1 h2
  go_enter Try.func9, Try.ntmps9
  go_wp2_with fail
  repeat (go_quiet (fail); try go_wp2_with fail)
  go_ret2
  exact ⟨rfl, by repeat (first | exact Drawn0.refl _ | apply Drawn0.step)⟩
set_option maxRecDepth 100000 in
set_option maxHeartbeats 4000000 in
theorem one_line (s : ByteArray) (i e : Int) (w : World) (i0 : 0 ≤ i) (ie : i < e) (es : e < (s.size : Int)) (ss : (s.size : Int) ≤ 140737488355328) (h0 : bt s i = 92) (h1 : i + 1 < e) (h2 : bt s (i + 1) = 110) :
    Calls Try.prog 9 #[.string s, .int .i64 i, .int .i64 e] w (OneIs 10 2 w) := by
  have p0 := eq_true i0
  have q0 := eq_true (show i < (s.size : Int) by omega)
  have x0 := bt_at s i
  have ea0 : (bt s i == 34) = false := beq_eq_false_iff_ne.2 (by omega)
  have na0 : (bt s i != 34) = true := by unfold bne; rw [ea0]; rfl
  have ea1 : (bt s i == 10) = false := beq_eq_false_iff_ne.2 (by omega)
  have na1 : (bt s i != 10) = true := by unfold bne; rw [ea1]; rfl
  have ea2 : (bt s i == 92) = true := beq_iff_eq.2 (by omega)
  have na2 : (bt s i != 92) = false := by unfold bne; rw [ea2]; rfl
  obtain ⟨j1, hj1⟩ : ∃ j, j = i + 1 := ⟨_, rfl⟩
  have wj1 : IntKind.i64.wrap (i + 1) = j1 := by rw [hj1]; exact wrap_i64_id _ (by omega) (by omega)
  rw [← hj1] at h2
  have g1 : decide (e ≤ j1) = false := decide_eq_false (by omega)
  have p1 := eq_true (show 0 ≤ j1 by omega)
  have q1 := eq_true (show j1 < (s.size : Int) by omega)
  have x1 := bt_at s j1
  have eb0 : (bt s j1 == 34) = false := beq_eq_false_iff_ne.2 (by omega)
  have nb0 : (bt s j1 != 34) = true := by unfold bne; rw [eb0]; rfl
  have eb1 : (bt s j1 == 92) = false := beq_eq_false_iff_ne.2 (by omega)
  have nb1 : (bt s j1 != 92) = true := by unfold bne; rw [eb1]; rfl
  have eb2 : (bt s j1 == 110) = true := beq_iff_eq.2 (by omega)
  have nb2 : (bt s j1 != 110) = false := by unfold bne; rw [eb2]; rfl
  clear i0 ie es ss h0 h1 hj1 h2
  go_enter Try.func9, Try.ntmps9
  go_wp2_with fail
  repeat (go_quiet (fail); try go_wp2_with fail)
  go_ret2
  exact ⟨rfl, by repeat (first | exact Drawn0.refl _ | apply Drawn0.step)⟩
set_option maxRecDepth 100000 in
set_option maxHeartbeats 4000000 in
theorem one_other (s : ByteArray) (i e : Int) (w : World) (i0 : 0 ≤ i) (ie : i < e) (es : e < (s.size : Int)) (ss : (s.size : Int) ≤ 140737488355328) (h0 : bt s i = 92) (h1 : i + 1 < e) (h2 : bt s (i + 1) ≠ 34) (h3 : bt s (i + 1) ≠ 92) (h4 : bt s (i + 1) ≠ 110) (h5 : bt s (i + 1) ≠ 120) :
    Calls Try.prog 9 #[.string s, .int .i64 i, .int .i64 e] w (OneIs 0 0 w) := by
  have p0 := eq_true i0
  have q0 := eq_true (show i < (s.size : Int) by omega)
  have x0 := bt_at s i
  have ea0 : (bt s i == 34) = false := beq_eq_false_iff_ne.2 (by omega)
  have na0 : (bt s i != 34) = true := by unfold bne; rw [ea0]; rfl
  have ea1 : (bt s i == 10) = false := beq_eq_false_iff_ne.2 (by omega)
  have na1 : (bt s i != 10) = true := by unfold bne; rw [ea1]; rfl
  have ea2 : (bt s i == 92) = true := beq_iff_eq.2 (by omega)
  have na2 : (bt s i != 92) = false := by unfold bne; rw [ea2]; rfl
  obtain ⟨j1, hj1⟩ : ∃ j, j = i + 1 := ⟨_, rfl⟩
  have wj1 : IntKind.i64.wrap (i + 1) = j1 := by rw [hj1]; exact wrap_i64_id _ (by omega) (by omega)
  rw [← hj1] at h2 h3 h4 h5
  have g1 : decide (e ≤ j1) = false := decide_eq_false (by omega)
  have p1 := eq_true (show 0 ≤ j1 by omega)
  have q1 := eq_true (show j1 < (s.size : Int) by omega)
  have x1 := bt_at s j1
  have eb0 : (bt s j1 == 34) = false := beq_eq_false_iff_ne.2 (by omega)
  have nb0 : (bt s j1 != 34) = true := by unfold bne; rw [eb0]; rfl
  have eb1 : (bt s j1 == 92) = false := beq_eq_false_iff_ne.2 (by omega)
  have nb1 : (bt s j1 != 92) = true := by unfold bne; rw [eb1]; rfl
  have eb2 : (bt s j1 == 110) = false := beq_eq_false_iff_ne.2 (by omega)
  have nb2 : (bt s j1 != 110) = true := by unfold bne; rw [eb2]; rfl
  have eb3 : (bt s j1 == 120) = false := beq_eq_false_iff_ne.2 (by omega)
  have nb3 : (bt s j1 != 120) = true := by unfold bne; rw [eb3]; rfl
  clear i0 ie es ss h0 h1 hj1 h2 h3 h4 h5
  go_enter Try.func9, Try.ntmps9
  go_wp2_with fail
  repeat (go_quiet (fail); try go_wp2_with fail)
  go_ret2
  exact ⟨rfl, by repeat (first | exact Drawn0.refl _ | apply Drawn0.step)⟩
set_option maxRecDepth 100000 in
set_option maxHeartbeats 4000000 in
theorem one_cut (s : ByteArray) (i e : Int) (w : World) (i0 : 0 ≤ i) (ie : i < e) (es : e < (s.size : Int)) (ss : (s.size : Int) ≤ 140737488355328) (h0 : bt s i = 92) (h1 : i + 1 < e) (h2 : bt s (i + 1) = 120) (h3 : e ≤ i + 3) :
    Calls Try.prog 9 #[.string s, .int .i64 i, .int .i64 e] w (OneIs 0 0 w) := by
  have p0 := eq_true i0
  have q0 := eq_true (show i < (s.size : Int) by omega)
  have x0 := bt_at s i
  have ea0 : (bt s i == 34) = false := beq_eq_false_iff_ne.2 (by omega)
  have na0 : (bt s i != 34) = true := by unfold bne; rw [ea0]; rfl
  have ea1 : (bt s i == 10) = false := beq_eq_false_iff_ne.2 (by omega)
  have na1 : (bt s i != 10) = true := by unfold bne; rw [ea1]; rfl
  have ea2 : (bt s i == 92) = true := beq_iff_eq.2 (by omega)
  have na2 : (bt s i != 92) = false := by unfold bne; rw [ea2]; rfl
  obtain ⟨j1, hj1⟩ : ∃ j, j = i + 1 := ⟨_, rfl⟩
  have wj1 : IntKind.i64.wrap (i + 1) = j1 := by rw [hj1]; exact wrap_i64_id _ (by omega) (by omega)
  rw [← hj1] at h2
  have g1 : decide (e ≤ j1) = false := decide_eq_false (by omega)
  have p1 := eq_true (show 0 ≤ j1 by omega)
  have q1 := eq_true (show j1 < (s.size : Int) by omega)
  have x1 := bt_at s j1
  have eb0 : (bt s j1 == 34) = false := beq_eq_false_iff_ne.2 (by omega)
  have nb0 : (bt s j1 != 34) = true := by unfold bne; rw [eb0]; rfl
  have eb1 : (bt s j1 == 92) = false := beq_eq_false_iff_ne.2 (by omega)
  have nb1 : (bt s j1 != 92) = true := by unfold bne; rw [eb1]; rfl
  have eb2 : (bt s j1 == 110) = false := beq_eq_false_iff_ne.2 (by omega)
  have nb2 : (bt s j1 != 110) = true := by unfold bne; rw [eb2]; rfl
  have eb3 : (bt s j1 == 120) = true := beq_iff_eq.2 (by omega)
  have nb3 : (bt s j1 != 120) = false := by unfold bne; rw [eb3]; rfl
  obtain ⟨j3, hj3⟩ : ∃ j, j = i + 3 := ⟨_, rfl⟩
  have wj3 : IntKind.i64.wrap (i + 3) = j3 := by rw [hj3]; exact wrap_i64_id _ (by omega) (by omega)
  have g3 : decide (e ≤ j3) = true := decide_eq_true (by omega)
  clear i0 ie es ss h0 h1 h2 h3 hj1 hj3
  go_enter Try.func9, Try.ntmps9
  go_wp2_with fail
  repeat (go_quiet (fail); try go_wp2_with fail)
  go_ret2
  exact ⟨rfl, by repeat (first | exact Drawn0.refl _ | apply Drawn0.step)⟩
set_option maxRecDepth 100000 in
set_option maxHeartbeats 4000000 in
theorem one_bad0 (s : ByteArray) (i e : Int) (w : World) (i0 : 0 ≤ i) (ie : i < e) (es : e < (s.size : Int)) (ss : (s.size : Int) ≤ 140737488355328) (h0 : bt s i = 92) (h1 : i + 1 < e) (h2 : bt s (i + 1) = 120) (h3 : i + 3 < e) (h4 : Ytppmlphmjmpcgaa.hb (bt s (i + 2)) = false) :
    Calls Try.prog 9 #[.string s, .int .i64 i, .int .i64 e] w (OneIs 0 0 w) := by
  have p0 := eq_true i0
  have q0 := eq_true (show i < (s.size : Int) by omega)
  have x0 := bt_at s i
  have ea0 : (bt s i == 34) = false := beq_eq_false_iff_ne.2 (by omega)
  have na0 : (bt s i != 34) = true := by unfold bne; rw [ea0]; rfl
  have ea1 : (bt s i == 10) = false := beq_eq_false_iff_ne.2 (by omega)
  have na1 : (bt s i != 10) = true := by unfold bne; rw [ea1]; rfl
  have ea2 : (bt s i == 92) = true := beq_iff_eq.2 (by omega)
  have na2 : (bt s i != 92) = false := by unfold bne; rw [ea2]; rfl
  obtain ⟨j1, hj1⟩ : ∃ j, j = i + 1 := ⟨_, rfl⟩
  have wj1 : IntKind.i64.wrap (i + 1) = j1 := by rw [hj1]; exact wrap_i64_id _ (by omega) (by omega)
  rw [← hj1] at h2
  have g1 : decide (e ≤ j1) = false := decide_eq_false (by omega)
  have p1 := eq_true (show 0 ≤ j1 by omega)
  have q1 := eq_true (show j1 < (s.size : Int) by omega)
  have x1 := bt_at s j1
  have eb0 : (bt s j1 == 34) = false := beq_eq_false_iff_ne.2 (by omega)
  have nb0 : (bt s j1 != 34) = true := by unfold bne; rw [eb0]; rfl
  have eb1 : (bt s j1 == 92) = false := beq_eq_false_iff_ne.2 (by omega)
  have nb1 : (bt s j1 != 92) = true := by unfold bne; rw [eb1]; rfl
  have eb2 : (bt s j1 == 110) = false := beq_eq_false_iff_ne.2 (by omega)
  have nb2 : (bt s j1 != 110) = true := by unfold bne; rw [eb2]; rfl
  have eb3 : (bt s j1 == 120) = true := beq_iff_eq.2 (by omega)
  have nb3 : (bt s j1 != 120) = false := by unfold bne; rw [eb3]; rfl
  obtain ⟨j2, hj2⟩ : ∃ j, j = i + 2 := ⟨_, rfl⟩
  have wj2 : IntKind.i64.wrap (i + 2) = j2 := by rw [hj2]; exact wrap_i64_id _ (by omega) (by omega)
  obtain ⟨j3, hj3⟩ : ∃ j, j = i + 3 := ⟨_, rfl⟩
  have wj3 : IntKind.i64.wrap (i + 3) = j3 := by rw [hj3]; exact wrap_i64_id _ (by omega) (by omega)
  have g3 : decide (e ≤ j3) = false := decide_eq_false (by omega)
  have p2 := eq_true (show 0 ≤ j2 by omega)
  have q2 := eq_true (show j2 < (s.size : Int) by omega)
  have x2 := bt_at s j2
  have p3 := eq_true (show 0 ≤ j3 by omega)
  have q3 := eq_true (show j3 < (s.size : Int) by omega)
  have x3 := bt_at s j3
  rw [← hj2] at h4
  have R2 := bt_range s j2
  have R3 := bt_range s j3
  have W2 := fun u : World => worth_calls (bt s j2) u R2.1 R2.2
  simp only [wt_no h4] at W2
  have HW2 := Aside0.mk W2
  clear W2 R2 R3
  skip
  clear i0 ie es ss h0 h1 h2 h3 hj1 hj2 hj3 h4
  go_enter Try.func9, Try.ntmps9
  go_wp2_with fail
  refine (HW2.out _).mono ?_
  rintro e w1 ⟨rfl, rfl⟩
  go_wp2_with fail
  go_ret2
  exact ⟨rfl, by repeat (first | exact Drawn0.refl _ | apply Drawn0.step)⟩
set_option maxRecDepth 100000 in
set_option maxHeartbeats 4000000 in
theorem one_bad1 (s : ByteArray) (i e : Int) (w : World) (i0 : 0 ≤ i) (ie : i < e) (es : e < (s.size : Int)) (ss : (s.size : Int) ≤ 140737488355328) (h0 : bt s i = 92) (h1 : i + 1 < e) (h2 : bt s (i + 1) = 120) (h3 : i + 3 < e) (h4 : Ytppmlphmjmpcgaa.hb (bt s (i + 2)) = true) (h5 : Ytppmlphmjmpcgaa.hb (bt s (i + 3)) = false) :
    Calls Try.prog 9 #[.string s, .int .i64 i, .int .i64 e] w (OneIs 0 0 w) := by
  have p0 := eq_true i0
  have q0 := eq_true (show i < (s.size : Int) by omega)
  have x0 := bt_at s i
  have ea0 : (bt s i == 34) = false := beq_eq_false_iff_ne.2 (by omega)
  have na0 : (bt s i != 34) = true := by unfold bne; rw [ea0]; rfl
  have ea1 : (bt s i == 10) = false := beq_eq_false_iff_ne.2 (by omega)
  have na1 : (bt s i != 10) = true := by unfold bne; rw [ea1]; rfl
  have ea2 : (bt s i == 92) = true := beq_iff_eq.2 (by omega)
  have na2 : (bt s i != 92) = false := by unfold bne; rw [ea2]; rfl
  obtain ⟨j1, hj1⟩ : ∃ j, j = i + 1 := ⟨_, rfl⟩
  have wj1 : IntKind.i64.wrap (i + 1) = j1 := by rw [hj1]; exact wrap_i64_id _ (by omega) (by omega)
  rw [← hj1] at h2
  have g1 : decide (e ≤ j1) = false := decide_eq_false (by omega)
  have p1 := eq_true (show 0 ≤ j1 by omega)
  have q1 := eq_true (show j1 < (s.size : Int) by omega)
  have x1 := bt_at s j1
  have eb0 : (bt s j1 == 34) = false := beq_eq_false_iff_ne.2 (by omega)
  have nb0 : (bt s j1 != 34) = true := by unfold bne; rw [eb0]; rfl
  have eb1 : (bt s j1 == 92) = false := beq_eq_false_iff_ne.2 (by omega)
  have nb1 : (bt s j1 != 92) = true := by unfold bne; rw [eb1]; rfl
  have eb2 : (bt s j1 == 110) = false := beq_eq_false_iff_ne.2 (by omega)
  have nb2 : (bt s j1 != 110) = true := by unfold bne; rw [eb2]; rfl
  have eb3 : (bt s j1 == 120) = true := beq_iff_eq.2 (by omega)
  have nb3 : (bt s j1 != 120) = false := by unfold bne; rw [eb3]; rfl
  obtain ⟨j2, hj2⟩ : ∃ j, j = i + 2 := ⟨_, rfl⟩
  have wj2 : IntKind.i64.wrap (i + 2) = j2 := by rw [hj2]; exact wrap_i64_id _ (by omega) (by omega)
  obtain ⟨j3, hj3⟩ : ∃ j, j = i + 3 := ⟨_, rfl⟩
  have wj3 : IntKind.i64.wrap (i + 3) = j3 := by rw [hj3]; exact wrap_i64_id _ (by omega) (by omega)
  have g3 : decide (e ≤ j3) = false := decide_eq_false (by omega)
  have p2 := eq_true (show 0 ≤ j2 by omega)
  have q2 := eq_true (show j2 < (s.size : Int) by omega)
  have x2 := bt_at s j2
  have p3 := eq_true (show 0 ≤ j3 by omega)
  have q3 := eq_true (show j3 < (s.size : Int) by omega)
  have x3 := bt_at s j3
  rw [← hj2] at h4
  rw [← hj3] at h5
  have R2 := bt_range s j2
  have R3 := bt_range s j3
  have W2 := fun u : World => worth_calls (bt s j2) u R2.1 R2.2
  have W3 := fun u : World => worth_calls (bt s j3) u R3.1 R3.2
  simp only [wt_yes h4] at W2
  simp only [wt_no h5] at W3
  have S2 := hv_range _ R2.1 R2.2
  obtain ⟨v2, hv2⟩ : ∃ v, v = hv (bt s j2) := ⟨_, rfl⟩
  rw [← hv2] at S2
  simp only [← hv2] at W2
  have g4 : decide (15 < v2) = false := decide_eq_false (by omega)
  have HW2 := Aside0.mk W2
  clear W2 R2 R3
  have HW3 := Aside0.mk W3
  clear W3
  skip
  clear i0 ie es ss h0 h1 h2 h3 hj1 hj2 hj3 h4 h5 hv2 S2
  go_enter Try.func9, Try.ntmps9
  go_wp2_with fail
  refine (HW2.out _).mono ?_
  rintro e w1 ⟨rfl, rfl⟩
  go_wp2_with fail
  refine (HW3.out _).mono ?_
  rintro e w2 ⟨rfl, rfl⟩
  go_wp2_with fail
  go_ret2
  exact ⟨rfl, by repeat (first | exact Drawn0.refl _ | apply Drawn0.step)⟩
end Go.Proofs.Ytppmlphmjmpcgaa
