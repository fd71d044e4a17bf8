/-
  The reference's one at a byte in hexadecimal.
-/
import Derived.Test.YtppmlphmjmpcgaaRefOne
namespace Go.Proofs.Ytppmlphmjmpcgaa
set_option linter.unusedVariables false
open Go.RowKit
open Go.Proofs.YtppmlphmjmpcgaaW.PrintWords Go.Proofs.YtppmlphmjmpcgaaW.PrintMore

set_option maxRecDepth 100000 in
set_option maxHeartbeats 4000000 in
theorem one_hex (s : ByteArray) (i e : Int) (w : World) (i0 : 0 ≤ i) (ie : i < e) (es : e < (s.size : Int)) (ss : (s.size : Int) ≤ 140737488355328) (h0 : bt s i = 92) (h1 : i + 1 < e) (h2 : bt s (i + 1) = 120) (h3 : i + 3 < e) (h4 : Ytppmlphmjmpcgaa.hb (bt s (i + 2)) = true) (h5 : Ytppmlphmjmpcgaa.hb (bt s (i + 3)) = true) :
    Calls Try.prog 9 #[.string s, .int .i64 i, .int .i64 e] w (OneIs (16 * hv (bt s (i + 2)) + hv (bt s (i + 3))) 4 w) := by
  have p0 := eq_true i0
  have q0 := eq_true (show i < (s.size : Int) by omega)
  have x0 := bt_at s i
  have ea0 : (bt s i == 34) = false := beq_eq_false_iff_ne.2 (by omega)
  have na0 : (bt s i != 34) = true := by unfold bne; rw [ea0]; rfl
  have ea1 : (bt s i == 10) = false := beq_eq_false_iff_ne.2 (by omega)
  have na1 : (bt s i != 10) = true := by unfold bne; rw [ea1]; rfl
  have ea2 : (bt s i == 92) = true := beq_iff_eq.2 (by omega)
  have na2 : (bt s i != 92) = false := by unfold bne; rw [ea2]; rfl
  obtain ⟨j1, hj1⟩ : ∃ j, j = i + 1 := ⟨_, rfl⟩
  have wj1 : IntKind.i64.wrap (i + 1) = j1 := by rw [hj1]; exact wrap_i64_id _ (by omega) (by omega)
  rw [← hj1] at h2
  have g1 : decide (e ≤ j1) = false := decide_eq_false (by omega)
  have p1 := eq_true (show 0 ≤ j1 by omega)
  have q1 := eq_true (show j1 < (s.size : Int) by omega)
  have x1 := bt_at s j1
  have eb0 : (bt s j1 == 34) = false := beq_eq_false_iff_ne.2 (by omega)
  have nb0 : (bt s j1 != 34) = true := by unfold bne; rw [eb0]; rfl
  have eb1 : (bt s j1 == 92) = false := beq_eq_false_iff_ne.2 (by omega)
  have nb1 : (bt s j1 != 92) = true := by unfold bne; rw [eb1]; rfl
  have eb2 : (bt s j1 == 110) = false := beq_eq_false_iff_ne.2 (by omega)
  have nb2 : (bt s j1 != 110) = true := by unfold bne; rw [eb2]; rfl
  have eb3 : (bt s j1 == 120) = true := beq_iff_eq.2 (by omega)
  have nb3 : (bt s j1 != 120) = false := by unfold bne; rw [eb3]; rfl
  obtain ⟨j2, hj2⟩ : ∃ j, j = i + 2 := ⟨_, rfl⟩
  have wj2 : IntKind.i64.wrap (i + 2) = j2 := by rw [hj2]; exact wrap_i64_id _ (by omega) (by omega)
  obtain ⟨j3, hj3⟩ : ∃ j, j = i + 3 := ⟨_, rfl⟩
  have wj3 : IntKind.i64.wrap (i + 3) = j3 := by rw [hj3]; exact wrap_i64_id _ (by omega) (by omega)
  have g3 : decide (e ≤ j3) = false := decide_eq_false (by omega)
  have p2 := eq_true (show 0 ≤ j2 by omega)
  have q2 := eq_true (show j2 < (s.size : Int) by omega)
  have x2 := bt_at s j2
  have p3 := eq_true (show 0 ≤ j3 by omega)
  have q3 := eq_true (show j3 < (s.size : Int) by omega)
  have x3 := bt_at s j3
  rw [← hj2] at h4 ⊢
  rw [← hj3] at h5 ⊢
  have R2 := bt_range s j2
  have R3 := bt_range s j3
  have W2 := fun u : World => worth_calls (bt s j2) u R2.1 R2.2
  have W3 := fun u : World => worth_calls (bt s j3) u R3.1 R3.2
  simp only [wt_yes h4] at W2
  simp only [wt_yes h5] at W3
  have S2 := hv_range _ R2.1 R2.2
  obtain ⟨v2, hv2⟩ : ∃ v, v = hv (bt s j2) := ⟨_, rfl⟩
  rw [← hv2] at S2 ⊢
  simp only [← hv2] at W2
  have g4 : decide (15 < v2) = false := decide_eq_false (by omega)
  have S3 := hv_range _ R3.1 R3.2
  obtain ⟨v3, hv3⟩ : ∃ v, v = hv (bt s j3) := ⟨_, rfl⟩
  rw [← hv3] at S3 ⊢
  simp only [← hv3] at W3
  have g5 : decide (15 < v3) = false := decide_eq_false (by omega)
  have wm : IntKind.i64.wrap (16 * v2) = 16 * v2 := wrap_i64_id _ (by omega) (by omega)
  have wa : IntKind.i64.wrap (16 * v2 + v3) = 16 * v2 + v3 := wrap_i64_id _ (by omega) (by omega)
  have HM := Aside0.mk (show (16 * v2 + v3) % 256 = 16 * v2 + v3 by omega)
  have HW2 := Aside0.mk W2
  clear W2 R2 R3
  have HW3 := Aside0.mk W3
  clear W3
  obtain ⟨b2, hb2⟩ : ∃ b, b = bt s j2 := ⟨_, rfl⟩
  obtain ⟨b3, hb3⟩ : ∃ b, b = bt s j3 := ⟨_, rfl⟩
  rw [← hb2] at x2
  rw [← hb3] at x3
  have HW2' := HW2.out
  have HW3' := HW3.out
  simp only [← hb2] at HW2'
  simp only [← hb3] at HW3'
  clear HW2 HW3 hb2 hb3
  have HW2 := Aside0.mk HW2'
  have HW3 := Aside0.mk HW3'
  clear HW2' HW3'
  skip
  clear i0 ie es ss h0 h1 h2 h3 hj1 hj2 hj3 h4 h5 hv2 hv3 S2 S3
  go_enter Try.func9, Try.ntmps9
  go_wp2_with fail
  refine (HW2.out _).mono ?_
  rintro e w1 ⟨rfl, rfl⟩
  go_wp2_with fail
  refine (HW3.out _).mono ?_
  rintro e w2 ⟨rfl, rfl⟩
  go_wp2_with fail
  go_quiet ((go_at_call 17; first | with_reducible exact Calls.quiet_of_same (HW2.out _) | with_reducible exact Calls.quiet_of_same (HW3.out _)))
  go_wp2_with fail
  go_ret2
  exact ⟨ret_one HM.out rfl, by repeat (first | exact Drawn0.refl _ | apply Drawn0.step)⟩
end Go.Proofs.Ytppmlphmjmpcgaa
