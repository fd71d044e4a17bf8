-- PRINTED BY print.sh 35421559b90ae4d0a3588c463048766b98c2df88dd9212a6774a882060cdf62d: not written by this session
import Derived.Test.YtoaomnlgjniljaaPOpsKindsx0
namespace Go.Proofs.Ytoaomnlgjniljaa.POpsKinds
open Go.RowKit Go.Proofs.YtoaomnlgjniljaaW.PrintWords Go.Proofs.YtoaomnlgjniljaaW.PrintLast Go.Proofs.YtoaomnlgjniljaaW.PrintMore
attribute [local go_sem] max2_int min2_int max_two min_two max_three min_three max_four min_four   -- for this text's walks alone
set_option linter.unusedVariables false
set_option linter.unusedSimpArgs false

/-! ### ops_Applies: function 4 -/
mutual
def ops_Applies.j0 : Nat → Int → Bool → Option (Bool)
  | 0, _, _ => none
  | k + 1, x0, x3 => if x3 = true then (some true) else (if x0 = 46 then (some true) else (if 47 ≤ x0 then (ops_Applies.j1 k x0 (decide (x0 ≤ 57))) else (ops_Applies.j1 k x0 false)))
def ops_Applies.j1 : Nat → Int → Bool → Option (Bool)
  | 0, _, _ => none
  | k + 1, x0, x3 => if x3 = true then (some true) else (if x0 = 62 then (some true) else (if x0 = 65 then (some true) else (if x0 = 66 then (some true) else (some false))))
end
def ops_Applies.f (k : Nat) (a0 : Int) : Option (Bool) := if 12 ≤ a0 then (ops_Applies.j0 k a0 (decide (a0 ≤ 39))) else (ops_Applies.j0 k a0 false)
theorem ops_Applies.mono_l : ∀ k, (∀ y0 y1, LeO (ops_Applies.j0 k y0 y1) (ops_Applies.j0 (k + 1) y0 y1)) ∧ (∀ y0 y1, LeO (ops_Applies.j1 k y0 y1) (ops_Applies.j1 (k + 1) y0 y1))
  | 0 => ⟨fun _ _ r h => by simp [ops_Applies.j0] at h, fun _ _ r h => by simp [ops_Applies.j1] at h⟩
  | k + 1 => by
    obtain ⟨ih0, ih1⟩ := ops_Applies.mono_l k
    refine ⟨?_, ?_⟩
    · intro y0 y1
      unfold ops_Applies.j0
      repeat' first
      | (with_reducible exact ih0 _ _)
      | (with_reducible exact ih1 _ _)
      | (with_reducible exact LeO.refl _)
      | (with_reducible exact LeO.none _)
      | (with_reducible refine LeO.ite ?_ ?_)
      | (with_reducible refine LeO.bind ?_ (fun _ => ?_))
      | exact ih0 _ _
      | exact ih1 _ _
      | exact LeO.none _
      | refine LeO.ite ?_ ?_
      | refine LeO.bind ?_ (fun _ => ?_)
    · intro y0 y1
      unfold ops_Applies.j1
      repeat' first
      | (with_reducible exact ih0 _ _)
      | (with_reducible exact ih1 _ _)
      | (with_reducible exact LeO.refl _)
      | (with_reducible exact LeO.none _)
      | (with_reducible refine LeO.ite ?_ ?_)
      | (with_reducible refine LeO.bind ?_ (fun _ => ?_))
      | exact ih0 _ _
      | exact ih1 _ _
      | exact LeO.none _
      | refine LeO.ite ?_ ?_
      | refine LeO.bind ?_ (fun _ => ?_)
theorem ops_Applies.mono : ∀ a0 k, LeO (ops_Applies.f k a0) (ops_Applies.f (k + 1) a0) := by
  intro a0 k
  obtain ⟨ih0, ih1⟩ := ops_Applies.mono_l k
  unfold ops_Applies.f
  repeat' first
      | (with_reducible exact ih0 _ _)
      | (with_reducible exact ih1 _ _)
      | (with_reducible exact LeO.refl _)
      | (with_reducible exact LeO.none _)
      | (with_reducible refine LeO.ite ?_ ?_)
      | (with_reducible refine LeO.bind ?_ (fun _ => ?_))
      | exact ih0 _ _
      | exact ih1 _ _
      | exact LeO.none _
      | refine LeO.ite ?_ ?_
      | refine LeO.bind ?_ (fun _ => ?_)
set_option maxHeartbeats 8000000 in
set_option maxRecDepth 100000 in
theorem ops_Applies.calls (k : Nat) (a0 : Int) (r : Bool) (w : World) (h : ops_Applies.f k a0 = some r) :
    Calls Try.prog 4 #[.int .i64 a0] w fun e w' => e = .returned (.bool r) ∧ Drawn0 w w' := by
  have H : (if 12 ≤ a0 then (ops_Applies.j0 k a0 (decide (a0 ≤ 39))) else (ops_Applies.j0 k a0 false)) = some r := h
  clear h
  have HC2 := Aside0.mk H
  clear H
  go_enter Try.func4, Try.ntmps4
  go_upto_region 1 with (fail)
  go_cut [3] (fun v3 wc => ∃ (kq : Nat) (x3_1 : Bool), v3 = .bool x3_1 ∧ Aside0 (ops_Applies.j0 kq a0 x3_1 = some r) ∧ Aside0 (kq ≤ k) ∧ Drawn0 w wc)
  case first =>
    have H := HC2.out
    clear HC2
    by_cases c3 : 12 ≤ a0
    · rw [if_pos c3] at H
      have c3b0 : decide (12 ≤ a0) = true := decide_eq_true c3
      clear c3
      (first | rw [c3b0] | (simp only [i64_w, i32_w]; rw [c3b0]) | skip)
      have H' := Aside0.mk H
      clear H
      go_wp2
      go_meet
      case rel => exact ⟨_, (decide (a0 ≤ 39)), (by first | rfl | (simp; done) | (simp [*]; done)), H', ⟨by first | omega | exact Nat.le_refl _⟩, by repeat (first | exact Drawn0.refl _ | apply Drawn0.step)⟩
    · rw [if_neg c3] at H
      have c3b0 : decide (12 ≤ a0) = false := decide_eq_false c3
      clear c3
      (first | rw [c3b0] | (simp only [i64_w, i32_w]; rw [c3b0]) | skip)
      have H' := Aside0.mk H
      clear H
      go_wp2
      go_meet
      case rel => exact ⟨_, (false), (by first | rfl | (simp; done) | (simp [*]; done)), H', ⟨by first | omega | exact Nat.le_refl _⟩, by repeat (first | exact Drawn0.refl _ | apply Drawn0.step)⟩
  case rest =>
    clear HC2
    try clear p2
    try clear c3
    try clear c3b0
    obtain ⟨kq, x3_1, rfl, HA, HJ1, ⟨mc1, rfl⟩⟩ := hcut
    cases kq with
    | zero => exact absurd HA.out (by simp [ops_Applies.j0])
    | succ kj1 =>
      have H := HA.out
      clear HA
      simp only [ops_Applies.j0] at H
      by_cases c4 : x3_1 = true
      · subst c4
        have H1 : (some true) = some r := by rw [if_pos rfl] at H; exact H
        clear H
        have H := H1
        clear H1
        obtain rfl := Option.some.inj H
        go_wp2
        go_ret
        exact ⟨by first | rfl | (simp; done) | (simp [*]; done), by repeat (first | exact Drawn0.refl _ | apply Drawn0.step)⟩
      · replace c4 := Bool.eq_false_iff.mpr c4
        subst c4
        have H1 : (if a0 = 46 then (some true) else (if 47 ≤ a0 then (ops_Applies.j1 kj1 a0 (decide (a0 ≤ 57))) else (ops_Applies.j1 kj1 a0 false))) = some r := by rw [if_neg (show ¬ (false = true) by decide)] at H; exact H
        clear H
        have H := H1
        clear H1
        by_cases c5 : a0 = 46
        · rw [if_pos c5] at H
          have c5b0 : (a0 == 46) = true := beq_iff_eq.mpr c5
          have c5b1 : (a0 != 46) = false := bne_eq_false_iff_eq.mpr c5
          clear c5
          obtain rfl := Option.some.inj H
          go_wp2
          go_ret
          exact ⟨by first | rfl | (simp; done) | (simp [*]; done), by repeat (first | exact Drawn0.refl _ | apply Drawn0.step)⟩
        · rw [if_neg c5] at H
          have c5b0 : (a0 == 46) = false := beq_eq_false_iff_ne.mpr c5
          have c5b1 : (a0 != 46) = true := bne_iff_ne.mpr c5
          have HC6 := Aside0.mk H
          clear H
          go_upto_region 3 with (fail)
          go_cut [3] (fun v3 wc => ∃ (kq : Nat) (x3_5 : Bool), v3 = .bool x3_5 ∧ Aside0 (ops_Applies.j1 kq a0 x3_5 = some r) ∧ Aside0 (kq ≤ kj1) ∧ Drawn0 w wc)
          case first =>
            have H := HC6.out
            clear HC6
            by_cases c7 : 47 ≤ a0
            · rw [if_pos c7] at H
              have c7b0 : decide (47 ≤ a0) = true := decide_eq_true c7
              clear c7
              (first | rw [c7b0] | (simp only [i64_w, i32_w]; rw [c7b0]) | skip)
              have H' := Aside0.mk H
              clear H
              go_wp2
              go_meet
              case rel => exact ⟨_, (decide (a0 ≤ 57)), (by first | rfl | (simp; done) | (simp [*]; done)), H', ⟨by have := HJ1.out; first | omega | exact Nat.le_refl _⟩, by repeat (first | exact Drawn0.refl _ | apply Drawn0.step)⟩
            · rw [if_neg c7] at H
              have c7b0 : decide (47 ≤ a0) = false := decide_eq_false c7
              clear c7
              (first | rw [c7b0] | (simp only [i64_w, i32_w]; rw [c7b0]) | skip)
              have H' := Aside0.mk H
              clear H
              go_wp2
              go_meet
              case rel => exact ⟨_, (false), (by first | rfl | (simp; done) | (simp [*]; done)), H', ⟨by have := HJ1.out; first | omega | exact Nat.le_refl _⟩, by repeat (first | exact Drawn0.refl _ | apply Drawn0.step)⟩
          case rest =>
            clear HC6
            try clear c1
            try clear p2
            try clear c3
            try clear c3b0
            try clear c4
            try clear c5
            try clear c5b0
            try clear c5b1
            try clear c7
            try clear c7b0
            try clear p2
            obtain ⟨kq, x3_5, rfl, HA, HJ5, ⟨mc5, rfl⟩⟩ := hcut
            cases kq with
            | zero => exact absurd HA.out (by simp [ops_Applies.j1])
            | succ kj5 =>
              have H := HA.out
              clear HA
              simp only [ops_Applies.j1] at H
              by_cases c8 : x3_5 = true
              · subst c8
                have H1 : (some true) = some r := by rw [if_pos rfl] at H; exact H
                clear H
                have H := H1
                clear H1
                obtain rfl := Option.some.inj H
                go_wp2
                go_ret
                exact ⟨by first | rfl | (simp; done) | (simp [*]; done), by repeat (first | exact Drawn0.refl _ | apply Drawn0.step)⟩
              · replace c8 := Bool.eq_false_iff.mpr c8
                subst c8
                have H1 : (if a0 = 62 then (some true) else (if a0 = 65 then (some true) else (if a0 = 66 then (some true) else (some false)))) = some r := by rw [if_neg (show ¬ (false = true) by decide)] at H; exact H
                clear H
                have H := H1
                clear H1
                by_cases c9 : a0 = 62
                · rw [if_pos c9] at H
                  have c9b0 : (a0 == 62) = true := beq_iff_eq.mpr c9
                  have c9b1 : (a0 != 62) = false := bne_eq_false_iff_eq.mpr c9
                  clear c9
                  obtain rfl := Option.some.inj H
                  go_wp2
                  go_ret
                  exact ⟨by first | rfl | (simp; done) | (simp [*]; done), by repeat (first | exact Drawn0.refl _ | apply Drawn0.step)⟩
                · rw [if_neg c9] at H
                  have c9b0 : (a0 == 62) = false := beq_eq_false_iff_ne.mpr c9
                  have c9b1 : (a0 != 62) = true := bne_iff_ne.mpr c9
                  by_cases c10 : a0 = 65
                  · rw [if_pos c10] at H
                    have c10b0 : (a0 == 65) = true := beq_iff_eq.mpr c10
                    have c10b1 : (a0 != 65) = false := bne_eq_false_iff_eq.mpr c10
                    clear c10
                    obtain rfl := Option.some.inj H
                    go_wp2
                    go_ret
                    exact ⟨by first | rfl | (simp; done) | (simp [*]; done), by repeat (first | exact Drawn0.refl _ | apply Drawn0.step)⟩
                  · rw [if_neg c10] at H
                    have c10b0 : (a0 == 65) = false := beq_eq_false_iff_ne.mpr c10
                    have c10b1 : (a0 != 65) = true := bne_iff_ne.mpr c10
                    by_cases c11 : a0 = 66
                    · rw [if_pos c11] at H
                      have c11b0 : (a0 == 66) = true := beq_iff_eq.mpr c11
                      have c11b1 : (a0 != 66) = false := bne_eq_false_iff_eq.mpr c11
                      clear c11
                      obtain rfl := Option.some.inj H
                      go_wp2
                      go_ret
                      exact ⟨by first | rfl | (simp; done) | (simp [*]; done), by repeat (first | exact Drawn0.refl _ | apply Drawn0.step)⟩
                    · rw [if_neg c11] at H
                      have c11b0 : (a0 == 66) = false := beq_eq_false_iff_ne.mpr c11
                      have c11b1 : (a0 != 66) = true := bne_iff_ne.mpr c11
                      obtain rfl := Option.some.inj H
                      go_wp2
                      go_ret
                      exact ⟨by first | rfl | (simp; done) | (simp [*]; done), by repeat (first | exact Drawn0.refl _ | apply Drawn0.step)⟩

/-! ### portageref13_Applies: function 5 -/
def portageref13_Applies.f (a0 : Int) : Option (Bool) := if a0 = 46 then (some true) else (if a0 = 47 then (some true) else (if a0 = 48 then (some true) else (if a0 = 49 then (some true) else (if a0 = 50 then (some true) else (if a0 = 51 then (some true) else (if a0 = 52 then (some true) else (if a0 = 53 then (some true) else (if a0 = 54 then (some true) else (if a0 = 55 then (some true) else (if a0 = 56 then (some true) else (if a0 = 57 then (some true) else (if a0 = 62 then (some true) else (if a0 = 65 then (some true) else (if a0 = 66 then (some true) else (if a0 ≥ 12 then (some (decide (a0 ≤ 39))) else (some false))))))))))))))))
set_option maxHeartbeats 8000000 in
set_option maxRecDepth 100000 in
theorem portageref13_Applies.calls (a0 : Int) (r : Bool) (w : World) (h : portageref13_Applies.f a0 = some r) :
    Calls Try.prog 5 #[.int .i64 a0] w fun e w' => e = .returned (.bool r) ∧ Drawn0 w w' := by
  have H : (if a0 = 46 then (some true) else (if a0 = 47 then (some true) else (if a0 = 48 then (some true) else (if a0 = 49 then (some true) else (if a0 = 50 then (some true) else (if a0 = 51 then (some true) else (if a0 = 52 then (some true) else (if a0 = 53 then (some true) else (if a0 = 54 then (some true) else (if a0 = 55 then (some true) else (if a0 = 56 then (some true) else (if a0 = 57 then (some true) else (if a0 = 62 then (some true) else (if a0 = 65 then (some true) else (if a0 = 66 then (some true) else (if a0 ≥ 12 then (some (decide (a0 ≤ 39))) else (some false))))))))))))))))) = some r := h
  clear h
  by_cases c2 : a0 = 46
  · rw [if_pos c2] at H
    have c2b0 : (a0 == 46) = true := beq_iff_eq.mpr c2
    have c2b1 : (a0 != 46) = false := bne_eq_false_iff_eq.mpr c2
    clear c2
    obtain rfl := Option.some.inj H
    go_enter Try.func5, Try.ntmps5
    go_wp2
    go_ret
    exact ⟨by first | rfl | (simp; done) | (simp [*]; done), by repeat (first | exact Drawn0.refl _ | apply Drawn0.step)⟩
  · rw [if_neg c2] at H
    have c2b0 : (a0 == 46) = false := beq_eq_false_iff_ne.mpr c2
    have c2b1 : (a0 != 46) = true := bne_iff_ne.mpr c2
    by_cases c3 : a0 = 47
    · rw [if_pos c3] at H
      have c3b0 : (a0 == 47) = true := beq_iff_eq.mpr c3
      have c3b1 : (a0 != 47) = false := bne_eq_false_iff_eq.mpr c3
      clear c3
      obtain rfl := Option.some.inj H
      go_enter Try.func5, Try.ntmps5
      go_wp2
      go_ret
      exact ⟨by first | rfl | (simp; done) | (simp [*]; done), by repeat (first | exact Drawn0.refl _ | apply Drawn0.step)⟩
    · rw [if_neg c3] at H
      have c3b0 : (a0 == 47) = false := beq_eq_false_iff_ne.mpr c3
      have c3b1 : (a0 != 47) = true := bne_iff_ne.mpr c3
      by_cases c4 : a0 = 48
      · rw [if_pos c4] at H
        have c4b0 : (a0 == 48) = true := beq_iff_eq.mpr c4
        have c4b1 : (a0 != 48) = false := bne_eq_false_iff_eq.mpr c4
        clear c4
        obtain rfl := Option.some.inj H
        go_enter Try.func5, Try.ntmps5
        go_wp2
        go_ret
        exact ⟨by first | rfl | (simp; done) | (simp [*]; done), by repeat (first | exact Drawn0.refl _ | apply Drawn0.step)⟩
      · rw [if_neg c4] at H
        have c4b0 : (a0 == 48) = false := beq_eq_false_iff_ne.mpr c4
        have c4b1 : (a0 != 48) = true := bne_iff_ne.mpr c4
        by_cases c5 : a0 = 49
        · rw [if_pos c5] at H
          have c5b0 : (a0 == 49) = true := beq_iff_eq.mpr c5
          have c5b1 : (a0 != 49) = false := bne_eq_false_iff_eq.mpr c5
          clear c5
          obtain rfl := Option.some.inj H
          go_enter Try.func5, Try.ntmps5
          go_wp2
          go_ret
          exact ⟨by first | rfl | (simp; done) | (simp [*]; done), by repeat (first | exact Drawn0.refl _ | apply Drawn0.step)⟩
        · rw [if_neg c5] at H
          have c5b0 : (a0 == 49) = false := beq_eq_false_iff_ne.mpr c5
          have c5b1 : (a0 != 49) = true := bne_iff_ne.mpr c5
          by_cases c6 : a0 = 50
          · rw [if_pos c6] at H
            have c6b0 : (a0 == 50) = true := beq_iff_eq.mpr c6
            have c6b1 : (a0 != 50) = false := bne_eq_false_iff_eq.mpr c6
            clear c6
            obtain rfl := Option.some.inj H
            go_enter Try.func5, Try.ntmps5
            go_wp2
            go_ret
            exact ⟨by first | rfl | (simp; done) | (simp [*]; done), by repeat (first | exact Drawn0.refl _ | apply Drawn0.step)⟩
          · rw [if_neg c6] at H
            have c6b0 : (a0 == 50) = false := beq_eq_false_iff_ne.mpr c6
            have c6b1 : (a0 != 50) = true := bne_iff_ne.mpr c6
            by_cases c7 : a0 = 51
            · rw [if_pos c7] at H
              have c7b0 : (a0 == 51) = true := beq_iff_eq.mpr c7
              have c7b1 : (a0 != 51) = false := bne_eq_false_iff_eq.mpr c7
              clear c7
              obtain rfl := Option.some.inj H
              go_enter Try.func5, Try.ntmps5
              go_wp2
              go_ret
              exact ⟨by first | rfl | (simp; done) | (simp [*]; done), by repeat (first | exact Drawn0.refl _ | apply Drawn0.step)⟩
            · rw [if_neg c7] at H
              have c7b0 : (a0 == 51) = false := beq_eq_false_iff_ne.mpr c7
              have c7b1 : (a0 != 51) = true := bne_iff_ne.mpr c7
              by_cases c8 : a0 = 52
              · rw [if_pos c8] at H
                have c8b0 : (a0 == 52) = true := beq_iff_eq.mpr c8
                have c8b1 : (a0 != 52) = false := bne_eq_false_iff_eq.mpr c8
                clear c8
                obtain rfl := Option.some.inj H
                go_enter Try.func5, Try.ntmps5
                go_wp2
                go_ret
                exact ⟨by first | rfl | (simp; done) | (simp [*]; done), by repeat (first | exact Drawn0.refl _ | apply Drawn0.step)⟩
              · rw [if_neg c8] at H
                have c8b0 : (a0 == 52) = false := beq_eq_false_iff_ne.mpr c8
                have c8b1 : (a0 != 52) = true := bne_iff_ne.mpr c8
                by_cases c9 : a0 = 53
                · rw [if_pos c9] at H
                  have c9b0 : (a0 == 53) = true := beq_iff_eq.mpr c9
                  have c9b1 : (a0 != 53) = false := bne_eq_false_iff_eq.mpr c9
                  clear c9
                  obtain rfl := Option.some.inj H
                  go_enter Try.func5, Try.ntmps5
                  go_wp2
                  go_ret
                  exact ⟨by first | rfl | (simp; done) | (simp [*]; done), by repeat (first | exact Drawn0.refl _ | apply Drawn0.step)⟩
                · rw [if_neg c9] at H
                  have c9b0 : (a0 == 53) = false := beq_eq_false_iff_ne.mpr c9
                  have c9b1 : (a0 != 53) = true := bne_iff_ne.mpr c9
                  by_cases c10 : a0 = 54
                  · rw [if_pos c10] at H
                    have c10b0 : (a0 == 54) = true := beq_iff_eq.mpr c10
                    have c10b1 : (a0 != 54) = false := bne_eq_false_iff_eq.mpr c10
                    clear c10
                    obtain rfl := Option.some.inj H
                    go_enter Try.func5, Try.ntmps5
                    go_wp2
                    go_ret
                    exact ⟨by first | rfl | (simp; done) | (simp [*]; done), by repeat (first | exact Drawn0.refl _ | apply Drawn0.step)⟩
                  · rw [if_neg c10] at H
                    have c10b0 : (a0 == 54) = false := beq_eq_false_iff_ne.mpr c10
                    have c10b1 : (a0 != 54) = true := bne_iff_ne.mpr c10
                    by_cases c11 : a0 = 55
                    · rw [if_pos c11] at H
                      have c11b0 : (a0 == 55) = true := beq_iff_eq.mpr c11
                      have c11b1 : (a0 != 55) = false := bne_eq_false_iff_eq.mpr c11
                      clear c11
                      obtain rfl := Option.some.inj H
                      go_enter Try.func5, Try.ntmps5
                      go_wp2
                      go_ret
                      exact ⟨by first | rfl | (simp; done) | (simp [*]; done), by repeat (first | exact Drawn0.refl _ | apply Drawn0.step)⟩
                    · rw [if_neg c11] at H
                      have c11b0 : (a0 == 55) = false := beq_eq_false_iff_ne.mpr c11
                      have c11b1 : (a0 != 55) = true := bne_iff_ne.mpr c11
                      by_cases c12 : a0 = 56
                      · rw [if_pos c12] at H
                        have c12b0 : (a0 == 56) = true := beq_iff_eq.mpr c12
                        have c12b1 : (a0 != 56) = false := bne_eq_false_iff_eq.mpr c12
                        clear c12
                        obtain rfl := Option.some.inj H
                        go_enter Try.func5, Try.ntmps5
                        go_wp2
                        go_ret
                        exact ⟨by first | rfl | (simp; done) | (simp [*]; done), by repeat (first | exact Drawn0.refl _ | apply Drawn0.step)⟩
                      · rw [if_neg c12] at H
                        have c12b0 : (a0 == 56) = false := beq_eq_false_iff_ne.mpr c12
                        have c12b1 : (a0 != 56) = true := bne_iff_ne.mpr c12
                        by_cases c13 : a0 = 57
                        · rw [if_pos c13] at H
                          have c13b0 : (a0 == 57) = true := beq_iff_eq.mpr c13
                          have c13b1 : (a0 != 57) = false := bne_eq_false_iff_eq.mpr c13
                          clear c13
                          obtain rfl := Option.some.inj H
                          go_enter Try.func5, Try.ntmps5
                          go_wp2
                          go_ret
                          exact ⟨by first | rfl | (simp; done) | (simp [*]; done), by repeat (first | exact Drawn0.refl _ | apply Drawn0.step)⟩
                        · rw [if_neg c13] at H
                          have c13b0 : (a0 == 57) = false := beq_eq_false_iff_ne.mpr c13
                          have c13b1 : (a0 != 57) = true := bne_iff_ne.mpr c13
                          by_cases c14 : a0 = 62
                          · rw [if_pos c14] at H
                            have c14b0 : (a0 == 62) = true := beq_iff_eq.mpr c14
                            have c14b1 : (a0 != 62) = false := bne_eq_false_iff_eq.mpr c14
                            clear c14
                            obtain rfl := Option.some.inj H
                            go_enter Try.func5, Try.ntmps5
                            go_wp2
                            go_ret
                            exact ⟨by first | rfl | (simp; done) | (simp [*]; done), by repeat (first | exact Drawn0.refl _ | apply Drawn0.step)⟩
                          · rw [if_neg c14] at H
                            have c14b0 : (a0 == 62) = false := beq_eq_false_iff_ne.mpr c14
                            have c14b1 : (a0 != 62) = true := bne_iff_ne.mpr c14
                            by_cases c15 : a0 = 65
                            · rw [if_pos c15] at H
                              have c15b0 : (a0 == 65) = true := beq_iff_eq.mpr c15
                              have c15b1 : (a0 != 65) = false := bne_eq_false_iff_eq.mpr c15
                              clear c15
                              obtain rfl := Option.some.inj H
                              go_enter Try.func5, Try.ntmps5
                              go_wp2
                              go_ret
                              exact ⟨by first | rfl | (simp; done) | (simp [*]; done), by repeat (first | exact Drawn0.refl _ | apply Drawn0.step)⟩
                            · rw [if_neg c15] at H
                              have c15b0 : (a0 == 65) = false := beq_eq_false_iff_ne.mpr c15
                              have c15b1 : (a0 != 65) = true := bne_iff_ne.mpr c15
                              by_cases c16 : a0 = 66
                              · rw [if_pos c16] at H
                                have c16b0 : (a0 == 66) = true := beq_iff_eq.mpr c16
                                have c16b1 : (a0 != 66) = false := bne_eq_false_iff_eq.mpr c16
                                clear c16
                                obtain rfl := Option.some.inj H
                                go_enter Try.func5, Try.ntmps5
                                go_wp2
                                go_ret
                                exact ⟨by first | rfl | (simp; done) | (simp [*]; done), by repeat (first | exact Drawn0.refl _ | apply Drawn0.step)⟩
                              · rw [if_neg c16] at H
                                have c16b0 : (a0 == 66) = false := beq_eq_false_iff_ne.mpr c16
                                have c16b1 : (a0 != 66) = true := bne_iff_ne.mpr c16
                                by_cases c17 : a0 ≥ 12
                                · rw [if_pos c17] at H
                                  have c17b0 : decide (12 ≤ a0) = true := decide_eq_true c17
                                  clear c17
                                  obtain rfl := Option.some.inj H
                                  go_enter Try.func5, Try.ntmps5
                                  go_wp2
                                  go_ret
                                  exact ⟨by first | rfl | (simp; done) | (simp [*]; done), by repeat (first | exact Drawn0.refl _ | apply Drawn0.step)⟩
                                · rw [if_neg c17] at H
                                  have c17b0 : decide (12 ≤ a0) = false := decide_eq_false c17
                                  clear c17
                                  obtain rfl := Option.some.inj H
                                  go_enter Try.func5, Try.ntmps5
                                  go_wp2
                                  go_ret
                                  exact ⟨by first | rfl | (simp; done) | (simp [*]; done), by repeat (first | exact Drawn0.refl _ | apply Drawn0.step)⟩

/-! ### ops_Pure: function 6 -/
def ops_Pure.f (a0 : Int) : Option (Bool) := if a0 = 25 then (some true) else (if a0 = 26 then (some true) else (if a0 = 29 then (some true) else (some (a0 == 30))))
set_option maxHeartbeats 8000000 in
set_option maxRecDepth 100000 in
theorem ops_Pure.calls (a0 : Int) (r : Bool) (w : World) (h : ops_Pure.f a0 = some r) :
    Calls Try.prog 6 #[.int .i64 a0] w fun e w' => e = .returned (.bool r) ∧ Drawn0 w w' := by
  have H : (if a0 = 25 then (some true) else (if a0 = 26 then (some true) else (if a0 = 29 then (some true) else (some (a0 == 30))))) = some r := h
  clear h
  by_cases c2 : a0 = 25
  · rw [if_pos c2] at H
    have c2b0 : (a0 == 25) = true := beq_iff_eq.mpr c2
    have c2b1 : (a0 != 25) = false := bne_eq_false_iff_eq.mpr c2
    clear c2
    obtain rfl := Option.some.inj H
    go_enter Try.func6, Try.ntmps6
    go_wp2
    go_ret
    exact ⟨by first | rfl | (simp; done) | (simp [*]; done), by repeat (first | exact Drawn0.refl _ | apply Drawn0.step)⟩
  · rw [if_neg c2] at H
    have c2b0 : (a0 == 25) = false := beq_eq_false_iff_ne.mpr c2
    have c2b1 : (a0 != 25) = true := bne_iff_ne.mpr c2
    by_cases c3 : a0 = 26
    · rw [if_pos c3] at H
      have c3b0 : (a0 == 26) = true := beq_iff_eq.mpr c3
      have c3b1 : (a0 != 26) = false := bne_eq_false_iff_eq.mpr c3
      clear c3
      obtain rfl := Option.some.inj H
      go_enter Try.func6, Try.ntmps6
      go_wp2
      go_ret
      exact ⟨by first | rfl | (simp; done) | (simp [*]; done), by repeat (first | exact Drawn0.refl _ | apply Drawn0.step)⟩
    · rw [if_neg c3] at H
      have c3b0 : (a0 == 26) = false := beq_eq_false_iff_ne.mpr c3
      have c3b1 : (a0 != 26) = true := bne_iff_ne.mpr c3
      by_cases c4 : a0 = 29
      · rw [if_pos c4] at H
        have c4b0 : (a0 == 29) = true := beq_iff_eq.mpr c4
        have c4b1 : (a0 != 29) = false := bne_eq_false_iff_eq.mpr c4
        clear c4
        obtain rfl := Option.some.inj H
        go_enter Try.func6, Try.ntmps6
        go_wp2
        go_ret
        exact ⟨by first | rfl | (simp; done) | (simp [*]; done), by repeat (first | exact Drawn0.refl _ | apply Drawn0.step)⟩
      · rw [if_neg c4] at H
        have c4b0 : (a0 == 29) = false := beq_eq_false_iff_ne.mpr c4
        have c4b1 : (a0 != 29) = true := bne_iff_ne.mpr c4
        obtain rfl := Option.some.inj H
        go_enter Try.func6, Try.ntmps6
        go_wp2
        go_ret
        exact ⟨by first | rfl | (simp; done) | (simp [*]; done), by repeat (first | exact Drawn0.refl _ | apply Drawn0.step)⟩

/-! ### portageref13_Pure: function 7 -/
def portageref13_Pure.f (a0 : Int) : Option (Bool) := if a0 = 25 then (some true) else (if a0 = 26 then (some true) else (if a0 = 29 then (some true) else (some (a0 == 30))))
set_option maxHeartbeats 8000000 in
set_option maxRecDepth 100000 in
theorem portageref13_Pure.calls (a0 : Int) (r : Bool) (w : World) (h : portageref13_Pure.f a0 = some r) :
    Calls Try.prog 7 #[.int .i64 a0] w fun e w' => e = .returned (.bool r) ∧ Drawn0 w w' := by
  have H : (if a0 = 25 then (some true) else (if a0 = 26 then (some true) else (if a0 = 29 then (some true) else (some (a0 == 30))))) = some r := h
  clear h
  by_cases c2 : a0 = 25
  · rw [if_pos c2] at H
    have c2b0 : (a0 == 25) = true := beq_iff_eq.mpr c2
    have c2b1 : (a0 != 25) = false := bne_eq_false_iff_eq.mpr c2
    clear c2
    obtain rfl := Option.some.inj H
    go_enter Try.func7, Try.ntmps7
    go_wp2
    go_ret
    exact ⟨by first | rfl | (simp; done) | (simp [*]; done), by repeat (first | exact Drawn0.refl _ | apply Drawn0.step)⟩
  · rw [if_neg c2] at H
    have c2b0 : (a0 == 25) = false := beq_eq_false_iff_ne.mpr c2
    have c2b1 : (a0 != 25) = true := bne_iff_ne.mpr c2
    by_cases c3 : a0 = 26
    · rw [if_pos c3] at H
      have c3b0 : (a0 == 26) = true := beq_iff_eq.mpr c3
      have c3b1 : (a0 != 26) = false := bne_eq_false_iff_eq.mpr c3
      clear c3
      obtain rfl := Option.some.inj H
      go_enter Try.func7, Try.ntmps7
      go_wp2
      go_ret
      exact ⟨by first | rfl | (simp; done) | (simp [*]; done), by repeat (first | exact Drawn0.refl _ | apply Drawn0.step)⟩
    · rw [if_neg c3] at H
      have c3b0 : (a0 == 26) = false := beq_eq_false_iff_ne.mpr c3
      have c3b1 : (a0 != 26) = true := bne_iff_ne.mpr c3
      by_cases c4 : a0 = 29
      · rw [if_pos c4] at H
        have c4b0 : (a0 == 29) = true := beq_iff_eq.mpr c4
        have c4b1 : (a0 != 29) = false := bne_eq_false_iff_eq.mpr c4
        clear c4
        obtain rfl := Option.some.inj H
        go_enter Try.func7, Try.ntmps7
        go_wp2
        go_ret
        exact ⟨by first | rfl | (simp; done) | (simp [*]; done), by repeat (first | exact Drawn0.refl _ | apply Drawn0.step)⟩
      · rw [if_neg c4] at H
        have c4b0 : (a0 == 29) = false := beq_eq_false_iff_ne.mpr c4
        have c4b1 : (a0 != 29) = true := bne_iff_ne.mpr c4
        obtain rfl := Option.some.inj H
        go_enter Try.func7, Try.ntmps7
        go_wp2
        go_ret
        exact ⟨by first | rfl | (simp; done) | (simp [*]; done), by repeat (first | exact Drawn0.refl _ | apply Drawn0.step)⟩

-- NOT PRINTED: function 8 (ops_KindName)

/-! ### portageref13_word: function 12 -/
def portageref13_word.l0 : Nat → ByteArray → Int → Int → Int → Option (ByteArray)
  | 0, _, _, _, _ => none
  | k + 1, x0, x1, x5, x6 => if x6 < (x0.size : Int) then (if 0 ≤ x6 then (if (bt x0 x6) = 32 then (if x1 = 0 then (if 0 ≤ x5 then (if x5 ≤ x6 then (if x6 ≤ (x0.size : Int) then (some (x0.extract (x5 : Int).toNat (x6 : Int).toNat)) else (none)) else (none)) else (none)) else (portageref13_word.l0 k x0 (wrap64 (x1 - 1)) (wrap64 (x6 + 1)) (wrap64 (x6 + 1)))) else (portageref13_word.l0 k x0 x1 x5 (wrap64 (x6 + 1)))) else (none)) else (some (⟨#[]⟩ : ByteArray))
def portageref13_word.f (k : Nat) (a0 : ByteArray) (a1 : Int) : Option (ByteArray) := portageref13_word.l0 k a0 a1 0 0
theorem portageref13_word.mono_l : ∀ k, (∀ y0 y1 y2 y3, LeO (portageref13_word.l0 k y0 y1 y2 y3) (portageref13_word.l0 (k + 1) y0 y1 y2 y3))
  | 0 => fun _ _ _ _ r h => by simp [portageref13_word.l0] at h
  | k + 1 => by
    have ih0 := portageref13_word.mono_l k
    · intro y0 y1 y2 y3
      unfold portageref13_word.l0
      repeat' first
      | (with_reducible exact ih0 _ _ _ _)
      | (with_reducible exact LeO.refl _)
      | (with_reducible exact LeO.none _)
      | (with_reducible refine LeO.ite ?_ ?_)
      | (with_reducible refine LeO.bind ?_ (fun _ => ?_))
      | exact ih0 _ _ _ _
      | exact LeO.none _
      | refine LeO.ite ?_ ?_
      | refine LeO.bind ?_ (fun _ => ?_)
theorem portageref13_word.mono : ∀ a0 a1 k, LeO (portageref13_word.f k a0 a1) (portageref13_word.f (k + 1) a0 a1) := by
  intro a0 a1 k
  have ih0 := portageref13_word.mono_l k
  unfold portageref13_word.f
  repeat' first
      | (with_reducible exact ih0 _ _ _ _)
      | (with_reducible exact LeO.refl _)
      | (with_reducible exact LeO.none _)
      | (with_reducible refine LeO.ite ?_ ?_)
      | (with_reducible refine LeO.bind ?_ (fun _ => ?_))
      | exact ih0 _ _ _ _
      | exact LeO.none _
      | refine LeO.ite ?_ ?_
      | refine LeO.bind ?_ (fun _ => ?_)
set_option maxHeartbeats 8000000 in
set_option maxRecDepth 100000 in
theorem portageref13_word.calls (k : Nat) (a0 : ByteArray) (a1 : Int) (r : ByteArray) (w : World) (h : portageref13_word.f k a0 a1 = some r) :
    Calls Try.prog 12 #[.string a0, .int .i64 a1] w fun e w' => e = .returned (.string r) ∧ Drawn0 w w' := by
  have H : (portageref13_word.l0 k a0 a1 0 0) = some r := h
  clear h
  have H' := Aside0.mk H
  clear H
  go_enter Try.func12, Try.ntmps12
  go_wp2
  go_loopg [1, 5, 6] k (fun kq v1 v5 v6 w' => ∃ (x1_1 : Int) (x5_1 : Int) (x6_1 : Int), v1 = .int .i64 x1_1 ∧ v5 = .int .i64 x5_1 ∧ v6 = .int .i64 x6_1 ∧ Aside0 (portageref13_word.l0 kq a0 x1_1 x5_1 x6_1 = some r) ∧ Aside0 (kq ≤ k) ∧ Drawn0 w w')
  case atStart => exact ⟨(a1), (0), (0), (by first | rfl | (simp; done) | (simp [*]; done)), (by first | rfl | (simp; done) | (simp [*]; done)), (by first | rfl | (simp; done) | (simp [*]; done)), H', ⟨Nat.le_refl _⟩, by repeat (first | exact Drawn0.refl _ | apply Drawn0.step)⟩
  case round =>
    clear H'
    try clear c1
    try clear p2
    obtain ⟨x1_1, x5_1, x6_1, rfl, rfl, rfl, HA, HK1, ⟨m1, rfl⟩⟩ := hrel
    cases gk with
    | zero => exact absurd HA.out (by simp [portageref13_word.l0])
    | succ k1 =>
      have H := HA.out
      clear HA
      simp only [portageref13_word.l0] at H
      by_cases c3 : x6_1 < (a0.size : Int)
      · rw [if_pos c3] at H
        have c3b0 : decide (x6_1 < (a0.size : Int)) = true := decide_eq_true c3
        clear c3
        by_cases c4 : 0 ≤ x6_1
        · rw [if_pos c4] at H
          have c4b0 : decide (0 ≤ x6_1) = true := decide_eq_true c4
          clear c4
          by_cases c6 : (bt a0 x6_1) = 32
          · rw [if_pos c6] at H
            have c6b0 : ((bt a0 x6_1) == 32) = true := beq_iff_eq.mpr c6
            have c6b1 : ((bt a0 x6_1) != 32) = false := bne_eq_false_iff_eq.mpr c6
            clear c6
            by_cases c7 : x1_1 = 0
            · rw [if_pos c7] at H
              have c7b0 : (x1_1 == 0) = true := beq_iff_eq.mpr c7
              have c7b1 : (x1_1 != 0) = false := bne_eq_false_iff_eq.mpr c7
              clear c7
              by_cases c8 : 0 ≤ x5_1
              · rw [if_pos c8] at H
                have c8b0 := eq_true c8
                have c8b1 : decide (0 ≤ x5_1) = true := decide_eq_true c8
                clear c8
                by_cases c9 : x5_1 ≤ x6_1
                · rw [if_pos c9] at H
                  have c9b0 := eq_true c9
                  have c9b1 : decide (x5_1 ≤ x6_1) = true := decide_eq_true c9
                  clear c9
                  by_cases c10 : x6_1 ≤ (a0.size : Int)
                  · rw [if_pos c10] at H
                    have c10b0 := eq_true c10
                    have c10b1 : decide (x6_1 ≤ (a0.size : Int)) = true := decide_eq_true c10
                    clear c10
                    obtain rfl := Option.some.inj H
                    have p5 : 0 ≤ (x6_1 : Int) := of_decide_eq_true (by first | (with_reducible assumption) | assumption)
                    have q5 : x6_1 < (a0.size : Int) := of_decide_eq_true (by first | (with_reducible assumption) | assumption)
                    have hx5 := bt_at a0 x6_1
                    replace p5 := eq_true p5
                    replace q5 := eq_true q5
                    go_wp2
                    go_ret
                    exact ⟨by first | rfl | (simp; done) | (simp [*]; done), by repeat (first | exact Drawn0.refl _ | apply Drawn0.step)⟩
                  · rw [if_neg c10] at H
                    exact absurd H (by simp)
                · rw [if_neg c9] at H
                  exact absurd H (by simp)
              · rw [if_neg c8] at H
                exact absurd H (by simp)
            · rw [if_neg c7] at H
              have c7b0 : (x1_1 == 0) = false := beq_eq_false_iff_ne.mpr c7
              have c7b1 : (x1_1 != 0) = true := bne_iff_ne.mpr c7
              have H' := Aside0.mk H
              clear H
              have p5 : 0 ≤ (x6_1 : Int) := of_decide_eq_true (by first | (with_reducible assumption) | assumption)
              have q5 : x6_1 < (a0.size : Int) := of_decide_eq_true (by first | (with_reducible assumption) | assumption)
              have hx5 := bt_at a0 x6_1
              replace p5 := eq_true p5
              replace q5 := eq_true q5
              go_wp2
              go_roundg k1
              case measure => have := HK1.out; omega
              case rel => exact ⟨(wrap64 (x1_1 - 1)), (wrap64 (x6_1 + 1)), (wrap64 (x6_1 + 1)), (by first | rfl | (simp; done) | (simp [*]; done)), (by first | rfl | (simp; done) | (simp [*]; done)), (by first | rfl | (simp; done) | (simp [*]; done)), H', ⟨by have := HK1.out; omega⟩, by repeat (first | exact Drawn0.refl _ | apply Drawn0.step)⟩
          · rw [if_neg c6] at H
            have c6b0 : ((bt a0 x6_1) == 32) = false := beq_eq_false_iff_ne.mpr c6
            have c6b1 : ((bt a0 x6_1) != 32) = true := bne_iff_ne.mpr c6
            have H' := Aside0.mk H
            clear H
            have p5 : 0 ≤ (x6_1 : Int) := of_decide_eq_true (by first | (with_reducible assumption) | assumption)
            have q5 : x6_1 < (a0.size : Int) := of_decide_eq_true (by first | (with_reducible assumption) | assumption)
            have hx5 := bt_at a0 x6_1
            replace p5 := eq_true p5
            replace q5 := eq_true q5
            go_wp2
            go_roundg k1
            case measure => have := HK1.out; omega
            case rel => exact ⟨(x1_1), (x5_1), (wrap64 (x6_1 + 1)), (by first | rfl | (simp; done) | (simp [*]; done)), (by first | rfl | (simp; done) | (simp [*]; done)), (by first | rfl | (simp; done) | (simp [*]; done)), H', ⟨by have := HK1.out; omega⟩, by repeat (first | exact Drawn0.refl _ | apply Drawn0.step)⟩
        · rw [if_neg c4] at H
          exact absurd H (by simp)
      · rw [if_neg c3] at H
        have c3b0 : decide (x6_1 < (a0.size : Int)) = false := decide_eq_false c3
        clear c3
        obtain rfl := Option.some.inj H
        go_wp2
        go_ret
        exact ⟨by first | rfl | (simp; done) | (simp [*]; done), by repeat (first | exact Drawn0.refl _ | apply Drawn0.step)⟩

/-! ### portageref13_KindName: function 9 -/
def portageref13_KindName.f (k : Nat) (a0 : Int) : Option (ByteArray) := (portageref13_word.f k (⟨#[110, 105, 108, 32, 98, 111, 111, 108, 32, 105, 110, 116, 32, 114, 101, 97, 108, 32, 116, 101, 120, 116, 32, 102, 117, 110, 99, 32, 97, 114, 114, 97, 121, 32, 114, 101, 99, 111, 114, 100, 32, 98, 111, 117, 110, 100, 32, 99, 104, 97, 110, 32]⟩ : ByteArray) a0).bind fun t101 => (some t101)
theorem portageref13_KindName.mono : ∀ a0 k, LeO (portageref13_KindName.f k a0) (portageref13_KindName.f (k + 1) a0) := by
  intro a0 k
  unfold portageref13_KindName.f
  repeat' first
      | (with_reducible exact portageref13_word.mono _ _ _)
      | (with_reducible exact LeO.refl _)
      | (with_reducible exact LeO.none _)
      | (with_reducible refine LeO.ite ?_ ?_)
      | (with_reducible refine LeO.bind ?_ (fun _ => ?_))
      | exact portageref13_word.mono _ _ _
      | exact LeO.none _
      | refine LeO.ite ?_ ?_
      | refine LeO.bind ?_ (fun _ => ?_)
set_option maxHeartbeats 8000000 in
set_option maxRecDepth 100000 in
theorem portageref13_KindName.calls (k : Nat) (a0 : Int) (r : ByteArray) (w : World) (h : portageref13_KindName.f k a0 = some r) :
    Calls Try.prog 9 #[.int .i64 a0] w fun e w' => e = .returned (.string r) ∧ Drawn0 w w' := by
  have H : ((portageref13_word.f k (⟨#[110, 105, 108, 32, 98, 111, 111, 108, 32, 105, 110, 116, 32, 114, 101, 97, 108, 32, 116, 101, 120, 116, 32, 102, 117, 110, 99, 32, 97, 114, 114, 97, 121, 32, 114, 101, 99, 111, 114, 100, 32, 98, 111, 117, 110, 100, 32, 99, 104, 97, 110, 32]⟩ : ByteArray) a0).bind fun t101 => (some t101)) = some r := h
  clear h
  replace H := Option.bind_eq_some_iff.mp H
  obtain ⟨t101, A20, H⟩ := H
  replace H : (some t101) = some r := H
  have A2 := Aside0.mk A20
  clear A20
  obtain rfl := Option.some.inj H
  go_enter Try.func9, Try.ntmps9
  go_wp2_with (first | ((with_reducible refine gate_callee (f := 12) rfl ?_); refine goesL_ (some 4) rfl rfl Try.func12 (by kernel_rfl) rfl #[.string (⟨#[110, 105, 108, 32, 98, 111, 111, 108, 32, 105, 110, 116, 32, 114, 101, 97, 108, 32, 116, 101, 120, 116, 32, 102, 117, 110, 99, 32, 97, 114, 114, 97, 121, 32, 114, 101, 99, 111, 114, 100, 32, 98, 111, 117, 110, 100, 32, 99, 104, 97, 110, 32]⟩ : ByteArray), .int .i64 a0] rfl (by (try simp only [List.map_toArray, List.map_cons, List.map_nil]); first | done | rfl | (simp only [List.length_drop, List.length_take]; rfl)) ?_; (with_reducible refine (portageref13_word.calls k (⟨#[110, 105, 108, 32, 98, 111, 111, 108, 32, 105, 110, 116, 32, 114, 101, 97, 108, 32, 116, 101, 120, 116, 32, 102, 117, 110, 99, 32, 97, 114, 114, 97, 121, 32, 114, 101, 99, 111, 114, 100, 32, 98, 111, 117, 110, 100, 32, 99, 104, 97, 110, 32]⟩ : ByteArray) a0 t101 _ A2.out).mono ?_); rintro e w' ⟨rfl, ⟨nd, rfl⟩⟩; refine ⟨_, rfl, ?_⟩))
  go_ret
  exact ⟨by first | rfl | (simp; done) | (simp [*]; done), by repeat (first | exact Drawn0.refl _ | apply Drawn0.step)⟩

-- NOT PRINTED: function 10 (ops_TrapName)

/-! ### portageref13_TrapName: function 11 -/
def portageref13_TrapName.f (k : Nat) (a0 : Int) : Option (ByteArray) := (portageref13_word.f k (⟨#[116, 121, 112, 101, 32, 100, 105, 118, 105, 100, 101, 32, 105, 110, 100, 101, 120, 32, 107, 101, 121, 32, 97, 114, 105, 116, 121, 32, 100, 101, 101, 112, 32, 99, 108, 111, 115, 101, 100, 32, 114, 97, 110, 103, 101, 32, 102, 111, 114, 109, 32, 102, 105, 98, 101, 114, 115, 32]⟩ : ByteArray) (wrap64 (a0 - 1))).bind fun t102 => (some t102)
theorem portageref13_TrapName.mono : ∀ a0 k, LeO (portageref13_TrapName.f k a0) (portageref13_TrapName.f (k + 1) a0) := by
  intro a0 k
  unfold portageref13_TrapName.f
  repeat' first
      | (with_reducible exact portageref13_word.mono _ _ _)
      | (with_reducible exact LeO.refl _)
      | (with_reducible exact LeO.none _)
      | (with_reducible refine LeO.ite ?_ ?_)
      | (with_reducible refine LeO.bind ?_ (fun _ => ?_))
      | exact portageref13_word.mono _ _ _
      | exact LeO.none _
      | refine LeO.ite ?_ ?_
      | refine LeO.bind ?_ (fun _ => ?_)
set_option maxHeartbeats 8000000 in
set_option maxRecDepth 100000 in
theorem portageref13_TrapName.calls (k : Nat) (a0 : Int) (r : ByteArray) (w : World) (h : portageref13_TrapName.f k a0 = some r) :
    Calls Try.prog 11 #[.int .i64 a0] w fun e w' => e = .returned (.string r) ∧ Drawn0 w w' := by
  have H : ((portageref13_word.f k (⟨#[116, 121, 112, 101, 32, 100, 105, 118, 105, 100, 101, 32, 105, 110, 100, 101, 120, 32, 107, 101, 121, 32, 97, 114, 105, 116, 121, 32, 100, 101, 101, 112, 32, 99, 108, 111, 115, 101, 100, 32, 114, 97, 110, 103, 101, 32, 102, 111, 114, 109, 32, 102, 105, 98, 101, 114, 115, 32]⟩ : ByteArray) (wrap64 (a0 - 1))).bind fun t102 => (some t102)) = some r := h
  clear h
  replace H := Option.bind_eq_some_iff.mp H
  obtain ⟨t102, A20, H⟩ := H
  replace H : (some t102) = some r := H
  have A2 := Aside0.mk A20
  clear A20
  obtain rfl := Option.some.inj H
  go_enter Try.func11, Try.ntmps11
  go_wp2_with (first | ((with_reducible refine gate_callee (f := 12) rfl ?_); refine goesL_ (some 5) rfl rfl Try.func12 (by kernel_rfl) rfl #[.string (⟨#[116, 121, 112, 101, 32, 100, 105, 118, 105, 100, 101, 32, 105, 110, 100, 101, 120, 32, 107, 101, 121, 32, 97, 114, 105, 116, 121, 32, 100, 101, 101, 112, 32, 99, 108, 111, 115, 101, 100, 32, 114, 97, 110, 103, 101, 32, 102, 111, 114, 109, 32, 102, 105, 98, 101, 114, 115, 32]⟩ : ByteArray), .int .i64 (wrap64 (a0 - 1))] rfl (by (try simp only [List.map_toArray, List.map_cons, List.map_nil]); first | done | rfl | (simp only [List.length_drop, List.length_take]; rfl)) ?_; (with_reducible refine (portageref13_word.calls k (⟨#[116, 121, 112, 101, 32, 100, 105, 118, 105, 100, 101, 32, 105, 110, 100, 101, 120, 32, 107, 101, 121, 32, 97, 114, 105, 116, 121, 32, 100, 101, 101, 112, 32, 99, 108, 111, 115, 101, 100, 32, 114, 97, 110, 103, 101, 32, 102, 111, 114, 109, 32, 102, 105, 98, 101, 114, 115, 32]⟩ : ByteArray) (wrap64 (a0 - 1)) t102 _ A2.out).mono ?_); rintro e w' ⟨rfl, ⟨nd, rfl⟩⟩; refine ⟨_, rfl, ?_⟩))
  go_ret
  exact ⟨by first | rfl | (simp; done) | (simp [*]; done), by repeat (first | exact Drawn0.refl _ | apply Drawn0.step)⟩

-- NOT PRINTED: function 3 (portagelaw13_OpsKinds)

end Go.Proofs.Ytoaomnlgjniljaa.POpsKinds
