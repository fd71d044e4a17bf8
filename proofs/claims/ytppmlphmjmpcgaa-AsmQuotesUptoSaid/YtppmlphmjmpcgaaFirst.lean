/-
  What asm's hex and first answer.
-/
import Derived.Test.YtppmlphmjmpcgaaProg
import Derived.Test.YtppmlphmjmpcgaaWWords
import Derived.Test.YtppmlphmjmpcgaaWMore
import Derived.WalkLawsBesides
import Derived.WalkSpells
import Derived.Outline
namespace Go.Proofs.Ytppmlphmjmpcgaa
open Go.RowKit
open Go.Proofs.YtppmlphmjmpcgaaW.PrintWords Go.Proofs.YtppmlphmjmpcgaaW.PrintMore

/-- a hexadecimal digit's worth; and whether it is one -/
def hv (c : Int) : Int := if 48 ≤ c ∧ c ≤ 57 then c - 48 else if 97 ≤ c ∧ c ≤ 102 then c - 87 else if 65 ≤ c ∧ c ≤ 70 then c - 55 else 0
def hb (c : Int) : Bool := decide (48 ≤ c ∧ c ≤ 57 ∨ 97 ≤ c ∧ c ≤ 102 ∨ 65 ≤ c ∧ c ≤ 70)

theorem ret_hex {a a' : Int} {b b' : Bool} (h : a = a') (g : b = b') : Ending.returned (.tuple #[.int .u8 a, .bool b]) = .returned (.tuple #[.int .u8 a', .bool b']) := by rw [h, g]

theorem hex_calls (c : Int) (w : World) (h0 : 0 ≤ c) (h1 : c ≤ 255) :
    Calls Try.prog 20 #[.int .u8 c] w fun e w' => e = .returned (.tuple #[.int .u8 (hv c), .bool (hb c)]) ∧ w = w' := by
  have hcase : (48 ≤ c ∧ c ≤ 57) ∨ (97 ≤ c ∧ c ≤ 102) ∨ (65 ≤ c ∧ c ≤ 70) ∨ c < 48 ∨ (57 < c ∧ c < 65) ∨ (70 < c ∧ c < 97) ∨ 102 < c := by omega
  rcases hcase with h | h | h | h | h | h | h
  · have e1 : (c - 48) % 256 = hv c := by unfold hv; (repeat (first | rw [if_pos (by omega)] | rw [if_neg (by omega)])) <;> omega
    have e2 : true = hb c := by unfold hb; first | exact (decide_eq_true (by omega)).symm | exact (decide_eq_false (by omega)).symm
    have E := Aside0.mk (ret_hex e1 e2)
    have d0 : decide (48 ≤ c) = true := by first | exact decide_eq_true (by omega) | exact decide_eq_false (by omega)
    have d1 : decide (c ≤ 57) = true := by first | exact decide_eq_true (by omega) | exact decide_eq_false (by omega)
    have d2 : decide (97 ≤ c) = false := by first | exact decide_eq_true (by omega) | exact decide_eq_false (by omega)
    have d3 : decide (c ≤ 102) = true := by first | exact decide_eq_true (by omega) | exact decide_eq_false (by omega)
    have d4 : decide (65 ≤ c) = false := by first | exact decide_eq_true (by omega) | exact decide_eq_false (by omega)
    have d5 : decide (c ≤ 70) = true := by first | exact decide_eq_true (by omega) | exact decide_eq_false (by omega)
    clear h e1 e2
    go_enter Try.func20, Try.ntmps20
    go_wp2
    go_ret2
    exact ⟨E.out, rfl⟩
  · have e1 : ((c - 97) % 256 + 10) % 256 = hv c := by unfold hv; (repeat (first | rw [if_pos (by omega)] | rw [if_neg (by omega)])) <;> omega
    have e2 : true = hb c := by unfold hb; first | exact (decide_eq_true (by omega)).symm | exact (decide_eq_false (by omega)).symm
    have E := Aside0.mk (ret_hex e1 e2)
    have d0 : decide (48 ≤ c) = true := by first | exact decide_eq_true (by omega) | exact decide_eq_false (by omega)
    have d1 : decide (c ≤ 57) = false := by first | exact decide_eq_true (by omega) | exact decide_eq_false (by omega)
    have d2 : decide (97 ≤ c) = true := by first | exact decide_eq_true (by omega) | exact decide_eq_false (by omega)
    have d3 : decide (c ≤ 102) = true := by first | exact decide_eq_true (by omega) | exact decide_eq_false (by omega)
    have d4 : decide (65 ≤ c) = true := by first | exact decide_eq_true (by omega) | exact decide_eq_false (by omega)
    have d5 : decide (c ≤ 70) = false := by first | exact decide_eq_true (by omega) | exact decide_eq_false (by omega)
    clear h e1 e2
    go_enter Try.func20, Try.ntmps20
    go_wp2
    go_ret2
    exact ⟨E.out, rfl⟩
  · have e1 : ((c - 65) % 256 + 10) % 256 = hv c := by unfold hv; (repeat (first | rw [if_pos (by omega)] | rw [if_neg (by omega)])) <;> omega
    have e2 : true = hb c := by unfold hb; first | exact (decide_eq_true (by omega)).symm | exact (decide_eq_false (by omega)).symm
    have E := Aside0.mk (ret_hex e1 e2)
    have d0 : decide (48 ≤ c) = true := by first | exact decide_eq_true (by omega) | exact decide_eq_false (by omega)
    have d1 : decide (c ≤ 57) = false := by first | exact decide_eq_true (by omega) | exact decide_eq_false (by omega)
    have d2 : decide (97 ≤ c) = false := by first | exact decide_eq_true (by omega) | exact decide_eq_false (by omega)
    have d3 : decide (c ≤ 102) = true := by first | exact decide_eq_true (by omega) | exact decide_eq_false (by omega)
    have d4 : decide (65 ≤ c) = true := by first | exact decide_eq_true (by omega) | exact decide_eq_false (by omega)
    have d5 : decide (c ≤ 70) = true := by first | exact decide_eq_true (by omega) | exact decide_eq_false (by omega)
    clear h e1 e2
    go_enter Try.func20, Try.ntmps20
    go_wp2
    go_ret2
    exact ⟨E.out, rfl⟩
  · have e1 : (0 : Int) = hv c := by unfold hv; (repeat (first | rw [if_pos (by omega)] | rw [if_neg (by omega)])) <;> omega
    have e2 : false = hb c := by unfold hb; first | exact (decide_eq_true (by omega)).symm | exact (decide_eq_false (by omega)).symm
    have E := Aside0.mk (ret_hex e1 e2)
    have d0 : decide (48 ≤ c) = false := by first | exact decide_eq_true (by omega) | exact decide_eq_false (by omega)
    have d1 : decide (c ≤ 57) = true := by first | exact decide_eq_true (by omega) | exact decide_eq_false (by omega)
    have d2 : decide (97 ≤ c) = false := by first | exact decide_eq_true (by omega) | exact decide_eq_false (by omega)
    have d3 : decide (c ≤ 102) = true := by first | exact decide_eq_true (by omega) | exact decide_eq_false (by omega)
    have d4 : decide (65 ≤ c) = false := by first | exact decide_eq_true (by omega) | exact decide_eq_false (by omega)
    have d5 : decide (c ≤ 70) = true := by first | exact decide_eq_true (by omega) | exact decide_eq_false (by omega)
    clear h e1 e2
    go_enter Try.func20, Try.ntmps20
    go_wp2
    go_ret2
    exact ⟨E.out, rfl⟩
  · have e1 : (0 : Int) = hv c := by unfold hv; (repeat (first | rw [if_pos (by omega)] | rw [if_neg (by omega)])) <;> omega
    have e2 : false = hb c := by unfold hb; first | exact (decide_eq_true (by omega)).symm | exact (decide_eq_false (by omega)).symm
    have E := Aside0.mk (ret_hex e1 e2)
    have d0 : decide (48 ≤ c) = true := by first | exact decide_eq_true (by omega) | exact decide_eq_false (by omega)
    have d1 : decide (c ≤ 57) = false := by first | exact decide_eq_true (by omega) | exact decide_eq_false (by omega)
    have d2 : decide (97 ≤ c) = false := by first | exact decide_eq_true (by omega) | exact decide_eq_false (by omega)
    have d3 : decide (c ≤ 102) = true := by first | exact decide_eq_true (by omega) | exact decide_eq_false (by omega)
    have d4 : decide (65 ≤ c) = false := by first | exact decide_eq_true (by omega) | exact decide_eq_false (by omega)
    have d5 : decide (c ≤ 70) = true := by first | exact decide_eq_true (by omega) | exact decide_eq_false (by omega)
    clear h e1 e2
    go_enter Try.func20, Try.ntmps20
    go_wp2
    go_ret2
    exact ⟨E.out, rfl⟩
  · have e1 : (0 : Int) = hv c := by unfold hv; (repeat (first | rw [if_pos (by omega)] | rw [if_neg (by omega)])) <;> omega
    have e2 : false = hb c := by unfold hb; first | exact (decide_eq_true (by omega)).symm | exact (decide_eq_false (by omega)).symm
    have E := Aside0.mk (ret_hex e1 e2)
    have d0 : decide (48 ≤ c) = true := by first | exact decide_eq_true (by omega) | exact decide_eq_false (by omega)
    have d1 : decide (c ≤ 57) = false := by first | exact decide_eq_true (by omega) | exact decide_eq_false (by omega)
    have d2 : decide (97 ≤ c) = false := by first | exact decide_eq_true (by omega) | exact decide_eq_false (by omega)
    have d3 : decide (c ≤ 102) = true := by first | exact decide_eq_true (by omega) | exact decide_eq_false (by omega)
    have d4 : decide (65 ≤ c) = true := by first | exact decide_eq_true (by omega) | exact decide_eq_false (by omega)
    have d5 : decide (c ≤ 70) = false := by first | exact decide_eq_true (by omega) | exact decide_eq_false (by omega)
    clear h e1 e2
    go_enter Try.func20, Try.ntmps20
    go_wp2
    go_ret2
    exact ⟨E.out, rfl⟩
  · have e1 : (0 : Int) = hv c := by unfold hv; (repeat (first | rw [if_pos (by omega)] | rw [if_neg (by omega)])) <;> omega
    have e2 : false = hb c := by unfold hb; first | exact (decide_eq_true (by omega)).symm | exact (decide_eq_false (by omega)).symm
    have E := Aside0.mk (ret_hex e1 e2)
    have d0 : decide (48 ≤ c) = true := by first | exact decide_eq_true (by omega) | exact decide_eq_false (by omega)
    have d1 : decide (c ≤ 57) = false := by first | exact decide_eq_true (by omega) | exact decide_eq_false (by omega)
    have d2 : decide (97 ≤ c) = true := by first | exact decide_eq_true (by omega) | exact decide_eq_false (by omega)
    have d3 : decide (c ≤ 102) = false := by first | exact decide_eq_true (by omega) | exact decide_eq_false (by omega)
    have d4 : decide (65 ≤ c) = true := by first | exact decide_eq_true (by omega) | exact decide_eq_false (by omega)
    have d5 : decide (c ≤ 70) = false := by first | exact decide_eq_true (by omega) | exact decide_eq_false (by omega)
    clear h e1 e2
    go_enter Try.func20, Try.ntmps20
    go_wp2
    go_ret2
    exact ⟨E.out, rfl⟩

def IsFirst (c : Int) (r : ByteArray) (w : World) (e : Ending) (w' : World) : Prop := e = .returned (.tuple #[.int .u8 c, .string r, .bool true]) ∧ Drawn0 w w'
def NoFirst (w : World) (e : Ending) (w' : World) : Prop := (∃ (c : Int) (r : ByteArray), e = .returned (.tuple #[.int .u8 c, .string r, .bool false])) ∧ Drawn0 w w'

theorem first_stop (s : ByteArray) (w : World) (h : 0 < s.size) (h0 : bt s 0 = 34 ∨ bt s 0 = 10) : Calls Try.prog 12 #[.string s] w (NoFirst w) := by
  have p0 := eq_true (show (0 : Int) < (s.size : Int) by omega)
  have q0 := eq_true h
  have x0 : ∀ h : 0 < s.size, ((s[0]'h).toNat : Int) = bt s 0 := bt_at s 0
  rcases h0 with h0 | h0
  · have d0 : (bt s 0 == 34) = true := beq_iff_eq.2 h0
    clear h0 h
    go_enter Try.func12, Try.ntmps12
    go_wp2
    go_ret3
    exact ⟨⟨0, ⟨#[]⟩, rfl⟩, Drawn0.refl _⟩
  · have d0 : (bt s 0 == 34) = false := beq_eq_false_iff_ne.2 (by omega)
    have d1 : (bt s 0 == 10) = true := beq_iff_eq.2 h0
    clear h0 h
    go_enter Try.func12, Try.ntmps12
    go_wp2
    go_ret3
    exact ⟨⟨0, ⟨#[]⟩, rfl⟩, Drawn0.refl _⟩
theorem first_plain (s : ByteArray) (w : World) (h : 0 < s.size) (h0 : bt s 0 ≠ 34) (h1 : bt s 0 ≠ 10) (h2 : bt s 0 ≠ 92) : Calls Try.prog 12 #[.string s] w (IsFirst (bt s 0) (s.extract 1 s.size) w) := by
  have p0 := eq_true (show (0 : Int) < (s.size : Int) by omega)
  have p1 := eq_true (show (1 : Int) ≤ (s.size : Int) by omega)
  have q0 := eq_true h
  have x0 : ∀ h : 0 < s.size, ((s[0]'h).toNat : Int) = bt s 0 := bt_at s 0
  have d0 : (bt s 0 == 34) = false := beq_eq_false_iff_ne.2 h0
  have d1 : (bt s 0 == 10) = false := beq_eq_false_iff_ne.2 h1
  have d2 : (bt s 0 == 92) = false := beq_eq_false_iff_ne.2 h2
  clear h0 h1 h2 h
  go_enter Try.func12, Try.ntmps12
  go_wp2
  repeat (go_quiet (fail); try go_wp2)
  go_ret3
  exact ⟨rfl, ⟨⟨_, rfl⟩⟩⟩

theorem first_short (s : ByteArray) (w : World) (h0 : bt s 0 = 92) (h : s.size = 1) : Calls Try.prog 12 #[.string s] w (NoFirst w) := by
  have p0 := eq_true (show (0 : Int) < (s.size : Int) by omega)
  have q0 := eq_true (show 0 < s.size by omega)
  have x0 : ∀ h : 0 < s.size, ((s[0]'h).toNat : Int) = bt s 0 := bt_at s 0
  have d0 : (bt s 0 == 34) = false := beq_eq_false_iff_ne.2 (by omega)
  have d1 : (bt s 0 == 10) = false := beq_eq_false_iff_ne.2 (by omega)
  have d2 : (bt s 0 == 92) = true := beq_iff_eq.2 h0
  have d3 : decide ((s.size : Int) < 2) = true := decide_eq_true (by omega)
  have d4 : decide (s.size < 2) = true := decide_eq_true (by omega)
  clear h0 h
  go_enter Try.func12, Try.ntmps12
  go_wp2
  go_ret3
  exact ⟨⟨0, ⟨#[]⟩, rfl⟩, Drawn0.refl _⟩

theorem first_self (s : ByteArray) (w : World) (h0 : bt s 0 = 92) (h : 2 ≤ s.size) (h1 : bt s 1 = 34 ∨ bt s 1 = 92) : Calls Try.prog 12 #[.string s] w (IsFirst (bt s 1) (s.extract 2 s.size) w) := by
  have p0 := eq_true (show (0 : Int) < (s.size : Int) by omega)
  have q0 := eq_true (show 0 < s.size by omega)
  have x0 : ∀ h : 0 < s.size, ((s[0]'h).toNat : Int) = bt s 0 := bt_at s 0
  have d0 : (bt s 0 == 34) = false := beq_eq_false_iff_ne.2 (by omega)
  have d1 : (bt s 0 == 10) = false := beq_eq_false_iff_ne.2 (by omega)
  have d2 : (bt s 0 == 92) = true := beq_iff_eq.2 h0
  have d3 : decide ((s.size : Int) < 2) = false := decide_eq_false (by omega)
  have d4 : decide (s.size < 2) = false := decide_eq_false (by omega)
  have p1 := eq_true (show (1 : Int) < (s.size : Int) by omega)
  have p2 := eq_true (show (2 : Int) ≤ (s.size : Int) by omega)
  have q1 := eq_true (show 1 < s.size by omega)
  have x1 : ∀ h : 1 < s.size, ((s[1]'h).toNat : Int) = bt s 1 := bt_at s 1
  rcases h1 with h1 | h1
  · have e0 : (bt s 1 == 34) = true := beq_iff_eq.2 h1
    clear h0 h1 h
    go_enter Try.func12, Try.ntmps12
    go_wp2
    repeat (go_quiet (fail); try go_wp2)
    go_ret3
    exact ⟨rfl, ⟨⟨_, rfl⟩⟩⟩
  · have e0 : (bt s 1 == 34) = false := beq_eq_false_iff_ne.2 (by omega)
    have e1 : (bt s 1 == 92) = true := beq_iff_eq.2 h1
    clear h0 h1 h
    go_enter Try.func12, Try.ntmps12
    go_wp2
    repeat (go_quiet (fail); try go_wp2)
    go_ret3
    exact ⟨rfl, ⟨⟨_, rfl⟩⟩⟩
theorem first_line (s : ByteArray) (w : World) (h0 : bt s 0 = 92) (h : 2 ≤ s.size) (h1 : bt s 1 = 110) : Calls Try.prog 12 #[.string s] w (IsFirst 10 (s.extract 2 s.size) w) := by
  have p0 := eq_true (show (0 : Int) < (s.size : Int) by omega)
  have q0 := eq_true (show 0 < s.size by omega)
  have x0 : ∀ h : 0 < s.size, ((s[0]'h).toNat : Int) = bt s 0 := bt_at s 0
  have d0 : (bt s 0 == 34) = false := beq_eq_false_iff_ne.2 (by omega)
  have d1 : (bt s 0 == 10) = false := beq_eq_false_iff_ne.2 (by omega)
  have d2 : (bt s 0 == 92) = true := beq_iff_eq.2 h0
  have d3 : decide ((s.size : Int) < 2) = false := decide_eq_false (by omega)
  have d4 : decide (s.size < 2) = false := decide_eq_false (by omega)
  have p1 := eq_true (show (1 : Int) < (s.size : Int) by omega)
  have p2 := eq_true (show (2 : Int) ≤ (s.size : Int) by omega)
  have q1 := eq_true (show 1 < s.size by omega)
  have x1 : ∀ h : 1 < s.size, ((s[1]'h).toNat : Int) = bt s 1 := bt_at s 1
  have e0 : (bt s 1 == 34) = false := beq_eq_false_iff_ne.2 (by omega)
  have e1 : (bt s 1 == 92) = false := beq_eq_false_iff_ne.2 (by omega)
  have e2 : (bt s 1 == 110) = true := beq_iff_eq.2 h1
  clear h0 h1 h
  go_enter Try.func12, Try.ntmps12
  go_wp2
  repeat (go_quiet (fail); try go_wp2)
  go_ret3
  exact ⟨rfl, ⟨⟨_, rfl⟩⟩⟩
theorem first_other (s : ByteArray) (w : World) (h0 : bt s 0 = 92) (h : 2 ≤ s.size) (h1 : bt s 1 ≠ 34) (h2 : bt s 1 ≠ 92) (h3 : bt s 1 ≠ 110) (h4 : bt s 1 ≠ 120) : Calls Try.prog 12 #[.string s] w (NoFirst w) := by
  have p0 := eq_true (show (0 : Int) < (s.size : Int) by omega)
  have q0 := eq_true (show 0 < s.size by omega)
  have x0 : ∀ h : 0 < s.size, ((s[0]'h).toNat : Int) = bt s 0 := bt_at s 0
  have d0 : (bt s 0 == 34) = false := beq_eq_false_iff_ne.2 (by omega)
  have d1 : (bt s 0 == 10) = false := beq_eq_false_iff_ne.2 (by omega)
  have d2 : (bt s 0 == 92) = true := beq_iff_eq.2 h0
  have d3 : decide ((s.size : Int) < 2) = false := decide_eq_false (by omega)
  have d4 : decide (s.size < 2) = false := decide_eq_false (by omega)
  have p1 := eq_true (show (1 : Int) < (s.size : Int) by omega)
  have p2 := eq_true (show (2 : Int) ≤ (s.size : Int) by omega)
  have q1 := eq_true (show 1 < s.size by omega)
  have x1 : ∀ h : 1 < s.size, ((s[1]'h).toNat : Int) = bt s 1 := bt_at s 1
  have e0 : (bt s 1 == 34) = false := beq_eq_false_iff_ne.2 (by omega)
  have e1 : (bt s 1 == 92) = false := beq_eq_false_iff_ne.2 (by omega)
  have e2 : (bt s 1 == 110) = false := beq_eq_false_iff_ne.2 (by omega)
  have e3 : (bt s 1 == 120) = false := beq_eq_false_iff_ne.2 (by omega)
  clear h0 h1 h2 h3 h4 h
  go_enter Try.func12, Try.ntmps12
  go_wp2
  go_ret3
  exact ⟨⟨0, ⟨#[]⟩, rfl⟩, Drawn0.refl _⟩
theorem first_cut (s : ByteArray) (w : World) (h0 : bt s 0 = 92) (h : 2 ≤ s.size) (h1 : bt s 1 = 120) (h2 : s.size < 4) : Calls Try.prog 12 #[.string s] w (NoFirst w) := by
  have p0 := eq_true (show (0 : Int) < (s.size : Int) by omega)
  have q0 := eq_true (show 0 < s.size by omega)
  have x0 : ∀ h : 0 < s.size, ((s[0]'h).toNat : Int) = bt s 0 := bt_at s 0
  have d0 : (bt s 0 == 34) = false := beq_eq_false_iff_ne.2 (by omega)
  have d1 : (bt s 0 == 10) = false := beq_eq_false_iff_ne.2 (by omega)
  have d2 : (bt s 0 == 92) = true := beq_iff_eq.2 h0
  have d3 : decide ((s.size : Int) < 2) = false := decide_eq_false (by omega)
  have d4 : decide (s.size < 2) = false := decide_eq_false (by omega)
  have p1 := eq_true (show (1 : Int) < (s.size : Int) by omega)
  have p2 := eq_true (show (2 : Int) ≤ (s.size : Int) by omega)
  have q1 := eq_true (show 1 < s.size by omega)
  have x1 : ∀ h : 1 < s.size, ((s[1]'h).toNat : Int) = bt s 1 := bt_at s 1
  have e0 : (bt s 1 == 34) = false := beq_eq_false_iff_ne.2 (by omega)
  have e1 : (bt s 1 == 92) = false := beq_eq_false_iff_ne.2 (by omega)
  have e2 : (bt s 1 == 110) = false := beq_eq_false_iff_ne.2 (by omega)
  have e3 : (bt s 1 == 120) = true := beq_iff_eq.2 h1
  have d5 : decide ((4 : Int) ≤ (s.size : Int)) = false := decide_eq_false (by omega)
  have d6 : decide (4 ≤ s.size) = false := decide_eq_false (by omega)
  clear h0 h1 h2 h
  go_enter Try.func12, Try.ntmps12
  go_wp2
  go_ret3
  exact ⟨⟨0, ⟨#[]⟩, rfl⟩, Drawn0.refl _⟩

theorem hv_range (c : Int) (h0 : 0 ≤ c) (h1 : c ≤ 255) : 0 ≤ hv c ∧ hv c ≤ 15 := by
  unfold hv
  split
  · omega
  · split
    · omega
    · split <;> omega
theorem shor (h l : Int) (h0 : 0 ≤ h) (h1 : h ≤ 15) (l0 : 0 ≤ l) (l1 : l ≤ 15) : bits BinOp.or IntKind.u8 (h * 16) l = 16 * h + l := by
  have all : ∀ a : Fin 16, ∀ b : Fin 16, bits BinOp.or IntKind.u8 ((a.val : Int) * 16) (b.val : Int) = 16 * (a.val : Int) + (b.val : Int) := by decide +kernel
  obtain ⟨a, rfl⟩ := Int.eq_ofNat_of_zero_le h0
  obtain ⟨b, rfl⟩ := Int.eq_ofNat_of_zero_le l0
  exact all ⟨a, by omega⟩ ⟨b, by omega⟩
theorem ret_first {a a' : Int} {s : ByteArray} {b b' : Bool} (h : a = a') (g : b = b') : Ending.returned (.tuple #[.int .u8 a, .string s, .bool b]) = .returned (.tuple #[.int .u8 a', .string s, .bool b']) := by rw [h, g]
theorem first_hex (s : ByteArray) (w : World) (h0 : bt s 0 = 92) (h : 4 ≤ s.size) (h1 : bt s 1 = 120) :
    Calls Try.prog 12 #[.string s] w fun e w' => e = .returned (.tuple #[.int .u8 (16 * hv (bt s 2) + hv (bt s 3)), .string (s.extract 4 s.size), .bool (hb (bt s 2) && hb (bt s 3))]) ∧ Drawn0 w w' := by
  have p0 := eq_true (show (0 : Int) < (s.size : Int) by omega)
  have q0 := eq_true (show 0 < s.size by omega)
  have x0 : ∀ h : 0 < s.size, ((s[0]'h).toNat : Int) = bt s 0 := bt_at s 0
  have d0 : (bt s 0 == 34) = false := beq_eq_false_iff_ne.2 (by omega)
  have d1 : (bt s 0 == 10) = false := beq_eq_false_iff_ne.2 (by omega)
  have d2 : (bt s 0 == 92) = true := beq_iff_eq.2 h0
  have d3 : decide ((s.size : Int) < 2) = false := decide_eq_false (by omega)
  have d4 : decide (s.size < 2) = false := decide_eq_false (by omega)
  have p1 := eq_true (show (1 : Int) < (s.size : Int) by omega)
  have p2 := eq_true (show (2 : Int) ≤ (s.size : Int) by omega)
  have q1 := eq_true (show 1 < s.size by omega)
  have x1 : ∀ h : 1 < s.size, ((s[1]'h).toNat : Int) = bt s 1 := bt_at s 1
  have e0 : (bt s 1 == 34) = false := beq_eq_false_iff_ne.2 (by omega)
  have e1 : (bt s 1 == 92) = false := beq_eq_false_iff_ne.2 (by omega)
  have e2 : (bt s 1 == 110) = false := beq_eq_false_iff_ne.2 (by omega)
  have e3 : (bt s 1 == 120) = true := beq_iff_eq.2 h1
  have d5 : decide ((4 : Int) ≤ (s.size : Int)) = true := decide_eq_true (by omega)
  have d6 : decide (4 ≤ s.size) = true := decide_eq_true (by omega)
  have p4 := eq_true (show (2 : Int) < (s.size : Int) by omega)
  have p5 := eq_true (show (3 : Int) < (s.size : Int) by omega)
  have p6 := eq_true (show (4 : Int) ≤ (s.size : Int) by omega)
  have q4 := eq_true (show 2 < s.size by omega)
  have q5 := eq_true (show 3 < s.size by omega)
  have x2 : ∀ h : 2 < s.size, ((s[2]'h).toNat : Int) = bt s 2 := bt_at s 2
  have x3 : ∀ h : 3 < s.size, ((s[3]'h).toNat : Int) = bt s 3 := bt_at s 3
  have R2 := bt_range s 2
  have R3 := bt_range s 3
  have S2 := hv_range _ R2.1 R2.2
  have S3 := hv_range _ R3.1 R3.2
  obtain ⟨s20, s21⟩ := S2
  obtain ⟨s30, s31⟩ := S3
  have K := Aside0.mk (shor _ _ s20 s21 s30 s31)
  clear h0 h1 h
  go_enter Try.func12, Try.ntmps12
  go_wp2_with fail
  refine (hex_calls (bt s 2) _ R2.1 R2.2).mono ?_
  rintro e w1 ⟨rfl, rfl⟩
  go_wp2_with fail
  refine (hex_calls (bt s 3) _ R3.1 R3.2).mono ?_
  rintro e w1 ⟨rfl, rfl⟩
  obtain ⟨b2, hb2⟩ : ∃ b, b = hb (bt s 2) := ⟨_, rfl⟩
  obtain ⟨b3, hb3⟩ : ∃ b, b = hb (bt s 3) := ⟨_, rfl⟩
  rw [← hb2, ← hb3]
  have HB2 := Aside0.mk hb2
  have HB3 := Aside0.mk hb3
  clear hb2 hb3
  cases b2
  · go_wp2_with fail
    repeat (go_quiet (fail); try go_wp2)
    go_ret3
    exact ⟨ret_first K.out (by rw [← HB2.out]; rfl), ⟨⟨_, rfl⟩⟩⟩
  · go_wp2_with fail
    repeat (go_quiet (fail); try go_wp2)
    go_ret3
    exact ⟨ret_first K.out (by rw [← HB2.out, ← HB3.out]; rfl), ⟨⟨_, rfl⟩⟩⟩

end Go.Proofs.Ytppmlphmjmpcgaa
