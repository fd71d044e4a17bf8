/-
  The walk of OpsBits. (Printed by wip/tools/ops_Bits.py.)
-/
import Derived.Test.YtkeneiahhmbojaaGreatDoorApp
import Derived.Test.YtkeneiahhmbojaaGreatDoorBl
namespace Go.Proofs.YtkeneiahhmbojaaGreatDoor
open Go.RowKit Go.MapKept
open Go.Proofs.YtkeneiahhmbojaaGreatDoorW.PrintWords Go.Proofs.YtkeneiahhmbojaaGreatDoorW.PrintMore

theorem app2_is {k a b R R' : Int} (h : R' = R) (hA : App2 k a b 2 R 0 true) : App2 k a b 2 R' 0 true := h ▸ hA
theorem app1_is {k A a R R' : Int} (h : R' = R) (hA : App1 k A a 2 R 0 true) : App1 k A a 2 R' 0 true := h ▸ hA
theorem pick_calls (k n : Int) (hn : 0 < n) (hn2 : n ≤ 64) (w : World) :
    Calls Tryz.prog 10 #[.int .i64 k, .int .i64 n] w fun e w' => e = .returned (.int .i64 (k % n)) ∧ w = w' := by
  obtain ⟨r, hr⟩ : ∃ r, r = Int.tmod k n := ⟨_, rfl⟩
  have hw : Int.tmod k n = r := hr.symm
  have hs := Int.tmod_add_mul_tdiv k n
  have hlo := Int.lt_tmod_of_pos k hn
  have hhi := Int.tmod_lt_of_pos k hn
  rw [hw] at hs hlo hhi
  have p0 : decide (n < 1) = false := decide_eq_false (by omega)
  by_cases hneg : r < 0
  · have d0 : decide (r < 0) = true := decide_eq_true hneg
    have e1 : r + n = k % n := by
      have : k = r + n + n * (Int.tdiv k n - 1) := by rw [Int.mul_sub]; omega
      rw [this, Int.add_mul_emod_self_left, Int.emod_eq_of_lt (by omega) (by omega)]
    have HE := Aside0.mk e1
    clear hr hs e1
    go_enter Tryz.func10, Tryz.ntmps10
    go_wp2_with fail
    go_ret
    exact ⟨by rw [← HE.out]; rfl, rfl⟩
  · have d0 : decide (r < 0) = false := decide_eq_false hneg
    have e1 : r = k % n := by
      have : k = r + n * (Int.tdiv k n) := by omega
      rw [this, Int.add_mul_emod_self_left, Int.emod_eq_of_lt (by omega) (by omega)]
    have HE := Aside0.mk e1
    clear hr hs e1
    go_enter Tryz.func10, Tryz.ntmps10
    go_wp2_with fail
    go_ret
    exact ⟨by rw [← HE.out]; rfl, rfl⟩
set_option maxRecDepth 100000 in
set_option maxHeartbeats 4000000 in
theorem bits_walk (a b n k : Int) (a0 : -9223372036854775808 ≤ a) (a1 : a ≤ 9223372036854775807) (b0 : -9223372036854775808 ≤ b) (b1 : b ≤ 9223372036854775807) (w : World) :
    Calls Tryz.prog 4 #[.int .i64 a, .int .i64 b, .int .i64 n, .int .i64 k] w fun e w' => e = .returned (.bool true) ∧ Below w.heap.size w w' := by
  obtain ⟨nt, h1⟩ : ∃ x, x = -1 - b := ⟨_, rfl⟩
  obtain ⟨an, h2⟩ : ∃ x, x = bits .and .i64 a nt := ⟨_, rfl⟩
  obtain ⟨orr, h3⟩ : ∃ x, x = bits .or .i64 a b := ⟨_, rfl⟩
  obtain ⟨both, h4⟩ : ∃ x, x = bits .and .i64 a b := ⟨_, rfl⟩
  obtain ⟨rest, h5⟩ : ∃ x, x = bits .andNot .i64 orr both := ⟨_, rfl⟩
  obtain ⟨sum, h6⟩ : ∃ x, x = wrap64 (orr + both) := ⟨_, rfl⟩
  obtain ⟨m, hm⟩ : ∃ m : Nat, n % 64 = (m : Int) := ⟨(n % 64).toNat, by omega⟩
  have hm64 : m < 64 := by omega
  obtain ⟨power, h7⟩ : ∃ x, x = wrap64 (1 * 2 ^ m) := ⟨_, rfl⟩
  obtain ⟨up, h8⟩ : ∃ x, x = wrap64 (a * 2 ^ m) := ⟨_, rfl⟩
  obtain ⟨down, h9⟩ : ∃ x, x = a / 2 ^ m := ⟨_, rfl⟩
  obtain ⟨low, h10⟩ : ∃ x, x = a % 2 ^ m := ⟨_, rfl⟩
  obtain ⟨back, h11⟩ : ∃ x, x = a - low := ⟨_, rfl⟩
  obtain ⟨q1, q2, q3, q4, q5⟩ := back_low a m hm64 a0 a1
  rw [← h10] at q1 q2 q3 q4
  rw [← h9] at q1 q5
  rw [← h11] at q1 q2
  have hms := min_shift hm64
  have HNot := Aside0.mk (show nt = bits .xor .i64 (-1) b by rw [h1]; exact (bits_not b b0 b1).symm)
  have HAnd := Aside0.mk h2
  have HBic := Aside0.mk (show an = bits .andNot .i64 a b by rw [h2, h1]; exact and_bic a b b0 b1)
  have HOr := Aside0.mk h3
  have HBoth := Aside0.mk h4
  have HRest := Aside0.mk h5
  have HXor := Aside0.mk (show rest = bits .xor .i64 a b by rw [h5, h3, h4]; exact rest_xor a b)
  have HSum := Aside0.mk h6
  have HPlain := Aside0.mk (show sum = wrap64 (a + b) by rw [h6, h3, h4]; exact or_and a b)
  have HPick := Aside0.mk hm
  have HPow := Aside0.mk (show power = wrap64 (1 * 2 ^ min (IntKind.u64.wrap (m : Int)).toNat 64) by rw [hms]; exact h7)
  have HUp := Aside0.mk (show up = wrap64 (a * 2 ^ min (IntKind.u64.wrap (m : Int)).toNat 64) by rw [hms]; exact h8)
  have HTimes := Aside0.mk (show up = wrap64 (a * power) by rw [h8, h7]; exact (times_up a m).symm)
  have HDown := Aside0.mk (show down = a / 2 ^ min (IntKind.u64.wrap (m : Int)).toNat 64 by rw [hms]; exact h9)
  have HBack := Aside0.mk (show back = wrap64 (down * 2 ^ min (IntKind.u64.wrap (m : Int)).toNat 64) by rw [hms]; exact q1.symm)
  have HLow := Aside0.mk (show low = wrap64 (a - back) from q2.symm)
  have HL := Aside0.mk (show 0 ≤ low ∧ low < 2 ^ m from ⟨q3, q4⟩)
  have HS := Aside0.mk q5
  have HA := Aside0.mk (And.intro a0 a1)
  have e1 : (an != an) = false := by simp
  have e2 : (rest != rest) = false := by simp
  have e3 : (sum != sum) = false := by simp
  have e4 : (up != up) = false := by simp
  clear h1 h2 h3 h4 h5 h6 hm h7 h8 h9 h10 h11 q1 q2 q3 q4 q5 hms a0 a1 b0 b1
  have hm0 : (0 : Int) ≤ (m : Int) := by omega
  go_enter Tryz.func4, Tryz.ntmps4
  go_wp2_with fail
  refine (alone_val 21 0 b nt (app1_is HNot.out (app_not b)) _).mono ?_
  rintro e w1 ⟨rfl, hb⟩
  have HB1 := Aside0.mk (hb)
  clear hb
  go_wp2_with fail
  refine (on_val 18 a nt an (app2_is HAnd.out (app_and a nt)) _).mono ?_
  rintro e w2 ⟨rfl, hb⟩
  have HB2 := Aside0.mk (HB1.out.trans (hb.mono HB1.out.size))
  clear hb
  go_wp2_with fail
  refine (on_val 66 a b an (app2_is HBic.out (app_bic a b)) _).mono ?_
  rintro e w3 ⟨rfl, hb⟩
  have HB3 := Aside0.mk (HB2.out.trans (hb.mono HB2.out.size))
  clear hb
  go_wp2_with fail
  refine (on_val 19 a b orr (app2_is HOr.out (app_or a b)) _).mono ?_
  rintro e w4 ⟨rfl, hb⟩
  have HB4 := Aside0.mk (HB3.out.trans (hb.mono HB3.out.size))
  clear hb
  go_wp2_with fail
  refine (on_val 18 a b both (app2_is HBoth.out (app_and a b)) _).mono ?_
  rintro e w5 ⟨rfl, hb⟩
  have HB5 := Aside0.mk (HB4.out.trans (hb.mono HB4.out.size))
  clear hb
  go_wp2_with fail
  refine (on_val 66 orr both rest (app2_is HRest.out (app_bic orr both)) _).mono ?_
  rintro e w6 ⟨rfl, hb⟩
  have HB6 := Aside0.mk (HB5.out.trans (hb.mono HB5.out.size))
  clear hb
  go_wp2_with fail
  refine (on_val 20 a b rest (app2_is HXor.out (app_xor a b)) _).mono ?_
  rintro e w7 ⟨rfl, hb⟩
  have HB7 := Aside0.mk (HB6.out.trans (hb.mono HB6.out.size))
  clear hb
  go_wp2_with fail
  refine (on_val 12 orr both sum (app2_is HSum.out (app_add orr both)) _).mono ?_
  rintro e w8 ⟨rfl, hb⟩
  have HB8 := Aside0.mk (HB7.out.trans (hb.mono HB7.out.size))
  clear hb
  go_wp2_with fail
  refine (on_val 12 a b sum (app2_is HPlain.out (app_add a b)) _).mono ?_
  rintro e w9 ⟨rfl, hb⟩
  have HB9 := Aside0.mk (HB8.out.trans (hb.mono HB8.out.size))
  clear hb
  clear HNot HAnd HBic HOr HBoth HRest HXor HSum HPlain
  go_wp2_with fail
  refine (pick_calls n 64 (by decide) (by decide) _).mono ?_
  rintro e w' ⟨he, rfl⟩
  rw [HPick.out] at he
  subst he
  go_wp2_with fail
  refine (on_val 22 1 m power (app2_is HPow.out (app_shl 1 m (by omega))) _).mono ?_
  rintro e w10 ⟨rfl, hb⟩
  have HB10 := Aside0.mk (HB9.out.trans (hb.mono HB9.out.size))
  clear hb
  go_wp2_with fail
  refine (on_val 22 a m up (app2_is HUp.out (app_shl a m (by omega))) _).mono ?_
  rintro e w11 ⟨rfl, hb⟩
  have HB11 := Aside0.mk (HB10.out.trans (hb.mono HB10.out.size))
  clear hb
  go_wp2_with fail
  refine (on_val 14 a power up (app2_is HTimes.out (app_mul a power)) _).mono ?_
  rintro e w12 ⟨rfl, hb⟩
  have HB12 := Aside0.mk (HB11.out.trans (hb.mono HB11.out.size))
  clear hb
  go_wp2_with fail
  refine (on_val 23 a m down (app2_is HDown.out (app_shr a m (by omega))) _).mono ?_
  rintro e w13 ⟨rfl, hb⟩
  have HB13 := Aside0.mk (HB12.out.trans (hb.mono HB12.out.size))
  clear hb
  go_wp2_with fail
  refine (on_val 22 down m back (app2_is HBack.out (app_shl down m (by omega))) _).mono ?_
  rintro e w14 ⟨rfl, hb⟩
  have HB14 := Aside0.mk (HB13.out.trans (hb.mono HB13.out.size))
  clear hb
  go_wp2_with fail
  refine (on_val 13 a back low (app2_is HLow.out (app_sub a back)) _).mono ?_
  rintro e w15 ⟨rfl, hb⟩
  have HB15 := Aside0.mk (HB14.out.trans (hb.mono HB14.out.size))
  clear hb
  clear HPick HPow HUp HTimes HDown HBack HLow
  have hu : decide (IntKind.u64.wrap (2 ^ m) ≤ IntKind.u64.wrap low) = false := by
    have hp := pow_le hm64
    have hl := HL.out
    apply decide_eq_false
    rw [IntWalk.u64_in _ (by omega), IntWalk.u64_in _ (by omega)]
    omega
  have hsplit : (down < 0 ∧ a < 0) ∨ (¬ down < 0 ∧ ¬ a < 0) := by
    have hs := HS.out
    by_cases ha : a < 0
    · rw [decide_eq_true ha] at hs
      exact .inl ⟨of_decide_eq_true hs, ha⟩
    · rw [decide_eq_false ha] at hs
      exact .inr ⟨of_decide_eq_false hs, ha⟩
  have HPk := Aside0.mk (show k % 3 = 0 ∨ k % 3 = 1 ∨ k % 3 = 2 by omega)
  rcases hsplit with ⟨x1, x2⟩ | ⟨x1, x2⟩
  · have y1 : decide (down < 0) = true := decide_eq_true x1
    have y2 : decide (a < 0) = true := decide_eq_true x2
    clear x1 x2
    go_upto_region 23 with (fail)
    clear hu y1 y2
    go_wp2_with fail
    refine (pick_calls k 3 (by decide) (by decide) _).mono ?_
    rintro e w' ⟨he, rfl⟩
    rcases HPk.out with hk | hk | hk
    · rw [hk] at he
      subst he
      obtain ⟨one, g1⟩ : ∃ x, x = wrap64 (IntKind.i8.wrap a) := ⟨_, rfl⟩
      obtain ⟨high, g2⟩ : ∃ x, x = wrap64 (a * 2 ^ min (IntKind.u64.wrap 56).toNat 64) := ⟨_, rfl⟩
      have hp2 : (2 : Int) ^ min (IntKind.u64.wrap 56).toNat 64 = 72057594037927936 := by decide
      have G1 := Aside0.mk g1
      have G2 := Aside0.mk g2
      have G3 := Aside0.mk (show one = wrap64 (IntKind.i8.wrap one) by rw [g1]; exact (ext8 a).1.symm)
      have G4 := Aside0.mk (show one = high / 2 ^ min (IntKind.u64.wrap 56).toNat 64 by rw [g1, g2, hp2]; exact (ext8 a).2.symm)
      have hoo : (one == one) = true := by simp
      clear g1 g2 hp2
      go_wp2_with fail
      refine (alone_val 24 8 a one (app1_is G1.out (app_ext8 a)) _).mono ?_
      rintro e w16 ⟨rfl, hb⟩
      have HB16 := Aside0.mk (HB15.out.trans (hb.mono HB15.out.size))
      clear hb
      go_wp2_with fail
      refine (alone_val 24 8 one one (app1_is G3.out (app_ext8 one)) _).mono ?_
      rintro e w17 ⟨rfl, hb⟩
      have HB17 := Aside0.mk (HB16.out.trans (hb.mono HB16.out.size))
      clear hb
      go_wp2_with fail
      refine (on_val 22 a 56 high (app2_is G2.out (app_shl a 56 (by omega))) _).mono ?_
      rintro e w18 ⟨rfl, hb⟩
      have HB18 := Aside0.mk (HB17.out.trans (hb.mono HB17.out.size))
      clear hb
      go_wp2_with fail
      refine (on_val 23 high 56 one (app2_is G4.out (app_shr high 56 (by omega))) _).mono ?_
      rintro e w19 ⟨rfl, hb⟩
      have HB19 := Aside0.mk (HB18.out.trans (hb.mono HB18.out.size))
      clear hb
      go_wp2_with fail
      go_ret
      exact ⟨rfl, HB19.out⟩
    · rw [hk] at he
      subst he
      obtain ⟨one, g1⟩ : ∃ x, x = wrap64 (IntKind.i16.wrap a) := ⟨_, rfl⟩
      obtain ⟨high, g2⟩ : ∃ x, x = wrap64 (a * 2 ^ min (IntKind.u64.wrap 48).toNat 64) := ⟨_, rfl⟩
      have hp2 : (2 : Int) ^ min (IntKind.u64.wrap 48).toNat 64 = 281474976710656 := by decide
      have G1 := Aside0.mk g1
      have G2 := Aside0.mk g2
      have G3 := Aside0.mk (show one = wrap64 (IntKind.i16.wrap one) by rw [g1]; exact (ext16 a).1.symm)
      have G4 := Aside0.mk (show one = high / 2 ^ min (IntKind.u64.wrap 48).toNat 64 by rw [g1, g2, hp2]; exact (ext16 a).2.symm)
      have hoo : (one == one) = true := by simp
      clear g1 g2 hp2
      go_wp2_with fail
      refine (alone_val 24 16 a one (app1_is G1.out (app_ext16 a)) _).mono ?_
      rintro e w16 ⟨rfl, hb⟩
      have HB16 := Aside0.mk (HB15.out.trans (hb.mono HB15.out.size))
      clear hb
      go_wp2_with fail
      refine (alone_val 24 16 one one (app1_is G3.out (app_ext16 one)) _).mono ?_
      rintro e w17 ⟨rfl, hb⟩
      have HB17 := Aside0.mk (HB16.out.trans (hb.mono HB16.out.size))
      clear hb
      go_wp2_with fail
      refine (on_val 22 a 48 high (app2_is G2.out (app_shl a 48 (by omega))) _).mono ?_
      rintro e w18 ⟨rfl, hb⟩
      have HB18 := Aside0.mk (HB17.out.trans (hb.mono HB17.out.size))
      clear hb
      go_wp2_with fail
      refine (on_val 23 high 48 one (app2_is G4.out (app_shr high 48 (by omega))) _).mono ?_
      rintro e w19 ⟨rfl, hb⟩
      have HB19 := Aside0.mk (HB18.out.trans (hb.mono HB18.out.size))
      clear hb
      go_wp2_with fail
      go_ret
      exact ⟨rfl, HB19.out⟩
    · rw [hk] at he
      subst he
      obtain ⟨one, g1⟩ : ∃ x, x = wrap64 (wrap32 a) := ⟨_, rfl⟩
      obtain ⟨high, g2⟩ : ∃ x, x = wrap64 (a * 2 ^ min (IntKind.u64.wrap 32).toNat 64) := ⟨_, rfl⟩
      have hp2 : (2 : Int) ^ min (IntKind.u64.wrap 32).toNat 64 = 4294967296 := by decide
      have G1 := Aside0.mk g1
      have G2 := Aside0.mk g2
      have G3 := Aside0.mk (show one = wrap64 (wrap32 one) by rw [g1]; exact (ext32 a).1.symm)
      have G4 := Aside0.mk (show one = high / 2 ^ min (IntKind.u64.wrap 32).toNat 64 by rw [g1, g2, hp2]; exact (ext32 a).2.symm)
      have hoo : (one == one) = true := by simp
      clear g1 g2 hp2
      go_wp2_with fail
      refine (alone_val 24 32 a one (app1_is G1.out (app_ext32 a)) _).mono ?_
      rintro e w16 ⟨rfl, hb⟩
      have HB16 := Aside0.mk (HB15.out.trans (hb.mono HB15.out.size))
      clear hb
      go_wp2_with fail
      refine (alone_val 24 32 one one (app1_is G3.out (app_ext32 one)) _).mono ?_
      rintro e w17 ⟨rfl, hb⟩
      have HB17 := Aside0.mk (HB16.out.trans (hb.mono HB16.out.size))
      clear hb
      go_wp2_with fail
      refine (on_val 22 a 32 high (app2_is G2.out (app_shl a 32 (by omega))) _).mono ?_
      rintro e w18 ⟨rfl, hb⟩
      have HB18 := Aside0.mk (HB17.out.trans (hb.mono HB17.out.size))
      clear hb
      go_wp2_with fail
      refine (on_val 23 high 32 one (app2_is G4.out (app_shr high 32 (by omega))) _).mono ?_
      rintro e w19 ⟨rfl, hb⟩
      have HB19 := Aside0.mk (HB18.out.trans (hb.mono HB18.out.size))
      clear hb
      go_wp2_with fail
      go_ret
      exact ⟨rfl, HB19.out⟩
  · have y1 : decide (down < 0) = false := decide_eq_false x1
    have y2 : decide (a < 0) = false := decide_eq_false x2
    clear x1 x2
    go_upto_region 23 with (fail)
    clear hu y1 y2
    go_wp2_with fail
    refine (pick_calls k 3 (by decide) (by decide) _).mono ?_
    rintro e w' ⟨he, rfl⟩
    rcases HPk.out with hk | hk | hk
    · rw [hk] at he
      subst he
      obtain ⟨one, g1⟩ : ∃ x, x = wrap64 (IntKind.i8.wrap a) := ⟨_, rfl⟩
      obtain ⟨high, g2⟩ : ∃ x, x = wrap64 (a * 2 ^ min (IntKind.u64.wrap 56).toNat 64) := ⟨_, rfl⟩
      have hp2 : (2 : Int) ^ min (IntKind.u64.wrap 56).toNat 64 = 72057594037927936 := by decide
      have G1 := Aside0.mk g1
      have G2 := Aside0.mk g2
      have G3 := Aside0.mk (show one = wrap64 (IntKind.i8.wrap one) by rw [g1]; exact (ext8 a).1.symm)
      have G4 := Aside0.mk (show one = high / 2 ^ min (IntKind.u64.wrap 56).toNat 64 by rw [g1, g2, hp2]; exact (ext8 a).2.symm)
      have hoo : (one == one) = true := by simp
      clear g1 g2 hp2
      go_wp2_with fail
      refine (alone_val 24 8 a one (app1_is G1.out (app_ext8 a)) _).mono ?_
      rintro e w16 ⟨rfl, hb⟩
      have HB16 := Aside0.mk (HB15.out.trans (hb.mono HB15.out.size))
      clear hb
      go_wp2_with fail
      refine (alone_val 24 8 one one (app1_is G3.out (app_ext8 one)) _).mono ?_
      rintro e w17 ⟨rfl, hb⟩
      have HB17 := Aside0.mk (HB16.out.trans (hb.mono HB16.out.size))
      clear hb
      go_wp2_with fail
      refine (on_val 22 a 56 high (app2_is G2.out (app_shl a 56 (by omega))) _).mono ?_
      rintro e w18 ⟨rfl, hb⟩
      have HB18 := Aside0.mk (HB17.out.trans (hb.mono HB17.out.size))
      clear hb
      go_wp2_with fail
      refine (on_val 23 high 56 one (app2_is G4.out (app_shr high 56 (by omega))) _).mono ?_
      rintro e w19 ⟨rfl, hb⟩
      have HB19 := Aside0.mk (HB18.out.trans (hb.mono HB18.out.size))
      clear hb
      go_wp2_with fail
      go_ret
      exact ⟨rfl, HB19.out⟩
    · rw [hk] at he
      subst he
      obtain ⟨one, g1⟩ : ∃ x, x = wrap64 (IntKind.i16.wrap a) := ⟨_, rfl⟩
      obtain ⟨high, g2⟩ : ∃ x, x = wrap64 (a * 2 ^ min (IntKind.u64.wrap 48).toNat 64) := ⟨_, rfl⟩
      have hp2 : (2 : Int) ^ min (IntKind.u64.wrap 48).toNat 64 = 281474976710656 := by decide
      have G1 := Aside0.mk g1
      have G2 := Aside0.mk g2
      have G3 := Aside0.mk (show one = wrap64 (IntKind.i16.wrap one) by rw [g1]; exact (ext16 a).1.symm)
      have G4 := Aside0.mk (show one = high / 2 ^ min (IntKind.u64.wrap 48).toNat 64 by rw [g1, g2, hp2]; exact (ext16 a).2.symm)
      have hoo : (one == one) = true := by simp
      clear g1 g2 hp2
      go_wp2_with fail
      refine (alone_val 24 16 a one (app1_is G1.out (app_ext16 a)) _).mono ?_
      rintro e w16 ⟨rfl, hb⟩
      have HB16 := Aside0.mk (HB15.out.trans (hb.mono HB15.out.size))
      clear hb
      go_wp2_with fail
      refine (alone_val 24 16 one one (app1_is G3.out (app_ext16 one)) _).mono ?_
      rintro e w17 ⟨rfl, hb⟩
      have HB17 := Aside0.mk (HB16.out.trans (hb.mono HB16.out.size))
      clear hb
      go_wp2_with fail
      refine (on_val 22 a 48 high (app2_is G2.out (app_shl a 48 (by omega))) _).mono ?_
      rintro e w18 ⟨rfl, hb⟩
      have HB18 := Aside0.mk (HB17.out.trans (hb.mono HB17.out.size))
      clear hb
      go_wp2_with fail
      refine (on_val 23 high 48 one (app2_is G4.out (app_shr high 48 (by omega))) _).mono ?_
      rintro e w19 ⟨rfl, hb⟩
      have HB19 := Aside0.mk (HB18.out.trans (hb.mono HB18.out.size))
      clear hb
      go_wp2_with fail
      go_ret
      exact ⟨rfl, HB19.out⟩
    · rw [hk] at he
      subst he
      obtain ⟨one, g1⟩ : ∃ x, x = wrap64 (wrap32 a) := ⟨_, rfl⟩
      obtain ⟨high, g2⟩ : ∃ x, x = wrap64 (a * 2 ^ min (IntKind.u64.wrap 32).toNat 64) := ⟨_, rfl⟩
      have hp2 : (2 : Int) ^ min (IntKind.u64.wrap 32).toNat 64 = 4294967296 := by decide
      have G1 := Aside0.mk g1
      have G2 := Aside0.mk g2
      have G3 := Aside0.mk (show one = wrap64 (wrap32 one) by rw [g1]; exact (ext32 a).1.symm)
      have G4 := Aside0.mk (show one = high / 2 ^ min (IntKind.u64.wrap 32).toNat 64 by rw [g1, g2, hp2]; exact (ext32 a).2.symm)
      have hoo : (one == one) = true := by simp
      clear g1 g2 hp2
      go_wp2_with fail
      refine (alone_val 24 32 a one (app1_is G1.out (app_ext32 a)) _).mono ?_
      rintro e w16 ⟨rfl, hb⟩
      have HB16 := Aside0.mk (HB15.out.trans (hb.mono HB15.out.size))
      clear hb
      go_wp2_with fail
      refine (alone_val 24 32 one one (app1_is G3.out (app_ext32 one)) _).mono ?_
      rintro e w17 ⟨rfl, hb⟩
      have HB17 := Aside0.mk (HB16.out.trans (hb.mono HB16.out.size))
      clear hb
      go_wp2_with fail
      refine (on_val 22 a 32 high (app2_is G2.out (app_shl a 32 (by omega))) _).mono ?_
      rintro e w18 ⟨rfl, hb⟩
      have HB18 := Aside0.mk (HB17.out.trans (hb.mono HB17.out.size))
      clear hb
      go_wp2_with fail
      refine (on_val 23 high 32 one (app2_is G4.out (app_shr high 32 (by omega))) _).mono ?_
      rintro e w19 ⟨rfl, hb⟩
      have HB19 := Aside0.mk (HB18.out.trans (hb.mono HB18.out.size))
      clear hb
      go_wp2_with fail
      go_ret
      exact ⟨rfl, HB19.out⟩
end Go.Proofs.YtkeneiahhmbojaaGreatDoor
