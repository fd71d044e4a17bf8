/-
  The walk of OpsRing. (Printed by wip/tools/ops_Ring.py.)
-/
import Derived.Test.YtkeneiahhmbojaaGreatDoorApp
import Derived.Test.YtkeneiahhmbojaaGreatDoorRl
namespace Go.Proofs.YtkeneiahhmbojaaGreatDoor
open Go.RowKit Go.MapKept
open Go.Proofs.YtkeneiahhmbojaaGreatDoorW.PrintWords Go.Proofs.YtkeneiahhmbojaaGreatDoorW.PrintMore

theorem app2_eq {k a b R R' : Int} (h : R' = R) (hA : App2 k a b 2 R 0 true) : App2 k a b 2 R' 0 true := h ▸ hA
theorem app1_eq {k A a R R' : Int} (h : R' = R) (hA : App1 k A a 2 R 0 true) : App1 k A a 2 R' 0 true := h ▸ hA
set_option maxRecDepth 100000 in
set_option maxHeartbeats 4000000 in
theorem ring_walk (a b c : Int) (a0 : -9223372036854775808 ≤ a) (a1 : a ≤ 9223372036854775807) (b0 : -9223372036854775808 ≤ b) (b1 : b ≤ 9223372036854775807) (w : World) :
    Calls Tryz.prog 3 #[.int .i64 a, .int .i64 b, .int .i64 c] w fun e w' => e = .returned (.bool true) ∧ Below w.heap.size w w' := by
  obtain ⟨less, h1⟩ : ∃ x, x = wrap64 (a - b) := ⟨_, rfl⟩
  obtain ⟨sum, h2⟩ : ∃ x, x = wrap64 (b + c) := ⟨_, rfl⟩
  obtain ⟨left, h3⟩ : ∃ x, x = wrap64 (a * sum) := ⟨_, rfl⟩
  obtain ⟨one, h4⟩ : ∃ x, x = wrap64 (a * b) := ⟨_, rfl⟩
  obtain ⟨two, h5⟩ : ∃ x, x = wrap64 (a * c) := ⟨_, rfl⟩
  obtain ⟨minus, h6⟩ : ∃ x, x = wrap64 (-a) := ⟨_, rfl⟩
  obtain ⟨nt, h7⟩ : ∃ x, x = -1 - a := ⟨_, rfl⟩
  have H1 := Aside0.mk h1
  have H2 := Aside0.mk h2
  have H3 := Aside0.mk h3
  have H4 := Aside0.mk h4
  have H5 := Aside0.mk h5
  have H6 := Aside0.mk h6
  have HBack := Aside0.mk (show a = wrap64 (less + b) by rw [h1]; exact (ring_back a b a0 a1).symm)
  have HRight := Aside0.mk (show left = wrap64 (one + two) by rw [h3, h4, h5, h2]; exact (ring_left a b c).symm)
  have HZero := Aside0.mk (show 0 = wrap64 (a + minus) by rw [h6]; exact (ring_zero a).symm)
  have HNot := Aside0.mk (show nt = bits .xor .i64 (-1) a by rw [h7]; exact (bits_not a a0 a1).symm)
  have HLow := Aside0.mk (show nt = wrap64 (minus - 1) by rw [h7, h6]; exact (ring_not a a0 a1).symm)
  have HUnit := Aside0.mk (show a = wrap64 (a * 1) by rw [Int.mul_one]; exact (wrap_in a0 a1).symm)
  have HA := Aside0.mk (And.intro a0 a1)
  have HBb := Aside0.mk (And.intro b0 b1)
  have haa : (a != a) = false := by simp
  have hll : (left != left) = false := by simp
  have hnn : (nt != nt) = false := by simp
  clear h1 h2 h3 h4 h5 h6 h7 a0 a1 b0 b1
  go_enter Tryz.func3, Tryz.ntmps3
  go_wp2_with fail
  refine (on_val 13 a b less (app2_eq H1.out (app_sub a b)) _).mono ?_
  rintro e w1 ⟨rfl, hb⟩
  have HB1 := Aside0.mk (hb)
  clear hb
  go_wp2_with fail
  refine (on_val 12 less b a (app2_eq HBack.out (app_add less b)) _).mono ?_
  rintro e w2 ⟨rfl, hb⟩
  have HB2 := Aside0.mk (HB1.out.trans (hb.mono HB1.out.size))
  clear hb
  go_wp2_with fail
  refine (on_val 12 b c sum (app2_eq H2.out (app_add b c)) _).mono ?_
  rintro e w3 ⟨rfl, hb⟩
  have HB3 := Aside0.mk (HB2.out.trans (hb.mono HB2.out.size))
  clear hb
  go_wp2_with fail
  refine (on_val 14 a sum left (app2_eq H3.out (app_mul a sum)) _).mono ?_
  rintro e w4 ⟨rfl, hb⟩
  have HB4 := Aside0.mk (HB3.out.trans (hb.mono HB3.out.size))
  clear hb
  go_wp2_with fail
  refine (on_val 14 a b one (app2_eq H4.out (app_mul a b)) _).mono ?_
  rintro e w5 ⟨rfl, hb⟩
  have HB5 := Aside0.mk (HB4.out.trans (hb.mono HB4.out.size))
  clear hb
  go_wp2_with fail
  refine (on_val 14 a c two (app2_eq H5.out (app_mul a c)) _).mono ?_
  rintro e w6 ⟨rfl, hb⟩
  have HB6 := Aside0.mk (HB5.out.trans (hb.mono HB5.out.size))
  clear hb
  go_wp2_with fail
  refine (on_val 12 one two left (app2_eq HRight.out (app_add one two)) _).mono ?_
  rintro e w7 ⟨rfl, hb⟩
  have HB7 := Aside0.mk (HB6.out.trans (hb.mono HB6.out.size))
  clear hb
  go_wp2_with fail
  refine (alone_val 17 0 a minus (app1_eq H6.out (app_neg a)) _).mono ?_
  rintro e w8 ⟨rfl, hb⟩
  have HB8 := Aside0.mk (HB7.out.trans (hb.mono HB7.out.size))
  clear hb
  go_wp2_with fail
  refine (on_val 12 a minus 0 (app2_eq HZero.out (app_add a minus)) _).mono ?_
  rintro e w9 ⟨rfl, hb⟩
  have HB9 := Aside0.mk (HB8.out.trans (hb.mono HB8.out.size))
  clear hb
  go_wp2_with fail
  refine (alone_val 21 0 a nt (app1_eq HNot.out (app_not a)) _).mono ?_
  rintro e w10 ⟨rfl, hb⟩
  have HB10 := Aside0.mk (HB9.out.trans (hb.mono HB9.out.size))
  clear hb
  go_wp2_with fail
  refine (on_val 13 minus 1 nt (app2_eq HLow.out (app_sub minus 1)) _).mono ?_
  rintro e w11 ⟨rfl, hb⟩
  have HB11 := Aside0.mk (HB10.out.trans (hb.mono HB10.out.size))
  clear hb
  go_wp2_with fail
  refine (on_val 14 a 1 a (app2_eq HUnit.out (app_mul a 1)) _).mono ?_
  rintro e w12 ⟨rfl, hb⟩
  have HB12 := Aside0.mk (HB11.out.trans (hb.mono HB11.out.size))
  clear hb
  clear H1 H2 H3 H4 H5 H6 HBack HRight HZero HNot HLow HUnit
  by_cases hz : b = 0
  · subst hz
    go_wp2_with fail
    refine (on_trap 15 a 0 2 (app_div0 a) _).mono ?_
    rintro e w13 ⟨rfl, hb⟩
    have HB13 := Aside0.mk (HB12.out.trans (hb.mono HB12.out.size))
    clear hb
    go_wp2_with fail
    refine (on_trap 16 a 0 2 (app_rem0 a) _).mono ?_
    rintro e w14 ⟨rfl, hb⟩
    have HB14 := Aside0.mk (HB13.out.trans (hb.mono HB13.out.size))
    clear hb
    go_wp2_with fail
    go_ret
    exact ⟨rfl, HB14.out⟩
  · have hbe : (b == 0) = false := by simp [hz]
    obtain ⟨q, h8⟩ : ∃ x, x = wrap64 (a.tdiv b) := ⟨_, rfl⟩
    obtain ⟨r, h9⟩ : ∃ x, x = a.tmod b := ⟨_, rfl⟩
    obtain ⟨most, h10⟩ : ∃ x, x = wrap64 (q * b) := ⟨_, rfl⟩
    have H8 := Aside0.mk h8
    have H9 := Aside0.mk h9
    have H10 := Aside0.mk h10
    have HAgain := Aside0.mk (show a = wrap64 (most + r) by rw [h10, h9, h8]; exact (ring_again a b HA.out.1 HA.out.2).symm)
    have habs := tmod_abs a b hz
    have hsgn := tmod_sign a b
    rw [← h9] at habs hsgn
    have HAbs := Aside0.mk habs
    have HSgn := Aside0.mk hsgn
    have HZ := Aside0.mk hz
    clear h8 h9 h10 habs hsgn hz
    go_wp2_with fail
    refine (on_val 15 a b q (app2_eq H8.out (app_div a b HZ.out)) _).mono ?_
    rintro e w13 ⟨rfl, hb⟩
    have HB13 := Aside0.mk (HB12.out.trans (hb.mono HB12.out.size))
    clear hb
    go_wp2_with fail
    refine (on_val 16 a b r (app2_eq H9.out (app_rem a b HZ.out)) _).mono ?_
    rintro e w14 ⟨rfl, hb⟩
    have HB14 := Aside0.mk (HB13.out.trans (hb.mono HB13.out.size))
    clear hb
    go_wp2_with fail
    refine (on_val 14 q b most (app2_eq H10.out (app_mul q b)) _).mono ?_
    rintro e w15 ⟨rfl, hb⟩
    have HB15 := Aside0.mk (HB14.out.trans (hb.mono HB14.out.size))
    clear hb
    go_wp2_with fail
    refine (on_val 12 most r a (app2_eq HAgain.out (app_add most r)) _).mono ?_
    rintro e w16 ⟨rfl, hb⟩
    have HB16 := Aside0.mk (HB15.out.trans (hb.mono HB15.out.size))
    clear hb
    clear H8 H9 H10 HAgain
    by_cases hmin : b = -9223372036854775808
    · have hbm : (b == -9223372036854775808) = true := by simp [hmin]
      clear hmin
      go_wp2_with fail
      go_ret
      exact ⟨rfl, HB16.out⟩
    · have hbm : (b == -9223372036854775808) = false := by simp [hmin]
      have habs := HAbs.out
      have hbd := HBb.out
      have hsg := HSgn.out
      have facts : ∀ S : Int, (if b < 0 then -b else b) = S → decide (-S < r) = true ∧ decide (r < S) = true ∧ wrap64 (-S) = -S := by
        intro S hS
        rw [hS] at habs
        refine ⟨decide_eq_true habs.1, decide_eq_true habs.2, wrap_in ?_ ?_⟩
        · rw [← hS]; split <;> omega
        · rw [← hS]; split <;> omega
      have sg : ((r == 0) = true) ∨ ((r == 0) = false ∧ (decide (r < 0) == decide (a < 0)) = true) := by
        by_cases h0 : r = 0
        · exact .inl (by simp [h0])
        · refine .inr ⟨by simp [h0], ?_⟩
          rcases hsg with h | h
          · exact absurd h h0
          · rw [h]; simp
      by_cases hs : b < 0
      · have hlt : decide (b < 0) = true := decide_eq_true hs
        have hw : wrap64 (-b) = -b := wrap_in (by omega) (by omega)
        obtain ⟨S, hS⟩ : ∃ S, S = -b := ⟨_, rfl⟩
        obtain ⟨g1, g2, g3⟩ := facts S (by rw [if_pos hs, hS])
        have hw' : wrap64 (-b) = S := by rw [hw, hS]
        clear facts habs hbd hsg hs hw hS hmin
        rcases sg with s1 | ⟨s1, s2⟩
        · go_wp2_with fail
          go_ret
          exact ⟨rfl, HB16.out⟩
        · go_wp2_with fail
          go_ret
          exact ⟨rfl, HB16.out⟩
      · have hlt : decide (b < 0) = false := decide_eq_false hs
        obtain ⟨g1, g2, g3⟩ := facts b (by rw [if_neg hs])
        clear facts habs hbd hsg hs hmin
        rcases sg with s1 | ⟨s1, s2⟩
        · go_wp2_with fail
          go_ret
          exact ⟨rfl, HB16.out⟩
        · go_wp2_with fail
          go_ret
          exact ⟨rfl, HB16.out⟩
end Go.Proofs.YtkeneiahhmbojaaGreatDoor
