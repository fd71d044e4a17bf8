/-
  The reference's one, by the plain step.
-/
import Derived.Test.YtppmlphmjmpcgaaRefHex
namespace Go.Proofs.Ytppmlphmjmpcgaa
set_option linter.unusedVariables false
open Go.RowKit
open Go.Proofs.YtppmlphmjmpcgaaW.PrintWords Go.Proofs.YtppmlphmjmpcgaaW.PrintMore

/-- the part from i up to e -/
def part (s : ByteArray) (i e : Nat) : List UInt8 := (s.data.toList.take e).drop i
theorem part_length (s : ByteArray) (i e : Nat) (h : e ≤ s.size) : (part s i e).length = e - i := by
  have : s.data.toList.length = s.size := by simp
  unfold part
  rw [List.length_drop, List.length_take]
  omega
theorem part_at (s : ByteArray) (i e k : Nat) (h : i + k < e) : bt s ((i : Int) + (k : Int)) = (((part s i e).getD k 0).toNat : Int) := by
  rw [show (i : Int) + (k : Int) = ((i + k : Nat) : Int) by omega, bt_of]
  unfold part
  rw [List.getD_eq_getElem?_getD, List.getD_eq_getElem?_getD, List.getElem?_drop, List.getElem?_take, if_pos h]
theorem part_drop (s : ByteArray) (i e k : Nat) : (part s i e).drop k = part s (i + k) e := by
  unfold part
  rw [List.drop_drop]

def OnePost (l : List UInt8) (w : World) (e : Ending) (w' : World) : Prop :=
  match step l with
  | some (c, r) => OneIs (c.toNat : Int) ((l.length - r.length : Nat) : Int) w e w'
  | none => OneIs 0 0 w e w'

theorem hb_at (c : UInt8) : 0 ≤ hv (c.toNat : Int) ∧ hv (c.toNat : Int) ≤ 15 := hv_range _ (by omega) (by have := c.toNat_lt; omega)

theorem one_step (s : ByteArray) (i e : Nat) (w : World) (ie : i < e) (es : e < s.size) (ss : s.size ≤ 140737488355328) :
    Calls Try.prog 9 #[.string s, .int .i64 (i : Int), .int .i64 (e : Int)] w (OnePost (part s i e) w) := by
  have hl := part_length s i e (by omega)
  have h0 : (0 : Int) ≤ (i : Int) := by omega
  have h1 : (i : Int) < (e : Int) := by omega
  have h2 : (e : Int) < (s.size : Int) := by omega
  have h3 : (s.size : Int) ≤ 140737488355328 := by omega
  have B := part_at s i e
  obtain ⟨l, hll⟩ : ∃ l, l = part s i e := ⟨_, rfl⟩
  rw [← hll] at hl B ⊢
  clear hll
  match l, hl, B with
  | [], hl, B => simp at hl; omega
  | c :: r, hl, B =>
    have b0 : bt s (i : Int) = (c.toNat : Int) := by have := B 0 (by omega); simpa using this
    rw [List.length_cons] at hl
    by_cases g1 : c.toNat = 34 ∨ c.toNat = 10
    · have e : step (c :: r) = none := by unfold step; simp only []; rw [if_pos g1]
      unfold OnePost
      rw [e]
      exact one_stop s i _ w h0 h1 h2 h3 (by omega)
    · by_cases g2 : c.toNat = 92
      · match r, hl, B with
        | [], hl, B =>
          have e : step [c] = none := by unfold step; simp only []; rw [if_neg g1, if_neg (by omega)]
          unfold OnePost
          rw [e]
          exact one_short s i _ w h0 h1 h2 h3 (by omega) (by simp only [List.length_nil] at hl; omega)
        | d :: q, hl, B =>
          rw [List.length_cons] at hl
          have b1 : bt s ((i : Int) + 1) = (d.toNat : Int) := by have := B 1 (by omega); simpa using this
          have k1 : (i : Int) + 1 < (e : Int) := by omega
          by_cases g3 : d.toNat = 34 ∨ d.toNat = 92
          · have e : step (c :: d :: q) = some (d, q) := by unfold step; simp only []; rw [if_neg g1, if_neg (by omega), if_pos g3]
            unfold OnePost
            rw [e]
            simp only []
            rw [show (((c :: d :: q).length - q.length : Nat) : Int) = 2 by simp only [List.length_cons]; omega, ← b1]
            rcases g3 with g3 | g3
            · exact one_self0 s i _ w h0 h1 h2 h3 (by omega) k1 (by omega)
            · exact one_self1 s i _ w h0 h1 h2 h3 (by omega) k1 (by omega)
          · by_cases g4 : d.toNat = 110
            · have e : step (c :: d :: q) = some (10, q) := by unfold step; simp only []; rw [if_neg g1, if_neg (by omega), if_neg g3, if_pos g4]
              unfold OnePost
              rw [e]
              simp only []
              rw [show (((c :: d :: q).length - q.length : Nat) : Int) = 2 by simp only [List.length_cons]; omega]
              exact one_line s i _ w h0 h1 h2 h3 (by omega) k1 (by omega)
            · by_cases g5 : d.toNat = 120
              · match q, hl, B with
                | [], hl, B =>
                  have e : step [c, d] = none := by unfold step; simp only []; rw [if_neg g1, if_neg (by omega), if_neg g3, if_neg g4, if_neg (by omega)]
                  unfold OnePost
                  rw [e]
                  exact one_cut s i _ w h0 h1 h2 h3 (by omega) k1 (by omega) (by simp only [List.length_nil] at hl; omega)
                | [a], hl, B =>
                  have e : step [c, d, a] = none := by unfold step; simp only []; rw [if_neg g1, if_neg (by omega), if_neg g3, if_neg g4, if_neg (by omega)]
                  unfold OnePost
                  rw [e]
                  exact one_cut s i _ w h0 h1 h2 h3 (by omega) k1 (by omega) (by simp only [List.length_nil, List.length_cons] at hl; omega)
                | a :: b :: z, hl, B =>
                  rw [List.length_cons, List.length_cons] at hl
                  have b2 : bt s ((i : Int) + 2) = (a.toNat : Int) := by have := B 2 (by omega); simpa using this
                  have b3 : bt s ((i : Int) + 3) = (b.toNat : Int) := by have := B 3 (by omega); simpa using this
                  have k3 : (i : Int) + 3 < (e : Int) := by omega
                  by_cases g6 : (Ytppmlphmjmpcgaa.hb (a.toNat : Int) && Ytppmlphmjmpcgaa.hb (b.toNat : Int)) = true
                  · have e : step (c :: d :: a :: b :: z) = some (UInt8.ofNat (16 * hv (a.toNat : Int) + hv (b.toNat : Int)).toNat, z) := by
                      unfold step; simp only []; rw [if_neg g1, if_neg (by omega), if_neg g3, if_neg g4, if_neg (by omega), if_pos g6]
                    obtain ⟨g7, g8⟩ := Bool.and_eq_true_iff.1 g6
                    unfold OnePost
                    rw [e]
                    simp only []
                    rw [hex_byte _ _ (hb_at a).1 (hb_at a).2 (hb_at b).1 (hb_at b).2]
                    rw [show (((c :: d :: a :: b :: z).length - z.length : Nat) : Int) = 4 by simp only [List.length_cons]; omega, ← b2, ← b3]
                    exact one_hex s i _ w h0 h1 h2 h3 (by omega) k1 (by omega) k3 (by rw [b2]; exact g7) (by rw [b3]; exact g8)
                  · have e : step (c :: d :: a :: b :: z) = none := by
                      unfold step; simp only []; rw [if_neg g1, if_neg (by omega), if_neg g3, if_neg g4, if_neg (by omega), if_neg g6]
                    unfold OnePost
                    rw [e]
                    cases g7 : Ytppmlphmjmpcgaa.hb (a.toNat : Int) with
                    | false => exact one_bad0 s i _ w h0 h1 h2 h3 (by omega) k1 (by omega) k3 (by rw [b2]; exact g7)
                    | true =>
                      cases g8 : Ytppmlphmjmpcgaa.hb (b.toNat : Int) with
                      | false => exact one_bad1 s i _ w h0 h1 h2 h3 (by omega) k1 (by omega) k3 (by rw [b2]; exact g7) (by rw [b3]; exact g8)
                      | true => exact absurd (by rw [g7, g8]; rfl) g6
              · have e : step (c :: d :: q) = none := by unfold step; simp only []; rw [if_neg g1, if_neg (by omega), if_neg g3, if_neg g4, if_pos (by omega)]
                unfold OnePost
                rw [e]
                exact one_other s i _ w h0 h1 h2 h3 (by omega) k1 (by omega) (by omega) (by omega) (by omega)
      · have e : step (c :: r) = some (c, r) := by unfold step; simp only []; rw [if_neg g1, if_pos g2]
        unfold OnePost
        rw [e]
        simp only []
        rw [show (((c :: r).length - r.length : Nat) : Int) = 1 by simp only [List.length_cons]; omega, ← b0]
        exact one_plain s i _ w h0 h1 h2 h3 (by omega) (by omega) (by omega)
end Go.Proofs.Ytppmlphmjmpcgaa
