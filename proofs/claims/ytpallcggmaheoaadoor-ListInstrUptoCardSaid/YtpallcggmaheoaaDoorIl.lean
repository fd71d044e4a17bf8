/-
  The reference's Int writes a number's decimal digits, a '-' ahead where it is below 0.
-/
import Derived.Test.YtpallcggmaheoaaDoorPi
import Derived.Lib.ItoaNum
import Derived.Test.YtpallcggmaheoaaDoorShelf
import Derived.Outline
namespace Go.Proofs.YtpallcggmaheoaaDoor
open Go.RowKit Go.Proofs.YtpallcggmaheoaaDoorW.PrintWords Go.Proofs.YtpallcggmaheoaaDoorW.PrintLast Go.Proofs.YtpallcggmaheoaaDoorW.PrintMore
open PListInstr

def ofL (l : List UInt8) : ByteArray := ⟨l.toArray⟩
theorem ofL_append (a b : List UInt8) : ofL a ++ ofL b = ofL (a ++ b) := by
  apply ByteArray.ext
  simp [ofL]
theorem ofL_size (l : List UInt8) : (ofL l).size = l.length := by simp [ofL, ByteArray.size]
theorem u64_id {n : Int} (h0 : 0 ≤ n) (h1 : n < 18446744073709551616) : IntKind.u64.wrap n = n := by
  rw [IntKind.wrap_u64]
  omega
/-- the digits ahead of the last one -/
def hiD (x : Nat) : List UInt8 := if x < 10 then [] else Lib.decDigits (x / 10)
theorem dec_hi (x : Nat) : Lib.decDigits x = hiD x ++ [UInt8.ofNat (48 + x % 10)] := by
  rw [Lib.decDigits]
  unfold hiD
  by_cases h : x < 10
  · rw [dif_pos h, if_pos h, Nat.mod_eq_of_lt h]
    rfl
  · rw [dif_neg h, if_neg h]
theorem one_digit (x : Nat) (hx : x < 18446744073709551616) : strOfNums ([(IntKind.u64.wrap (48 + (Int.tmod (x : Int) 10))) % 256] : List Int) = ofL [UInt8.ofNat (48 + x % 10)] := by
  have e : Int.tmod (x : Int) 10 = ((x % 10 : Nat) : Int) := by
    rw [Int.tmod_eq_emod_of_nonneg (by omega)]
    omega
  rw [e, u64_id (by omega) (by omega), show (48 + ((x % 10 : Nat) : Int)) % 256 = ((48 + x % 10 : Nat) : Int) by omega]
  rfl
theorem div_ten (x : Nat) (hx : x < 18446744073709551616) : IntKind.u64.wrap (Int.tdiv (x : Int) 10) = ((x / 10 : Nat) : Int) := by
  rw [Int.tdiv_eq_ediv_of_nonneg (by omega), u64_id (by omega) (by omega)]
  omega
theorem whole_l0 : ∀ (m fuel x i : Nat) (l : List UInt8), x < 10 ^ (m + 1) → x < 18446744073709551616 → i + m ≤ 20 → m < fuel → l.length + m ≤ 1000 →
    portageref04_whole.l0 fuel (x : Int) (ofL l) (i : Int) = some (ofL (hiD x ++ l)) := by
  intro m
  induction m with
  | zero =>
    intro fuel x i l hx hx2 hi hf hl
    match fuel, hf with
    | f + 1, _ =>
      rw [portageref04_whole.l0]
      have h10 : x < 10 := by simpa using hx
      rw [if_neg (show ¬ ((x : Int) ≥ 10) by omega)]
      unfold hiD
      rw [if_pos h10]
      split <;> rfl
  | succ m ih =>
    intro fuel x i l hx hx2 hi hf hl
    match fuel, hf with
    | f + 1, hf =>
      rw [portageref04_whole.l0]
      by_cases h10 : x < 10
      · rw [if_neg (show ¬ ((x : Int) ≥ 10) by omega)]
        unfold hiD
        rw [if_pos h10]
        split <;> rfl
      · rw [if_pos (show (i : Int) < 20 by omega), if_pos (show (x : Int) ≥ 10 by omega), div_ten x hx2]
        simp only [Option.bind_some]
        rw [one_digit (x / 10) (by omega), ofL_append, ofL_size, ofL_size]
        rw [if_pos (by simp only [List.length_singleton]; omega)]
        rw [show wrap64 ((i : Int) + 1) = ((i + 1 : Nat) : Int) by
          rw [← i64_w, IntKind.wrap_i64]
          omega]
        rw [ih f (x / 10) (i + 1) _ (by
          rw [Nat.pow_succ] at hx
          omega) (by omega) (by omega) (by omega) (by simp only [List.length_append, List.length_singleton]; omega)]
        rw [← List.append_assoc, ← dec_hi]
        conv => rhs; unfold hiD
        rw [if_neg h10]
theorem whole_is (x : Nat) (hx : x < 18446744073709551616) : portageref04_whole.f 21 (x : Int) = some (ofL (Lib.decDigits x)) := by
  unfold portageref04_whole.f
  rw [one_digit x hx, show (0 : Int) = ((0 : Nat) : Int) from rfl, whole_l0 19 21 x 0 _ (by omega) hx (by omega) (by omega) (by simp), ← dec_hi]
theorem hiD_len (m x : Nat) (h : x < 10 ^ (m + 1)) : (hiD x).length ≤ m := by
  induction m generalizing x with
  | zero => unfold hiD; rw [if_pos (by simpa using h)]; simp
  | succ m ih =>
    unfold hiD
    split
    · simp
    · rw [dec_hi, List.length_append, List.length_singleton]
      have := ih (x / 10) (by rw [Nat.pow_succ] at h; omega)
      omega
theorem dec_len (x : Nat) (hx : x < 18446744073709551616) : (Lib.decDigits x).length ≤ 20 := by
  rw [dec_hi, List.length_append, List.length_singleton]
  have := hiD_len 19 x (by omega)
  omega
theorem refInt_is (n : Int) (h0 : -9223372036854775808 ≤ n) (h1 : n ≤ 9223372036854775807) : portageref04_Int.f 21 n = some (ofL (Lib.itoa n)) := by
  unfold portageref04_Int.f Lib.itoa
  by_cases h : n < 0
  · rw [if_pos h, if_pos h]
    have e : IntKind.u64.wrap (-(IntKind.u64.wrap n)) = ((n.natAbs : Nat) : Int) := by
      rw [IntKind.wrap_u64, IntKind.wrap_u64]
      omega
    rw [e, whole_is n.natAbs (by omega)]
    simp only [Option.bind_some]
    rw [if_pos (by rw [ofL_size]; have := dec_len n.natAbs (by omega); omega)]
    rw [show (⟨#[45]⟩ : ByteArray) = ofL [45] from rfl, ofL_append]
    rfl
  · rw [if_neg h, if_neg h]
    have e : IntKind.u64.wrap n = ((n.toNat : Nat) : Int) := by
      rw [IntKind.wrap_u64]
      omega
    rw [e, whole_is n.toNat (by omega)]
    rfl
open Go.Sort
theorem below_grow {B : Nat} {w w' : World} (h : Below B w w') (hB : B ≤ w'.heap.size) (os : Array Obj) : Below B w (grow w' os) := by
  refine ⟨h.os, h.tape, h.output, ?_, fun k hk => ?_⟩
  · have := h.size
    show w.heap.size ≤ (w'.heap ++ os).size
    rw [Array.size_append]
    omega
  · have h1 := h.block k hk
    have h2 : (w'.heap ++ os)[k]? = w'.heap[k]? := Array.getElem?_append_left (by omega)
    exact h2.trans h1
theorem int_calls (n : Int) (h0 : -9223372036854775808 ≤ n) (h1 : n ≤ 9223372036854775807) (w : World) (htab : Lib.TabIs Tryd.prog w "internal/strconv.uint64pow10" .u64 Lib.pow10Tab) :
    Calls Tryd.prog 19 #[.int .i64 n] w fun e w' => e = .returned (.string (ofL (Lib.itoa n))) ∧ Below w.heap.size w w' := by
  have HC := Aside0.mk (Tryd.strconv_FormatInt_10 n h0 h1 w htab)
  clear h0 h1 htab
  go_enter Tryd.func19, Tryd.ntmps19
  go_wp2_with fail
  refine HC.out.mono ?_
  rintro e w1 ⟨rfl, k, os, rfl⟩
  rw [show (⟨(Lib.itoa n).toArray⟩ : ByteArray) = ofL (Lib.itoa n) from rfl]
  go_wp2_with fail
  go_ret
  exact ⟨rfl, below_grow (pw_below_drewN (Below.refl w.heap.size w) _) (pw_below_drewN (Below.refl w.heap.size w) _).size os⟩
theorem label_f (n : Int) (h0 : -9223372036854775808 ≤ n) (h1 : n ≤ 9223372036854775807) : portageref12_label.f 21 n = some (ofL (76 :: Lib.itoa n)) := by
  unfold portageref12_label.f portageref12_num.f
  rw [refInt_is n h0 h1]
  simp only [Option.bind_some]
  have hl : (Lib.itoa n).length ≤ 21 := by
    unfold Lib.itoa
    split
    · have := dec_len n.natAbs (by omega)
      simp
      omega
    · have := dec_len n.toNat (by omega)
      omega
  rw [if_pos (by rw [ofL_size]; omega)]
  congr 1
end Go.Proofs.YtpallcggmaheoaaDoor
