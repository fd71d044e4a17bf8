/-
  A quoted text reads back as itself, by printing bytes alone; and the law's function AsmQuoted.
-/
import Derived.Test.YtppmlphmjmpcgaaUnq
namespace Go.Proofs.Ytppmlphmjmpcgaa
open Go.RowKit
open Go.Proofs.YtppmlphmjmpcgaaW.PrintWords Go.Proofs.YtppmlphmjmpcgaaW.PrintMore

theorem hd_worth (n : Nat) (h : n < 16) : Ytppmlphmjmpcgaa.hb ((hd n).toNat : Int) = true ∧ hv ((hd n).toNat : Int) = (n : Int) ∧ 32 ≤ (hd n).toNat ∧ (hd n).toNat ≤ 126 := by
  have all : ∀ a : Fin 16, Ytppmlphmjmpcgaa.hb ((hd a.val).toNat : Int) = true ∧ hv ((hd a.val).toNat : Int) = (a.val : Int) ∧ 32 ≤ (hd a.val).toNat ∧ (hd a.val).toNat ≤ 126 := by decide +kernel
  exact all ⟨n, h⟩
theorem step_qb (c : UInt8) (r : List UInt8) : step (qb c ++ r) = some (c, r) := by
  have hc := c.toNat_lt
  obtain ⟨q1, q2, q3, q4⟩ := qb_cases c
  by_cases h1 : c.toNat = 34 ∨ c.toNat = 92
  · rw [q1 h1, List.cons_append, List.cons_append, List.nil_append]
    unfold step
    simp only []
    rw [if_neg (by decide), if_neg (by decide), if_pos h1]
  · by_cases h2 : c.toNat = 10
    · rw [q2 h2, List.cons_append, List.cons_append, List.nil_append]
      unfold step
      simp only []
      rw [if_neg (by decide), if_neg (by decide), if_neg (by decide), if_pos (by decide)]
      have : c = 10 := UInt8.toNat_inj.1 h2
      rw [this]
    · by_cases h3 : c.toNat < 32 ∨ 126 < c.toNat
      · rw [q3 ⟨h1, h2, h3⟩, List.cons_append, List.cons_append, List.cons_append, List.cons_append, List.nil_append]
        unfold step
        simp only []
        obtain ⟨a1, a2, _⟩ := hd_worth (c.toNat / 16) (by omega)
        obtain ⟨b1, b2, _⟩ := hd_worth (c.toNat % 16) (by omega)
        rw [if_neg (by decide), if_neg (by decide), if_neg (by decide), if_neg (by decide), if_neg (by decide), if_pos (by rw [a1, b1]; rfl), a2, b2]
        have : UInt8.ofNat (16 * ((c.toNat / 16 : Nat) : Int) + ((c.toNat % 16 : Nat) : Int)).toNat = c := by
          apply UInt8.toNat_inj.1
          rw [UInt8.toNat_ofNat']
          omega
        rw [this]
      · rw [q4 ⟨h1, h2, h3⟩, List.cons_append, List.nil_append]
        unfold step
        simp only []
        rw [if_neg (by omega), if_pos (by omega)]
theorem un_qb (l : List UInt8) : un (l.flatMap qb) = some l := by
  induction l with
  | nil => exact un_nil
  | cons c l ih => rw [List.flatMap_cons, un_some (step_qb c _), ih]; rfl
theorem unq_between (l : List UInt8) : unq ([34] ++ l ++ [34]) = un l := by
  have h1 : Lib.trimPrefix ([34] ++ l ++ [34]) [34] = l ++ [34] := by simp [Lib.trimPrefix, Lib.hasPrefix]
  have h2 : Lib.hasSuffix (l ++ [34]) [34] = true := by
    unfold Lib.hasSuffix
    exact List.isSuffixOf_iff_suffix.2 (List.suffix_append _ _)
  unfold unq
  rw [if_pos (by simp [Lib.hasPrefix]), h1, if_pos h2]
  unfold Lib.trimSuffix
  rw [if_pos h2]
  simp
theorem unq_quote (l : List UInt8) : unq (quoteL l) = some l := by
  unfold quoteL
  rw [unq_between, un_qb]
theorem qb_print (c : UInt8) : ∀ x ∈ qb c, 32 ≤ x.toNat ∧ x.toNat ≤ 126 := by
  have hc := c.toNat_lt
  obtain ⟨q1, q2, q3, q4⟩ := qb_cases c
  by_cases h1 : c.toNat = 34 ∨ c.toNat = 92
  · rw [q1 h1]
    intro x hx
    simp only [List.mem_cons, List.not_mem_nil, or_false] at hx
    rcases hx with rfl | rfl
    · decide
    · omega
  · by_cases h2 : c.toNat = 10
    · rw [q2 h2]
      decide
    · by_cases h3 : c.toNat < 32 ∨ 126 < c.toNat
      · rw [q3 ⟨h1, h2, h3⟩]
        obtain ⟨_, _, a⟩ := hd_worth (c.toNat / 16) (by omega)
        obtain ⟨_, _, b⟩ := hd_worth (c.toNat % 16) (by omega)
        intro x hx
        simp only [List.mem_cons, List.not_mem_nil, or_false] at hx
        rcases hx with rfl | rfl | rfl | rfl
        · decide
        · decide
        · exact a
        · exact b
      · rw [q4 ⟨h1, h2, h3⟩]
        intro x hx
        simp only [List.mem_cons, List.not_mem_nil, or_false] at hx
        subst hx
        omega
theorem quote_print (l : List UInt8) : ∀ x ∈ quoteL l, 32 ≤ x.toNat ∧ x.toNat ≤ 126 := by
  intro x hx
  unfold quoteL at hx
  simp only [List.mem_append, List.mem_cons, List.not_mem_nil, or_false, List.mem_flatMap] at hx
  rcases hx with (rfl | ⟨c, _, hc⟩) | rfl
  · decide
  · exact qb_print c x hc
  · decide
theorem quote_length (l : List UInt8) : (quoteL l).length ≤ 4 * l.length + 2 := by
  unfold quoteL
  rw [List.length_append, List.length_append, List.length_singleton]
  have := flat_length l
  omega

set_option maxRecDepth 100000 in
set_option maxHeartbeats 4000000 in
theorem quoted_holds (s : ByteArray) (w : World) (hs : s.size ≤ 1048576) :
    Calls Try.prog 4 #[.string s] w fun e w' => e = .returned (.bool true) ∧ Below w.heap.size w w' := by
  have HLN := Aside0.mk (show s.data.toList.length = s.size by simp)
  have HS := Aside0.mk hs
  clear hs
  go_enter Try.func4, Try.ntmps4
  go_wp2_with fail
  refine (quote_any s _ HS.out).mono ?_
  rintro e w1 ⟨rfl, hb1⟩
  have HB1 := Aside0.mk hb1
  clear hb1
  obtain ⟨q, hq⟩ : ∃ q, q = quoteL s.data.toList := ⟨_, rfl⟩
  rw [← hq]
  rw [show (⟨q.toArray⟩ : ByteArray) = ofL q from rfl]
  have HQ := Aside0.mk (show unq q = some s.data.toList by rw [hq]; exact unq_quote _)
  have HP := Aside0.mk (show ∀ x ∈ q, 32 ≤ x.toNat ∧ x.toNat ≤ 126 by rw [hq]; exact quote_print _)
  have HL := Aside0.mk (show q.length ≤ 140737488355328 by
    have := quote_length s.data.toList
    have h2 := HLN.out
    have h3 := HS.out
    rw [hq]
    omega)
  clear hq
  obtain ⟨wo, rfl⟩ : ∃ wo : World, wo = w1 := ⟨_, rfl⟩
  go_wp2_with fail
  go_loopw [4] (fun i wr => ∃ k : Nat, i = .int .i64 (k : Int) ∧ k ≤ q.length ∧ wr = wo) (fun i _ => q.length - (intOf i).toNat)
  case atStart => exact ⟨0, rfl, Nat.zero_le _, rfl⟩
  case round =>
    obtain ⟨k, rfl, hk, rfl⟩ := hrel
    have hsz := ofL_size q
    by_cases hlt : k < q.length
    · have d0 : decide ((k : Int) < ((ofL q).size : Int)) = true := decide_eq_true (by omega)
      have hl2 : (k : Int) < ((ofL q).size : Int) := by omega
      have q0 := eq_true (show k < (ofL q).size by omega)
      have hx := bt_at (ofL q) (k : Int)
      simp only [Int.toNat_natCast] at hx
      have hkk := HL.out
      have hb : bt (ofL q) (k : Int) = (q[k].toNat : Int) := by rw [bt_ofL, List.getD_eq_getElem?_getD, List.getElem?_eq_getElem hlt]; rfl
      have hpr := HP.out q[k] (List.getElem_mem hlt)
      obtain ⟨c, hc⟩ : ∃ c, c = bt (ofL q) (k : Int) := ⟨_, rfl⟩
      rw [← hc] at hx hb
      have d1 : decide (c < 32) = false := decide_eq_false (by omega)
      have d2 : decide (126 < c) = false := decide_eq_false (by omega)
      clear hb hpr hc
      go_wp2_with fail
      go_roundw
      case rel => exact ⟨k + 1, by go_num, by omega, by first | rfl | trivial⟩
      case measure => first | (simp [intOf]; done) | (simp [intOf]; omega)
    · have d0 : decide ((k : Int) < ((ofL q).size : Int)) = false := decide_eq_false (by omega)
      have hl2 : ¬ (k : Int) < ((ofL q).size : Int) := by omega
      clear hsz
      go_wp2_with fail
      refine (unquote_any q _ HL.out).mono ?_
      rintro e w2 ⟨rfl, hb2⟩
      have HB2 := Aside0.mk (HB1.out.trans (hb2.mono HB1.out.size))
      clear hb2
      rw [HQ.out]
      rw [show ofL ((some s.data.toList).getD []) = s from ofL_self s]
      go_wp2_with fail
      go_ret
      exact ⟨by first | rfl | simp, HB2.out⟩
end Go.Proofs.Ytppmlphmjmpcgaa
