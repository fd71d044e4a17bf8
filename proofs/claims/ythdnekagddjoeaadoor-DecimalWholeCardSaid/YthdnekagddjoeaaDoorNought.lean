/-
  The law's noughtless: what it leaves of a text that has something behind its sign.
-/
import Derived.Test.YthdnekagddjoeaaDoorWholeLaw
import Derived.Test.YthdnekagddjoeaaDoorParseRef
import Derived.Test.YthdnekagddjoeaaDoorParseWalk
import Derived.Outline
namespace Go.Proofs.YthdnekagddjoeaaDoor
set_option linter.unusedVariables false
open Go.RowKit Go.Proofs.YthdnekagddjoeaaDoorW.PrintWords Go.Proofs.YthdnekagddjoeaaDoorW.PrintLast Go.Proofs.YthdnekagddjoeaaDoorW.PrintMore
open P

theorem ext_ofL (l : List UInt8) (k : Nat) : (ofL l).extract k (ofL l).size = ofL (l.drop k) := by
  apply ByteArray.ext
  simp [ofL, ByteArray.size]
  rw [List.take_of_length_le (by simp)]
theorem ext_list (s : ByteArray) (k : Nat) : s.extract k s.size = ofL (s.data.toList.drop k) := by
  have h := ext_ofL s.data.toList k
  rw [ofL_self] at h
  exact h
theorem strip_more (s : ByteArray) (k : Nat) (h : k + 1 < s.size) (hb : bt s (k : Int) = 48) : stripZ (s.data.toList.drop k) = stripZ (s.data.toList.drop (k + 1)) := by
  obtain ⟨c, hd, hc⟩ := drop_at s k (by omega)
  obtain ⟨d, hd2, _⟩ := drop_at s (k + 1) h
  rw [hd, hd2]
  conv => lhs; unfold stripZ
  rw [if_pos (show c.toNat = 48 by omega)]
theorem strip_stop (s : ByteArray) (k : Nat) (h : k < s.size) (hb : ¬ (k + 1 < s.size ∧ bt s (k : Int) = 48)) : stripZ (s.data.toList.drop k) = s.data.toList.drop k := by
  obtain ⟨c, hd, hc⟩ := drop_at s k h
  have hl : s.data.toList.length = s.size := by simp
  by_cases h1 : k + 1 < s.size
  · obtain ⟨d, hd2, _⟩ := drop_at s (k + 1) h1
    rw [hd, hd2]
    conv => lhs; unfold stripZ
    rw [if_neg (show ¬ c.toNat = 48 by intro e; exact hb ⟨h1, by omega⟩)]
  · rw [hd, List.drop_of_length_le (by omega)]
    rfl
theorem spl_cases (s : ByteArray) (h : (spl s.data.toList).1 ≠ []) :
    (∃ b45 b43 m, ∃ at' : Nat, ((bt s 0 == 45) = b45 ∧ (bt s 0 == 43) = b43) ∧ 0 < s.size ∧ spl s.data.toList = (s.data.toList.drop at', m) ∧ at' < s.size ∧ ((b45 = true ∧ m = true ∧ at' = 1) ∨ (b45 = false ∧ b43 = true ∧ m = false ∧ at' = 1) ∨ (b45 = false ∧ b43 = false ∧ m = false ∧ at' = 0))) := by
  have hl : s.data.toList.length = s.size := by simp
  have hs := spl_of s
  have hpos : 0 < s.size := by
    rcases Nat.eq_zero_or_pos s.size with e | e
    · exfalso
      rw [e] at hl
      have := List.eq_nil_of_length_eq_zero hl
      rw [this] at h
      exact h rfl
    · exact e
  by_cases h45 : bt s 0 = 45
  · rw [if_pos ⟨hpos, h45⟩] at hs
    have h1 : 1 < s.size := by
      rw [hs] at h
      rcases Nat.lt_or_ge 1 s.size with e | e
      · exact e
      · exact absurd (List.drop_of_length_le (by omega)) h
    exact ⟨true, (bt s 0 == 43), true, 1, ⟨beq_iff_eq.2 h45, rfl⟩, hpos, hs, h1, .inl ⟨rfl, rfl, rfl⟩⟩
  · rw [if_neg (fun e => h45 e.2)] at hs
    by_cases h43 : bt s 0 = 43
    · rw [if_pos ⟨hpos, h43⟩] at hs
      have h1 : 1 < s.size := by
        rw [hs] at h
        rcases Nat.lt_or_ge 1 s.size with e | e
        · exact e
        · exact absurd (List.drop_of_length_le (by omega)) h
      exact ⟨false, true, false, 1, ⟨beq_eq_false_iff_ne.2 h45, beq_iff_eq.2 h43⟩, hpos, hs, h1, .inr (.inl ⟨rfl, rfl, rfl, rfl⟩)⟩
    · rw [if_neg (fun e => h43 e.2)] at hs
      exact ⟨false, false, false, 0, ⟨beq_eq_false_iff_ne.2 h45, beq_eq_false_iff_ne.2 h43⟩, hpos, hs, hpos, .inr (.inr ⟨rfl, rfl, rfl, rfl⟩)⟩

set_option maxRecDepth 100000 in
set_option maxHeartbeats 4000000 in
theorem nought_calls (s : ByteArray) (w : World) (ss : s.size ≤ 140737488351232) (h : (spl s.data.toList).1 ≠ []) :
    Calls Tryd.prog 11 #[.string s] w fun e w' => e = .returned (.string (ofL (nou (spl s.data.toList).2 (spl s.data.toList).1))) ∧ w' = w := by
  obtain ⟨b45, b43, m, at', ⟨e45, e43⟩, hpos, hspl, hat, hcase⟩ := spl_cases s h
  have HSP := Aside0.mk hspl
  have HS := Aside0.mk ss
  have HAT := Aside0.mk hat
  have p0 := eq_true (show (0 : Int) < (s.size : Int) by omega)
  have q0 := eq_true hpos
  have g0 : decide ((0 : Int) < (s.size : Int)) = true := decide_eq_true (by omega)
  have g1 : decide (0 < s.size) = true := decide_eq_true hpos
  have x0 : ∀ h : 0 < s.size, ((s[0]'h).toNat : Int) = bt s 0 := bt_at s 0
  clear h hspl hpos hat ss
  rcases hcase with ⟨rfl, rfl, rfl⟩ | ⟨rfl, rfl, rfl, rfl⟩ | ⟨rfl, rfl, rfl, rfl⟩
  all_goals
    go_enter Tryd.func11, Tryd.ntmps11
    go_wp2_with fail
    clear p0 q0 g0 g1 x0 e45 e43
    obtain ⟨wo, rfl⟩ : ∃ wo : World, wo = w := ⟨_, rfl⟩
    go_loopw [4] (fun v4 wr => ∃ k : Nat, v4 = .int .i64 (k : Int) ∧ k < s.size ∧ wr = wo ∧ Aside0 (stripZ (s.data.toList.drop k) = stripZ (spl s.data.toList).1)) (fun v4 _ => s.size - (intOf v4).toNat)
    case atStart => exact ⟨_, rfl, HAT.out, rfl, ⟨by rw [HSP.out]⟩⟩
    case round =>
      obtain ⟨k, rfl, hk, rfl, HZ⟩ := hrel
      have hss := HS.out
      have xk : ∀ h : k < s.size, ((s[k]'h).toNat : Int) = bt s (k : Int) := bt_at s (k : Int)
      have pk := eq_true (show (k : Int) < (s.size : Int) by omega)
      have qk := eq_true hk
      have HK := Aside0.mk hk
      by_cases hlt : k + 1 < s.size ∧ bt s (k : Int) = 48
      · have HZ2 := Aside0.mk ((strip_more s k hlt.1 hlt.2).symm.trans HZ.out)
        have HK2 := Aside0.mk hlt.1
        have d0 : decide ((k : Int) + 1 < (s.size : Int)) = true := decide_eq_true (by omega)
        have d0n : decide (k + 1 < s.size) = true := decide_eq_true hlt.1
        have d1 : (bt s (k : Int) == 48) = true := beq_iff_eq.2 hlt.2
        clear hlt
        go_wp2_with fail
        go_roundw
        case rel => exact ⟨k + 1, by go_num, HK2.out, by first | rfl | trivial, HZ2⟩
        case measure =>
          have := HK2.out
          first | (simp [intOf]; done) | (simp [intOf]; omega)
      · have HZ2 := Aside0.mk ((strip_stop s k hk hlt).symm.trans HZ.out)
        have hex := ext_list s k
        have pe := eq_true (show (k : Int) ≤ (s.size : Int) by omega)
        have qe := eq_true (show k ≤ s.size by omega)
        obtain ⟨q, hq⟩ : ∃ q, q = s.data.toList.drop k := ⟨_, rfl⟩
        rw [← hq] at hex HZ2
        have hqs : ¬ 9223372036854775807 < 1 + (ofL q).size := by
          rw [ofL_size, hq, List.length_drop]
          have : s.data.toList.length = s.size := by simp
          omega
        have cq := eq_false hqs
        have hcat : ({ data := #[45] } : ByteArray) ++ ofL q = ofL (45 :: q) := by
          rw [show ({ data := #[45] } : ByteArray) = ofL [45] from rfl, ofL_append]
          rfl
        have htl := ofL_toList q
        have HN := Aside0.mk (show nou (spl s.data.toList).2 (spl s.data.toList).1 = if (spl s.data.toList).2 = true then (if q = [48] then q else 45 :: q) else q by unfold nou; rw [← HZ2.out])
        have hd : (decide ((k : Int) + 1 < (s.size : Int)) = true ∧ decide (k + 1 < s.size) = true ∧ (bt s (k : Int) == 48) = false) ∨ (decide ((k : Int) + 1 < (s.size : Int)) = false ∧ decide (k + 1 < s.size) = false) := by
          by_cases h1 : k + 1 < s.size
          · exact .inl ⟨decide_eq_true (by omega), decide_eq_true h1, beq_eq_false_iff_ne.2 (fun e => hlt ⟨h1, e⟩)⟩
          · exact .inr ⟨decide_eq_false (by omega), decide_eq_false h1⟩
        clear hlt hq hqs
        by_cases h48 : q = [48]
        · have HR := Aside0.mk (show nou (spl s.data.toList).2 (spl s.data.toList).1 = q by rw [HN.out, if_pos h48]; split <;> rfl)
          have d3 : (q != [48]) = false := by rw [h48]; rfl
          have d4 : (q == [48]) = true := by rw [h48]; rfl
          have d5 : (q = [48]) = True := eq_true h48
          clear h48
          rcases hd with ⟨hd, hd2, hd3⟩ | ⟨hd, hd2⟩
          all_goals
            go_wp2_with fail
            go_ret
            exact ⟨by rw [HR.out]; rfl, rfl⟩
        · have HR := Aside0.mk (show nou (spl s.data.toList).2 (spl s.data.toList).1 = if (spl s.data.toList).2 = true then 45 :: q else q by rw [HN.out, if_neg h48])
          have d3 : (q != [48]) = true := bne_iff_ne.2 h48
          have d4 : (q == [48]) = false := beq_eq_false_iff_ne.2 h48
          have d5 : (q = [48]) = False := eq_false h48
          clear h48
          rcases hd with ⟨hd, hd2, hd3⟩ | ⟨hd, hd2⟩
          all_goals
            go_wp2_with fail
            go_ret
            exact ⟨by rw [HR.out, HSP.out]; rfl, rfl⟩
end Go.Proofs.YthdnekagddjoeaaDoor
