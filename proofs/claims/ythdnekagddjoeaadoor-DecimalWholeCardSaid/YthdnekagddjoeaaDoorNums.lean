/-
  decimal's numbers and unsigned: what they answer.
-/
import Derived.Test.YthdnekagddjoeaaDoorIntWalk
import Derived.Laws.RangeAny
import Derived.Lib.ParseIntB
namespace Go.Proofs.YthdnekagddjoeaaDoor
set_option linter.unusedVariables false
open Go.RowKit Go.Proofs.YthdnekagddjoeaaDoorW.PrintWords Go.Proofs.YthdnekagddjoeaaDoorW.PrintLast Go.Proofs.YthdnekagddjoeaaDoorW.PrintMore
open P

/-- digits alone -/
def digs (l : List UInt8) : Bool := l.all fun c => decide (48 ≤ c.toNat ∧ c.toNat ≤ 57)
theorem ofL_self (s : ByteArray) : ofL s.data.toList = s := by simp [ofL]
theorem ofL_list (l : List UInt8) : (ofL l).data.toList = l := by simp [ofL]
theorem digs_take {l : List UInt8} {k : Nat} (hk : k < l.length) (h : digs (l.take k) = true) (hc : 48 ≤ l[k].toNat ∧ l[k].toNat ≤ 57) : digs (l.take (k + 1)) = true := by
  unfold digs at h ⊢
  rw [List.take_add_one, List.getElem?_eq_getElem hk, List.all_append, h]
  simp [hc]
theorem digs_no {l : List UInt8} {k : Nat} (hk : k < l.length) (hc : ¬ (48 ≤ l[k].toNat ∧ l[k].toNat ≤ 57)) : digs l = false := by
  cases h : digs l with
  | false => rfl
  | true =>
    unfold digs at h
    rw [List.all_eq_true] at h
    have := h _ (List.getElem_mem hk)
    exact absurd (of_decide_eq_true this) hc

set_option maxRecDepth 100000 in
theorem numbers_calls (s : ByteArray) (w : World) :
    Calls Tryd.prog 17 #[.string s] w fun e w' => e = .returned (.bool (digs s.data.toList)) ∧ Below w.heap.size w w' := by
  have HLN := Aside0.mk (show s.data.toList.length = s.size by simp)
  go_enter Tryd.func17, Tryd.ntmps17
  go_wp2_with fail
  go_loopw [4] (fun _ wr => ∃ k : Nat, wr = w.iter s k ∧ k ≤ s.size ∧ Aside0 (digs (s.data.toList.take k) = true)) (fun _ w' => s.size - w'.iterPos w.heap.size)
  case atStart => exact ⟨0, rfl, Nat.zero_le _, ⟨rfl⟩⟩
  case round =>
    obtain ⟨k, rfl, hk, HD⟩ := hrel
    have HBk := Aside0.mk (show Below w.heap.size w (w.iter s k) from (Below.refl _ _).alloc (Nat.le_refl _) _)
    by_cases hlt : k < s.size
    · have hl : k < s.data.toList.length := by rw [HLN.out]; exact hlt
      have hce : s[k]'hlt = s.data.toList[k]'hl := rfl
      by_cases ha : (s[k]'hlt).toNat < 128
      · have hnx := fun ty => run_next_ascii (P := Tryd.prog) w s k ty hlt ha
        by_cases hd : 48 ≤ (s[k]'hlt).toNat ∧ (s[k]'hlt).toNat ≤ 57
        · have HD2 := Aside0.mk (digs_take hl HD.out (by rw [← hce]; exact hd))
          obtain ⟨c, hc⟩ : ∃ c : Nat, c = (s[k]'hlt).toNat := ⟨_, rfl⟩
          rw [← hc] at hd
          simp only [← hc] at hnx
          have d0 : decide ((c : Int) < 48) = false := decide_eq_false (by omega)
          have d1 : decide (57 < (c : Int)) = false := decide_eq_false (by omega)
          have d2 : decide (c < 48) = false := decide_eq_false (by omega)
          have d3 : decide (57 < c) = false := decide_eq_false (by omega)
          clear hc ha hd hce hl
          go_wp2_with fail
          go_roundw
          case rel => exact ⟨k + 1, rfl, hlt, HD2⟩
          case measure => simp only [World.iterPos_iter]; omega
        · have HR := Aside0.mk (digs_no hl (by rw [← hce]; exact hd))
          obtain ⟨c, hc⟩ : ∃ c : Nat, c = (s[k]'hlt).toNat := ⟨_, rfl⟩
          rw [← hc] at hd
          simp only [← hc] at hnx
          have HBk2 := Aside0.mk (show Below w.heap.size w (w.iter s (k + 1)) from (Below.refl _ _).alloc (Nat.le_refl _) _)
          by_cases h48 : c < 48
          · have d0 : decide ((c : Int) < 48) = true := decide_eq_true (by omega)
            have d2 : decide (c < 48) = true := decide_eq_true (by omega)
            clear hc ha hd hce hl h48
            go_wp2_with fail
            go_ret
            exact ⟨by rw [HR.out]; rfl, HBk2.out⟩
          · have d0 : decide ((c : Int) < 48) = false := decide_eq_false (by omega)
            have d1 : decide (57 < (c : Int)) = true := decide_eq_true (by omega)
            have d2 : decide (c < 48) = false := decide_eq_false (by omega)
            have d3 : decide (57 < c) = true := decide_eq_true (by omega)
            clear hc ha hd hce hl h48
            go_wp2_with fail
            go_ret
            exact ⟨by rw [HR.out]; rfl, HBk2.out⟩
      · have hnx := fun ty => run_next_any (P := Tryd.prog) w s k ty hlt
        have hh := decode_high s k hlt (by omega)
        have HR := Aside0.mk (digs_no hl (by rw [← hce]; omega))
        obtain ⟨c, hc⟩ : ∃ c : Nat, c = (Utf8.decode s k).1 := ⟨_, rfl⟩
        obtain ⟨m, hm⟩ : ∃ m : Nat, m = k + (Utf8.decode s k).2 := ⟨_, rfl⟩
        simp only [← hc, ← hm] at hnx
        have HBk2 := Aside0.mk (show Below w.heap.size w (w.iter s m) from (Below.refl _ _).alloc (Nat.le_refl _) _)
        have d0 : decide ((c : Int) < 48) = false := decide_eq_false (by omega)
        have d1 : decide (57 < (c : Int)) = true := decide_eq_true (by omega)
        have d2 : decide (c < 48) = false := decide_eq_false (by omega)
        have d3 : decide (57 < c) = true := decide_eq_true (by omega)
        clear hc hm ha hh hce hl
        go_wp2_with fail
        go_ret
        exact ⟨by rw [HR.out]; rfl, HBk2.out⟩
    · have hnx := fun ty => run_next_end (P := Tryd.prog) w s k ty hlt
      have HR := Aside0.mk (show digs s.data.toList = true by have := HD.out; rw [List.take_of_length_le (by rw [HLN.out]; omega)] at this; exact this)
      clear hlt
      go_wp2_with fail
      go_ret
      exact ⟨by rw [HR.out]; rfl, HBk.out⟩

/-- a text without its sign; and whether that is a minus -/
def spl (l : List UInt8) : List UInt8 × Bool := if Lib.hasPrefix l [45] = true then (Lib.trimPrefix l [45], true) else (Lib.trimPrefix l [43], false)
theorem unsigned_calls (s : ByteArray) (w : World) :
    Calls Tryd.prog 16 #[.string s] w fun e w' => e = .returned (.tuple #[.string (ofL (spl s.data.toList).1), .bool (spl s.data.toList).2]) ∧ w' = w := by
  go_enter Tryd.func16, Tryd.ntmps16
  go_wp2_with fail
  refine (Tryd.strings_CutPrefix s { data := #[45] } _).mono ?_
  rintro e w1 ⟨rfl, rfl⟩
  rw [show (⟨(Lib.trimPrefix s.data.toList ({ data := #[45] } : ByteArray).data.toList).toArray⟩ : ByteArray) = ofL (Lib.trimPrefix s.data.toList [45]) from rfl,
    show Lib.hasPrefix s.data.toList ({ data := #[45] } : ByteArray).data.toList = Lib.hasPrefix s.data.toList [45] from rfl]
  by_cases h : Lib.hasPrefix s.data.toList [45] = true
  · rw [h]
    have HS := Aside0.mk (show spl s.data.toList = (Lib.trimPrefix s.data.toList [45], true) by unfold spl; rw [if_pos h])
    clear h
    go_wp2_with fail
    go_ret2
    exact ⟨by rw [HS.out]; rfl, rfl⟩
  · rw [Bool.not_eq_true] at h
    rw [h]
    have HS := Aside0.mk (show spl s.data.toList = (Lib.trimPrefix s.data.toList [43], false) by unfold spl; rw [if_neg (by rw [h]; decide)])
    clear h
    go_wp2_with fail
    refine (Tryd.strings_TrimPrefix s { data := #[43] } _).mono ?_
    rintro e w1 ⟨rfl, rfl⟩
    rw [show (⟨(Lib.trimPrefix s.data.toList ({ data := #[43] } : ByteArray).data.toList).toArray⟩ : ByteArray) = ofL (Lib.trimPrefix s.data.toList [43]) from rfl]
    go_wp2_with fail
    go_ret2
    exact ⟨by rw [HS.out]; rfl, rfl⟩
end Go.Proofs.YthdnekagddjoeaaDoor
