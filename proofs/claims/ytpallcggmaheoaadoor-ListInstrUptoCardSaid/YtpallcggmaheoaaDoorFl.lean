/-
  Full lists, the same lists: as plain functions.
-/
import Derived.Test.YtpallcggmaheoaaDoorKh
import Derived.Test.YtpallcggmaheoaaDoorPh
import Derived.Test.YtpallcggmaheoaaDoorPi
namespace Go.Proofs.YtpallcggmaheoaaDoor
open Go.RowKit Go.Proofs.YtpallcggmaheoaaDoorW.PrintWords Go.Proofs.YtpallcggmaheoaaDoorW.PrintMore
open PListInstr
set_option linter.unusedVariables false

theorem ifull_l1 (l : List S27) (hl : l.length + 64 < 1048576000) : ∀ (d k i : Nat), i + d = 64 → d < k → portagekit_fullInstrs.l1 k (l ++ (List.range i).map fun j : Nat => (⟨-7, (j : Int)⟩ : S27)) (i : Int) = some (l ++ mk27) := by
  intro d
  induction d with
  | zero =>
    intro k i hi hk
    obtain ⟨k, rfl⟩ : ∃ m, k = m + 1 := ⟨k - 1, by omega⟩
    simp only [portagekit_fullInstrs.l1]
    obtain rfl : i = 64 := by omega
    rw [if_neg (by omega)]
    rfl
  | succ d ih =>
    intro k i hi hk
    obtain ⟨k, rfl⟩ : ∃ m, k = m + 1 := ⟨k - 1, by omega⟩
    simp only [portagekit_fullInstrs.l1]
    have hw : wrap64 ((i : Int) + 1) = ((i + 1 : Nat) : Int) := by unfold wrap64; omega
    have hr : ((List.range i).map fun j : Nat => (⟨-7, (j : Int)⟩ : S27)) ++ [(⟨-7, (i : Int)⟩ : S27)] = (List.range (i + 1)).map fun j : Nat => (⟨-7, (j : Int)⟩ : S27) := by simp [List.range_succ]
    rw [if_pos (by omega), if_pos (by simp; omega), hw, List.append_assoc, hr]
    exact ih k (i + 1) (by omega) (by omega)
theorem ifull_l0 (l : List S27) (hl : l.length + 64 < 1048576000) : ∀ (d k i : Nat), i + d = l.length → d + 65 < k → portagekit_fullInstrs.l0 k l (l.take i) (i : Int) = some (l ++ mk27) := by
  intro d
  induction d with
  | zero =>
    intro k i hi hk
    obtain ⟨k, rfl⟩ : ∃ m, k = m + 1 := ⟨k - 1, by omega⟩
    simp only [portagekit_fullInstrs.l0]
    rw [if_neg (by omega), List.take_of_length_le (by omega)]
    have h := ifull_l1 l hl 64 k 0 (by omega) (by omega)
    simpa using h
  | succ d ih =>
    intro k i hi hk
    obtain ⟨k, rfl⟩ : ∃ m, k = m + 1 := ⟨k - 1, by omega⟩
    obtain ⟨u, hu⟩ : ∃ u, l[i]? = some u := ⟨_, List.getElem?_eq_getElem (by omega)⟩
    simp only [portagekit_fullInstrs.l0]
    have hw : wrap64 ((i : Int) + 1) = ((i + 1 : Nat) : Int) := by unfold wrap64; omega
    have ht : l.take i ++ [u] = l.take (i + 1) := by rw [List.take_add_one, hu]; rfl
    rw [if_pos (by omega), if_pos (by omega), if_pos (by rw [List.length_take]; omega), rd27 hu, hw, show (⟨u.f0, u.f1⟩ : S27) = u from rfl, ht]
    exact ih k (i + 1) (by omega) (by omega)
theorem ifull_f (l : List S27) (hl : l.length ≤ 1048576) : portagekit_fullInstrs.f (l.length + 66) l = some (l ++ mk27) := by
  have h := ifull_l0 l (by omega) l.length (l.length + 66) 0 (by omega) (by omega)
  rw [List.take_zero] at h
  exact h
theorem isame_l0 (l : List S27) (hl : l.length ≤ 1048576) : ∀ (d k i : Nat), i + d = l.length → d < k → portagekit_sameInstrs.l0 k l l (i : Int) = some true := by
  intro d
  induction d with
  | zero =>
    intro k i hi hk
    obtain ⟨k, rfl⟩ : ∃ m, k = m + 1 := ⟨k - 1, by omega⟩
    simp only [portagekit_sameInstrs.l0]
    rw [if_neg (by omega)]
  | succ d ih =>
    intro k i hi hk
    obtain ⟨k, rfl⟩ : ∃ m, k = m + 1 := ⟨k - 1, by omega⟩
    simp only [portagekit_sameInstrs.l0]
    have hw : wrap64 ((i : Int) + 1) = ((i + 1 : Nat) : Int) := by unfold wrap64; omega
    rw [if_pos (by omega), if_pos (by omega), if_pos (by omega), if_neg (by simp), hw]
    exact ih k (i + 1) (by omega) (by omega)
theorem isame_f (l : List S27) (hl : l.length ≤ 1048576) : portagekit_sameInstrs.f (l.length + 1) l l = some true := by
  simp only [portagekit_sameInstrs.f]
  rw [if_pos trivial]
  exact isame_l0 l hl l.length _ 0 (by omega) (by omega)
theorem hfull_l1 (l : List S55) (hl : l.length + 64 < 1048576000) : ∀ (d k i : Nat), i + d = 64 → d < k → portagekit_fullHandlers.l1 k (l ++ (List.range i).map fun j : Nat => (⟨-7, (j : Int), 0, 0⟩ : S55)) (i : Int) = some (l ++ mk55) := by
  intro d
  induction d with
  | zero =>
    intro k i hi hk
    obtain ⟨k, rfl⟩ : ∃ m, k = m + 1 := ⟨k - 1, by omega⟩
    simp only [portagekit_fullHandlers.l1]
    obtain rfl : i = 64 := by omega
    rw [if_neg (by omega)]
    rfl
  | succ d ih =>
    intro k i hi hk
    obtain ⟨k, rfl⟩ : ∃ m, k = m + 1 := ⟨k - 1, by omega⟩
    simp only [portagekit_fullHandlers.l1]
    have hw : wrap64 ((i : Int) + 1) = ((i + 1 : Nat) : Int) := by unfold wrap64; omega
    have hr : ((List.range i).map fun j : Nat => (⟨-7, (j : Int), 0, 0⟩ : S55)) ++ [(⟨-7, (i : Int), 0, 0⟩ : S55)] = (List.range (i + 1)).map fun j : Nat => (⟨-7, (j : Int), 0, 0⟩ : S55) := by simp [List.range_succ]
    rw [if_pos (by omega), if_pos (by simp; omega), hw, List.append_assoc, hr]
    exact ih k (i + 1) (by omega) (by omega)
theorem hfull_l0 (l : List S55) (hl : l.length + 64 < 1048576000) : ∀ (d k i : Nat), i + d = l.length → d + 65 < k → portagekit_fullHandlers.l0 k l (l.take i) (i : Int) = some (l ++ mk55) := by
  intro d
  induction d with
  | zero =>
    intro k i hi hk
    obtain ⟨k, rfl⟩ : ∃ m, k = m + 1 := ⟨k - 1, by omega⟩
    simp only [portagekit_fullHandlers.l0]
    rw [if_neg (by omega), List.take_of_length_le (by omega)]
    have h := hfull_l1 l hl 64 k 0 (by omega) (by omega)
    simpa using h
  | succ d ih =>
    intro k i hi hk
    obtain ⟨k, rfl⟩ : ∃ m, k = m + 1 := ⟨k - 1, by omega⟩
    obtain ⟨u, hu⟩ : ∃ u, l[i]? = some u := ⟨_, List.getElem?_eq_getElem (by omega)⟩
    simp only [portagekit_fullHandlers.l0]
    have hw : wrap64 ((i : Int) + 1) = ((i + 1 : Nat) : Int) := by unfold wrap64; omega
    have ht : l.take i ++ [u] = l.take (i + 1) := by rw [List.take_add_one, hu]; rfl
    rw [if_pos (by omega), if_pos (by omega), if_pos (by rw [List.length_take]; omega), rd55 hu, hw, show (⟨u.f0, u.f1, u.f2, u.f3⟩ : S55) = u from rfl, ht]
    exact ih k (i + 1) (by omega) (by omega)
theorem hfull_f (l : List S55) (hl : l.length ≤ 1048576) : portagekit_fullHandlers.f (l.length + 66) l = some (l ++ mk55) := by
  have h := hfull_l0 l (by omega) l.length (l.length + 66) 0 (by omega) (by omega)
  rw [List.take_zero] at h
  exact h
theorem hsame_l0 (l : List S55) (hl : l.length ≤ 1048576) : ∀ (d k i : Nat), i + d = l.length → d < k → portagekit_sameHandlers.l0 k l l (i : Int) = some true := by
  intro d
  induction d with
  | zero =>
    intro k i hi hk
    obtain ⟨k, rfl⟩ : ∃ m, k = m + 1 := ⟨k - 1, by omega⟩
    simp only [portagekit_sameHandlers.l0]
    rw [if_neg (by omega)]
  | succ d ih =>
    intro k i hi hk
    obtain ⟨k, rfl⟩ : ∃ m, k = m + 1 := ⟨k - 1, by omega⟩
    simp only [portagekit_sameHandlers.l0]
    have hw : wrap64 ((i : Int) + 1) = ((i + 1 : Nat) : Int) := by unfold wrap64; omega
    rw [if_pos (by omega), if_pos (by omega), if_pos (by omega), if_neg (by simp), hw]
    exact ih k (i + 1) (by omega) (by omega)
theorem hsame_f (l : List S55) (hl : l.length ≤ 1048576) : portagekit_sameHandlers.f (l.length + 1) l l = some true := by
  simp only [portagekit_sameHandlers.f]
  rw [if_pos trivial]
  exact hsame_l0 l hl l.length _ 0 (by omega) (by omega)
theorem full13 (A : Option Addr) (c : Nat) (l : List S27) (X : World) (h : Kd.C k27 X A l.length l) (hc : l.length ≤ c) (hl : l.length ≤ 1048576) : Calls Tryd.prog 13 #[.slice A l.length c] X fun e w' => ∃ g cg, e = .returned (.slice (some ⟨g, 0, none⟩) (l.length + 64) cg) ∧ k27.R 27 w' X.heap.size (fun _ => True) (.slice (some ⟨g, 0, none⟩) (l.length + 64) cg) (l ++ mk27) ∧ Below X.heap.size X w' :=
  (portagekit_fullInstrs.calls (l.length + 66) A c l (l ++ mk27) X h hc (ifull_f l hl)).mono fun e w' ⟨v, he, hR, hb⟩ => by
    obtain ⟨g, cap, rfl, _⟩ := Kd.R_form hR (by rw [List.length_append, mk27_len]; omega)
    have e : (l ++ mk27).length = l.length + 64 := by rw [List.length_append, mk27_len]
    rw [e] at he hR
    exact ⟨g, cap, he, hR, hb⟩
theorem full14 (A : Option Addr) (c : Nat) (l : List S55) (X : World) (h : Kd.C k55 X A l.length l) (hc : l.length ≤ c) (hl : l.length ≤ 1048576) : Calls Tryd.prog 14 #[.slice A l.length c] X fun e w' => ∃ g cg, e = .returned (.slice (some ⟨g, 0, none⟩) (l.length + 64) cg) ∧ k55.R 55 w' X.heap.size (fun _ => True) (.slice (some ⟨g, 0, none⟩) (l.length + 64) cg) (l ++ mk55) ∧ Below X.heap.size X w' :=
  (portagekit_fullHandlers.calls (l.length + 66) A c l (l ++ mk55) X h hc (hfull_f l hl)).mono fun e w' ⟨v, he, hR, hb⟩ => by
    obtain ⟨g, cap, rfl, _⟩ := Kd.R_form hR (by rw [List.length_append, mk55_len]; omega)
    have e : (l ++ mk55).length = l.length + 64 := by rw [List.length_append, mk55_len]
    rw [e] at he hR
    exact ⟨g, cap, he, hR, hb⟩
end Go.Proofs.YtpallcggmaheoaaDoor
