/-
  One step of reading a quoted text: the plain function and asm's 'first' by it.
-/
import Derived.Test.YtppmlphmjmpcgaaFirst
import Derived.Test.YtppmlphmjmpcgaaQuote
namespace Go.Proofs.Ytppmlphmjmpcgaa
open Go.RowKit
open Go.Proofs.YtppmlphmjmpcgaaW.PrintWords Go.Proofs.YtppmlphmjmpcgaaW.PrintMore

def ofL (l : List UInt8) : ByteArray := ⟨l.toArray⟩
theorem ofL_size (l : List UInt8) : (ofL l).size = l.length := by simp [ofL, ByteArray.size]
theorem ofL_self (s : ByteArray) : ofL s.data.toList = s := by simp [ofL]
theorem ofL_list (l : List UInt8) : (ofL l).data.toList = l := by simp [ofL]
theorem bt_of (s : ByteArray) (k : Nat) : bt s (k : Int) = ((s.data.toList.getD k 0).toNat : Int) := by
  unfold bt
  split
  · rename_i h
    simp only [Int.toNat_natCast] at h ⊢
    have h' : k < s.data.toList.length := by simpa using h
    rw [List.getD_eq_getElem?_getD, List.getElem?_eq_getElem h']
    rfl
  · rename_i h
    simp only [Int.toNat_natCast] at h
    have h' : s.data.toList.length ≤ k := by simpa using h
    rw [List.getD_eq_getElem?_getD, List.getElem?_eq_none h']
    rfl
theorem bt_ofL (l : List UInt8) (k : Nat) : bt (ofL l) (k : Int) = ((l.getD k 0).toNat : Int) := by
  rw [bt_of, ofL_list]
theorem ext_ofL (l : List UInt8) (k : Nat) : (ofL l).extract k (ofL l).size = ofL (l.drop k) := by
  apply ByteArray.ext
  simp [ofL, ByteArray.size]
  rw [List.take_of_length_le (by simp)]

/-- the byte that the beginning of a text stands for, and what is behind it -/
def step : List UInt8 → Option (UInt8 × List UInt8)
  | [] => none
  | c :: r => if c.toNat = 34 ∨ c.toNat = 10 then none else if c.toNat ≠ 92 then some (c, r) else
    match r with
    | [] => none
    | d :: q => if d.toNat = 34 ∨ d.toNat = 92 then some (d, q) else if d.toNat = 110 then some (10, q) else if d.toNat ≠ 120 then none else
      match q with
      | a :: b :: z => if (Ytppmlphmjmpcgaa.hb (a.toNat : Int) && Ytppmlphmjmpcgaa.hb (b.toNat : Int)) = true then some (UInt8.ofNat (16 * hv (a.toNat : Int) + hv (b.toNat : Int)).toNat, z) else none
      | _ => none

theorem step_short {l r : List UInt8} {c : UInt8} (h : step l = some (c, r)) : r.length < l.length := by
  unfold step at h
  split at h
  · cases h
  · split at h
    · cases h
    · split at h
      · injection h with h; injection h with h1 h2; subst h2; simp
      · split at h
        · cases h
        · split at h
          · injection h with h; injection h with h1 h2; subst h2; simp; omega
          · split at h
            · injection h with h; injection h with h1 h2; subst h2; simp; omega
            · split at h
              · cases h
              · split at h
                · split at h
                  · injection h with h; injection h with h1 h2; subst h2; simp; omega
                  · cases h
                · cases h

def FirstPost (l : List UInt8) (w : World) (e : Ending) (w' : World) : Prop :=
  match step l with
  | some (c, r) => IsFirst (c.toNat : Int) (ofL r) w e w'
  | none => NoFirst w e w'

theorem hex_byte (a b : Int) (ha : 0 ≤ a) (ha' : a ≤ 15) (h : 0 ≤ b) (h' : b ≤ 15) : ((UInt8.ofNat (16 * a + b).toNat).toNat : Int) = 16 * a + b := by
  rw [UInt8.toNat_ofNat']
  omega

theorem first_step (l : List UInt8) (w : World) (hl : l ≠ []) : Calls Try.prog 12 #[.string (ofL l)] w (FirstPost l w) := by
  match l, hl with
  | c :: r, _ =>
    have b0 : bt (ofL (c :: r)) 0 = (c.toNat : Int) := bt_ofL (c :: r) 0
    have hs : (ofL (c :: r)).size = r.length + 1 := by rw [ofL_size]; rfl
    by_cases h1 : c.toNat = 34 ∨ c.toNat = 10
    · have e : step (c :: r) = none := by unfold step; simp only []; rw [if_pos h1]
      unfold FirstPost
      rw [e]
      exact first_stop _ _ (by omega) (by omega)
    · by_cases h2 : c.toNat = 92
      · match r with
        | [] =>
          have e : step [c] = none := by unfold step; simp only []; rw [if_neg h1, if_neg (by omega)]
          unfold FirstPost
          rw [e]
          exact first_short _ _ (by omega) (by omega)
        | d :: q =>
          have b1 : bt (ofL (c :: d :: q)) 1 = (d.toNat : Int) := bt_ofL (c :: d :: q) 1
          have x2 : (ofL (c :: d :: q)).extract 2 (ofL (c :: d :: q)).size = ofL q := ext_ofL (c :: d :: q) 2
          rw [List.length_cons] at hs
          by_cases h3 : d.toNat = 34 ∨ d.toNat = 92
          · have e : step (c :: d :: q) = some (d, q) := by unfold step; simp only []; rw [if_neg h1, if_neg (by omega)]; rw [if_pos h3]
            unfold FirstPost
            rw [e]
            have := first_self (ofL (c :: d :: q)) w (by omega) (by omega) (by omega)
            rw [x2, b1] at this
            exact this
          · by_cases h4 : d.toNat = 110
            · have e : step (c :: d :: q) = some (10, q) := by unfold step; simp only []; rw [if_neg h1, if_neg (by omega)]; rw [if_neg h3, if_pos h4]
              unfold FirstPost
              rw [e]
              have := first_line (ofL (c :: d :: q)) w (by omega) (by omega) (by omega)
              rw [x2] at this
              exact this
            · by_cases h5 : d.toNat = 120
              · match q with
                | [] =>
                  have e : step [c, d] = none := by unfold step; simp only []; rw [if_neg h1, if_neg (by omega)]; rw [if_neg h3, if_neg h4, if_neg (by omega)]
                  unfold FirstPost
                  rw [e]
                  exact first_cut _ _ (by omega) (by omega) (by omega) (by simp only [List.length_nil] at hs; omega)
                | [a] =>
                  have e : step [c, d, a] = none := by unfold step; simp only []; rw [if_neg h1, if_neg (by omega)]; rw [if_neg h3, if_neg h4, if_neg (by omega)]
                  unfold FirstPost
                  rw [e]
                  exact first_cut _ _ (by omega) (by omega) (by omega) (by simp only [List.length_nil, List.length_cons] at hs; omega)
                | a :: b :: z =>
                  have b2 : bt (ofL (c :: d :: a :: b :: z)) 2 = (a.toNat : Int) := bt_ofL (c :: d :: a :: b :: z) 2
                  have b3 : bt (ofL (c :: d :: a :: b :: z)) 3 = (b.toNat : Int) := bt_ofL (c :: d :: a :: b :: z) 3
                  have x4 : (ofL (c :: d :: a :: b :: z)).extract 4 (ofL (c :: d :: a :: b :: z)).size = ofL z := ext_ofL (c :: d :: a :: b :: z) 4
                  rw [List.length_cons, List.length_cons] at hs
                  have := first_hex (ofL (c :: d :: a :: b :: z)) w (by omega) (by omega) (by omega)
                  rw [b2, b3, x4] at this
                  have ra := hv_range (a.toNat : Int) (by omega) (by have := a.toNat_lt; omega)
                  have rb := hv_range (b.toNat : Int) (by omega) (by have := b.toNat_lt; omega)
                  by_cases h6 : (Ytppmlphmjmpcgaa.hb (a.toNat : Int) && Ytppmlphmjmpcgaa.hb (b.toNat : Int)) = true
                  · have e : step (c :: d :: a :: b :: z) = some (UInt8.ofNat (16 * hv (a.toNat : Int) + hv (b.toNat : Int)).toNat, z) := by
                      unfold step; simp only []; rw [if_neg h1, if_neg (by omega)]; rw [if_neg h3, if_neg h4, if_neg (by omega), if_pos h6]
                    unfold FirstPost
                    rw [e]
                    rw [h6] at this
                    simp only []
                    rw [hex_byte _ _ ra.1 ra.2 rb.1 rb.2]
                    exact this
                  · have e : step (c :: d :: a :: b :: z) = none := by
                      unfold step; simp only []; rw [if_neg h1, if_neg (by omega)]; rw [if_neg h3, if_neg h4, if_neg (by omega), if_neg h6]
                    unfold FirstPost
                    rw [e]
                    rw [Bool.not_eq_true] at h6
                    rw [h6] at this
                    refine this.mono ?_
                    rintro e w' ⟨rfl, hd⟩
                    exact ⟨⟨_, _, rfl⟩, hd⟩
              · have e : step (c :: d :: q) = none := by unfold step; simp only []; rw [if_neg h1, if_neg (by omega)]; rw [if_neg h3, if_neg h4, if_pos (by omega)]
                unfold FirstPost
                rw [e]
                exact first_other _ _ (by omega) (by omega) (by omega) (by omega) (by omega) (by omega)
      · have e : step (c :: r) = some (c, r) := by unfold step; simp only []; rw [if_neg h1, if_pos h2]
        unfold FirstPost
        rw [e]
        have := first_plain (ofL (c :: r)) w (by omega) (by omega) (by omega) (by omega)
        rw [b0, show (ofL (c :: r)).extract 1 (ofL (c :: r)).size = ofL r from ext_ofL (c :: r) 1] at this
        exact this

/-- what a whole inner text stands for -/
def un (l : List UInt8) : Option (List UInt8) :=
  if l = [] then some [] else
    match _h : step l with
    | some (c, r) => (un r).map (c :: ·)
    | none => none
termination_by l.length
decreasing_by exact step_short (by assumption)
theorem un_nil : un [] = some [] := by rw [un]; rfl
theorem un_some {l r : List UInt8} {c : UInt8} (h : step l = some (c, r)) : un l = (un r).map (c :: ·) := by
  have hl : l ≠ [] := by rintro rfl; simp [step] at h
  rw [un, if_neg hl]
  split
  · rename_i c' r' h'
    rw [h] at h'
    injection h' with h'; injection h' with h1 h2; subst h1; subst h2; rfl
  · rename_i h'
    rw [h] at h'
    cases h'
theorem un_none {l : List UInt8} (hl : l ≠ []) (h : step l = none) : un l = none := by
  rw [un, if_neg hl]
  split
  · rename_i c' r' h'
    rw [h] at h'
    cases h'
  · rfl
end Go.Proofs.Ytppmlphmjmpcgaa
