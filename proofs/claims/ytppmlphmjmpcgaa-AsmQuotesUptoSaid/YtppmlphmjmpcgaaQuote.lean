/-
  What asm's Quote answers.
-/
import Derived.Test.YtppmlphmjmpcgaaBld
import Derived.Test.YtppmlphmjmpcgaaShelf
import Derived.Test.YtppmlphmjmpcgaaFirst
import Derived.Outline
namespace Go.Proofs.Ytppmlphmjmpcgaa
open Go.RowKit
open Go.Proofs.YtppmlphmjmpcgaaW.PrintWords Go.Proofs.YtppmlphmjmpcgaaW.PrintMore

/-- a hexadecimal digit -/
def hd (n : Nat) : UInt8 := if n < 10 then UInt8.ofNat (48 + n) else UInt8.ofNat (87 + n)
/-- what is written for a byte -/
def qb (c : UInt8) : List UInt8 :=
  if c.toNat = 34 ∨ c.toNat = 92 then [92, c] else if c.toNat = 10 then [92, 110] else if c.toNat < 32 ∨ 126 < c.toNat then [92, 120, hd (c.toNat / 16), hd (c.toNat % 16)] else [c]
theorem qb_cases (c : UInt8) : (c.toNat = 34 ∨ c.toNat = 92 → qb c = [92, c]) ∧ (c.toNat = 10 → qb c = [92, 110]) ∧ (¬ (c.toNat = 34 ∨ c.toNat = 92) ∧ c.toNat ≠ 10 ∧ (c.toNat < 32 ∨ 126 < c.toNat) → qb c = [92, 120, hd (c.toNat / 16), hd (c.toNat % 16)]) ∧ (¬ (c.toNat = 34 ∨ c.toNat = 92) ∧ c.toNat ≠ 10 ∧ ¬ (c.toNat < 32 ∨ 126 < c.toNat) → qb c = [c]) := by
  unfold qb
  refine ⟨fun h => if_pos h, fun h => ?_, fun ⟨h1, h2, h3⟩ => ?_, fun ⟨h1, h2, h3⟩ => ?_⟩
  · rw [if_neg (by omega), if_pos h]
  · rw [if_neg h1, if_neg h2, if_pos h3]
  · rw [if_neg h1, if_neg h2, if_neg h3]
theorem and15 (c : Int) (h0 : 0 ≤ c) (h1 : c ≤ 255) : bits BinOp.and IntKind.u8 c 15 = c % 16 := by
  have all : ∀ a : Fin 256, bits BinOp.and IntKind.u8 (a.val : Int) 15 = (a.val : Int) % 16 := by decide +kernel
  obtain ⟨a, rfl⟩ := Int.eq_ofNat_of_zero_le h0
  exact all ⟨a, by omega⟩
theorem dig_at (n : Int) (h0 : 0 ≤ n) (h1 : n < 16) : ∀ h : n.toNat < ByteArray.size { data := #[48, 49, 50, 51, 52, 53, 54, 55, 56, 57, 97, 98, 99, 100, 101, 102] }, (((({ data := #[48, 49, 50, 51, 52, 53, 54, 55, 56, 57, 97, 98, 99, 100, 101, 102] } : ByteArray)[n.toNat]'h).toNat : Nat) : Int) = ((hd n.toNat).toNat : Int) := by
  have all : ∀ a : Fin 16, bt { data := #[48, 49, 50, 51, 52, 53, 54, 55, 56, 57, 97, 98, 99, 100, 101, 102] } (a.val : Int) = ((hd a.val).toNat : Int) := by decide +kernel
  obtain ⟨a, rfl⟩ := Int.eq_ofNat_of_zero_le h0
  intro h
  have e := all ⟨a, by omega⟩
  exact (bt_at _ (a : Int) h).trans e
def quoteL (l : List UInt8) : List UInt8 := [34] ++ l.flatMap qb ++ [34]
theorem qb_length (c : UInt8) : 1 ≤ (qb c).length ∧ (qb c).length ≤ 4 := by
  unfold qb
  split
  · simp
  · split
    · simp
    · split <;> simp
theorem flat_length (l : List UInt8) : (l.flatMap qb).length ≤ 4 * l.length := by
  induction l with
  | nil => simp
  | cons c l ih => rw [List.flatMap_cons, List.length_append, List.length_cons]; have := qb_length c; omega
theorem flat_take {l : List UInt8} {k : Nat} {c : UInt8} (h : l[k]? = some c) : (l.take (k + 1)).flatMap qb = (l.take k).flatMap qb ++ qb c := by
  rw [List.take_add_one, h, List.flatMap_append]
  simp

theorem cells_snoc (l : List UInt8) (c : UInt8) : Lib.byteCells l ++ [.int .u8 (c.toNat : Int)] = Lib.byteCells (l ++ [c]) := by simp [Lib.byteCells]
theorem cells_append (l m : List UInt8) : Lib.byteCells l ++ Lib.byteCells m = Lib.byteCells (l ++ m) := by simp [Lib.byteCells]

set_option maxRecDepth 100000 in
set_option maxHeartbeats 4000000 in
theorem quote_any (s : ByteArray) (w : World) (hs : s.size ≤ 1048576) :
    Calls Try.prog 7 #[.string s] w fun e w' => e = .returned (.string ⟨(quoteL s.data.toList).toArray⟩) ∧ Below w.heap.size w w' := by
  have HLN := Aside0.mk (show s.data.toList.length = s.size by simp)
  have hb0 : Lib.IsBuilderF 32 5 w.heap.size w.heap.size [] (w.alloc (.cells #[.pointer none, .slice none 0 0] 32)) :=
    .inl ⟨Nat.le_refl _, .slice none 0 0, heap_alloc_new _ _, World.ownsRowF_nil _ _ _ _, by simp [Value.ownBlock]⟩
  have HB0 := Aside0.mk hb0
  clear hb0
  go_enter Try.func7, Try.ntmps7
  go_wp2_with fail
  refine (byte_any w.heap.size w.heap.size [] 34 _ HB0.out (by simp) (by simp)).mono ?_
  rintro e w1 ⟨rfl, h1, hbl1⟩
  have H1 := Aside0.mk (show Lib.IsBuilderF 32 5 w.heap.size w.heap.size (Lib.byteCells [34]) w1 from h1)
  have HB1 := Aside0.mk (show Below w.heap.size w w1 from ((Below.refl _ _).alloc (Nat.le_refl _) _).trans hbl1)
  clear h1 hbl1
  go_wp2_with fail
  go_loopw [9, 4, 5] (fun i _ _ wr => ∃ k : Nat, i = .int .i64 (k : Int) ∧ k ≤ s.size ∧ Aside0 (Lib.IsBuilderF 32 5 w.heap.size w.heap.size (Lib.byteCells ([34] ++ (s.data.toList.take k).flatMap qb)) wr) ∧ Aside0 (Below w.heap.size w wr)) (fun i _ _ _ => s.size - (intOf i).toNat)
  case atStart => exact ⟨0, rfl, Nat.zero_le _, H1, HB1⟩
  case round =>
    obtain ⟨k, rfl, hk, H, HB⟩ := hrel
    by_cases hlt : k < s.size
    · obtain ⟨u, hu⟩ : ∃ u, s.data.toList[k]? = some u := ⟨_, List.getElem?_eq_getElem (by rw [HLN.out]; exact hlt)⟩
      have hl2 : (k : Int) < (s.size : Int) := by omega
      have q0 := eq_true hlt
      have huc : ∀ h : k < s.size, ((s[k]'h).toNat : Int) = (u.toNat : Int) := fun h => by
        have : s[k]'h = u := by
          rw [List.getElem?_eq_getElem (by rw [HLN.out]; exact h)] at hu
          injection hu
        rw [this]
      have HFT := Aside0.mk (flat_take hu)
      have hr := u.toNat_lt
      have HLEN := Aside0.mk (show ((Lib.byteCells ([34] ++ (s.data.toList.take k).flatMap qb)).length) + 4 ≤ 140737488355328 by
        rw [Lib.byteCells_length, List.length_append]
        have := flat_length (s.data.toList.take k)
        have h2 := List.length_take_le k s.data.toList
        rw [List.length_singleton]
        omega)
      have HQ := Aside0.mk (qb_cases u)
      obtain ⟨c, hc⟩ : ∃ c : Int, c = (u.toNat : Int) := ⟨_, rfl⟩
      rw [← hc] at huc
      have hc0 : 0 ≤ c := by omega
      have hc1 : c ≤ 255 := by omega
      have HC := Aside0.mk hc
      clear hu hc hr
      by_cases a : c = 34 ∨ c = 92
      · have ha : ((c == 34) = true) ∨ ((c == 34) = false ∧ (c == 92) = true) := by
          rcases a with a | a
          · exact .inl (beq_iff_eq.2 a)
          · exact .inr ⟨beq_eq_false_iff_ne.2 (by omega), beq_iff_eq.2 a⟩
        have HX := Aside0.mk (HQ.out.1 (by have := HC.out; omega))
        clear a
        rcases ha with ha | ⟨ha, ha2⟩
        all_goals
          go_wp2_with fail
          refine (byte_any w.heap.size w.heap.size _ 92 _ H.out (by have := HLEN.out; omega) HB.out.size).mono ?_
          rintro e w2 ⟨rfl, h2, hbl2⟩
          have H2 := Aside0.mk h2
          have HB2 := Aside0.mk (HB.out.trans hbl2)
          clear h2 hbl2
          go_wp2_with fail
          refine (byte_any w.heap.size w.heap.size _ c _ H2.out (by rw [List.length_append]; have := HLEN.out; simp only [List.length_singleton]; omega) HB2.out.size).mono ?_
          rintro e w3 ⟨rfl, h3, hbl3⟩
          have H3 := Aside0.mk (show Lib.IsBuilderF 32 5 w.heap.size w.heap.size (Lib.byteCells ([34] ++ (s.data.toList.take (k + 1)).flatMap qb)) w3 by
            rw [HFT.out, HX.out, ← List.append_assoc, ← cells_append]
            have := h3
            rw [HC.out] at this
            simpa [Lib.byteCells] using this)
          have HB3 := Aside0.mk (HB2.out.trans hbl3)
          clear h3 hbl3
          go_wp2_with fail
          go_roundw
          case rel => exact ⟨k + 1, by go_num, by omega, H3, HB3⟩
          case measure => first | (simp [intOf]; done) | (simp [intOf]; omega)
      · have a1 : (c == 34) = false := beq_eq_false_iff_ne.2 (by omega)
        have a2 : (c == 92) = false := beq_eq_false_iff_ne.2 (by omega)
        by_cases b : c = 10
        · have b1 : (c == 10) = true := beq_iff_eq.2 b
          have HX := Aside0.mk (HQ.out.2.1 (by have := HC.out; omega))
          clear a b
          go_wp2_with fail
          refine (str_any w.heap.size w.heap.size _ ⟨#[92, 110]⟩ _ H.out (by have := HLEN.out; simp only [ByteArray.size, List.size_toArray, List.length_cons, List.length_nil]; omega) HB.out.size).mono ?_
          rintro e w3 ⟨rfl, h3, hbl3⟩
          have H3 := Aside0.mk (show Lib.IsBuilderF 32 5 w.heap.size w.heap.size (Lib.byteCells ([34] ++ (s.data.toList.take (k + 1)).flatMap qb)) w3 by
            rw [HFT.out, HX.out, ← List.append_assoc, ← cells_append]
            exact h3)
          have HB3 := Aside0.mk (HB.out.trans hbl3)
          clear h3 hbl3
          go_wp2_with fail
          go_roundw
          case rel => exact ⟨k + 1, by go_num, by omega, H3, HB3⟩
          case measure => first | (simp [intOf]; done) | (simp [intOf]; omega)
        · have b1 : (c == 10) = false := beq_eq_false_iff_ne.2 b
          by_cases d : c < 32 ∨ 126 < c
          · have HX := Aside0.mk (HQ.out.2.2.1 (by have := HC.out; omega))
            have hd : (decide (c < 32) = true) ∨ (decide (c < 32) = false ∧ decide (126 < c) = true) := by
              by_cases h : c < 32
              · exact .inl (decide_eq_true h)
              · exact .inr ⟨decide_eq_false h, decide_eq_true (by omega)⟩
            clear a b d
            have i0 : (0 : Int) ≤ c / 16 := by omega
            have i1 : c / 16 < 16 := by omega
            have j0 : (0 : Int) ≤ c % 16 := by omega
            have j1 : c % 16 < 16 := by omega
            have ha := and15 c hc0 hc1
            have hx1 := dig_at (c / 16) i0 i1
            have hx2 := dig_at (c % 16) j0 j1
            obtain ⟨d1, hd1⟩ : ∃ d1, d1 = ((Ytppmlphmjmpcgaa.hd (c / 16).toNat).toNat : Int) := ⟨_, rfl⟩
            obtain ⟨d2, hd2'⟩ : ∃ d2, d2 = ((Ytppmlphmjmpcgaa.hd (c % 16).toNat).toNat : Int) := ⟨_, rfl⟩
            rw [← hd1] at hx1
            rw [← hd2'] at hx2
            have HD1 := Aside0.mk hd1
            have HD2 := Aside0.mk hd2'
            clear hd1 hd2'
            rcases hd with hd | ⟨hd, hd2⟩
            all_goals
              go_wp2_with fail
              refine (str_any w.heap.size w.heap.size _ ⟨#[92, 120]⟩ _ H.out (by have := HLEN.out; simp only [ByteArray.size, List.size_toArray, List.length_cons, List.length_nil]; omega) HB.out.size).mono ?_
              rintro e w3 ⟨rfl, h3, hbl3⟩
              have H3 := Aside0.mk h3
              have HB3 := Aside0.mk (HB.out.trans hbl3)
              clear h3 hbl3
              go_wp2_with fail
              refine (byte_any w.heap.size w.heap.size _ d1 _ H3.out (by rw [List.length_append, Lib.strCells_length]; have := HLEN.out; simp only [ByteArray.size, List.size_toArray, List.length_cons, List.length_nil]; omega) HB3.out.size).mono ?_
              rintro e w4 ⟨rfl, h4, hbl4⟩
              have H4 := Aside0.mk h4
              have HB4 := Aside0.mk (HB3.out.trans hbl4)
              clear h4 hbl4
              go_wp2_with fail
              refine (byte_any w.heap.size w.heap.size _ d2 _ H4.out (by rw [List.length_append, List.length_append, Lib.strCells_length]; have := HLEN.out; simp only [ByteArray.size, List.size_toArray, List.length_cons, List.length_nil]; omega) HB4.out.size).mono ?_
              rintro e w5 ⟨rfl, h5, hbl5⟩
              have H5 := Aside0.mk (show Lib.IsBuilderF 32 5 w.heap.size w.heap.size (Lib.byteCells ([34] ++ (s.data.toList.take (k + 1)).flatMap qb)) w5 by
                rw [HFT.out, HX.out, ← List.append_assoc, ← cells_append]
                have := h5
                rw [HD1.out, HD2.out, show (c / 16).toNat = u.toNat / 16 by have := HC.out; omega, show (c % 16).toNat = u.toNat % 16 by have := HC.out; omega] at this
                simpa [Lib.byteCells, Lib.strCells] using this)
              have HB5 := Aside0.mk (HB4.out.trans hbl5)
              clear h5 hbl5
              go_wp2_with fail
              go_roundw
              case rel => exact ⟨k + 1, by go_num, by omega, H5, HB5⟩
              case measure => first | (simp [intOf]; done) | (simp [intOf]; omega)
          · have d1 : decide (c < 32) = false := decide_eq_false (by omega)
            have d2 : decide (126 < c) = false := decide_eq_false (by omega)
            have HX := Aside0.mk (HQ.out.2.2.2 (by have := HC.out; omega))
            clear a b d
            go_wp2_with fail
            refine (byte_any w.heap.size w.heap.size _ c _ H.out (by have := HLEN.out; omega) HB.out.size).mono ?_
            rintro e w3 ⟨rfl, h3, hbl3⟩
            have H3 := Aside0.mk (show Lib.IsBuilderF 32 5 w.heap.size w.heap.size (Lib.byteCells ([34] ++ (s.data.toList.take (k + 1)).flatMap qb)) w3 by
              rw [HFT.out, HX.out, ← List.append_assoc, ← cells_append]
              have := h3
              rw [HC.out] at this
              exact this)
            have HB3 := Aside0.mk (HB.out.trans hbl3)
            clear h3 hbl3
            go_wp2_with fail
            go_roundw
            case rel => exact ⟨k + 1, by go_num, by omega, H3, HB3⟩
            case measure => first | (simp [intOf]; done) | (simp [intOf]; omega)
    · have hl2 : ¬ (k : Int) < (s.size : Int) := by omega
      have HK := Aside0.mk (show s.data.toList.take k = s.data.toList by rw [List.take_of_length_le (by rw [HLN.out]; omega)])
      have HLEN := Aside0.mk (show ((Lib.byteCells ([34] ++ (s.data.toList.take k).flatMap qb)).length) + 4 ≤ 140737488355328 by
        rw [Lib.byteCells_length, List.length_append]
        have := flat_length (s.data.toList.take k)
        have h2 := List.length_take_le k s.data.toList
        rw [List.length_singleton]
        omega)
      go_wp2_with fail
      refine (byte_any w.heap.size w.heap.size _ 34 _ H.out (by have := HLEN.out; omega) HB.out.size).mono ?_
      rintro e w3 ⟨rfl, h3, hbl3⟩
      have H3 := Aside0.mk (show Lib.IsBuilderF 32 5 w.heap.size w.heap.size (Lib.byteCells (quoteL s.data.toList)) w3 by
        unfold quoteL
        rw [HK.out] at h3
        rw [← cells_append]
        exact h3)
      have HB3 := Aside0.mk (HB.out.trans hbl3)
      clear h3 hbl3
      go_wp2_with fail
      refine (Try.Builder_String_any_k w.heap.size w.heap.size (quoteL s.data.toList) _ H3.out HB3.out.size).mono ?_
      rintro e w4 ⟨rfl, _, hbl4, _⟩
      have HB4 := Aside0.mk (HB3.out.trans hbl4)
      clear hbl4
      go_wp2_with fail
      go_ret
      exact ⟨rfl, HB4.out⟩
end Go.Proofs.Ytppmlphmjmpcgaa
