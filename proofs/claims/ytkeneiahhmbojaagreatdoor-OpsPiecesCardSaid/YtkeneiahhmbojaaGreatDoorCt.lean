/-
  compare on two texts of the world's index, lt and le. (Printed by wip/tools/ops_Ct.py.)
-/
import Derived.Test.YtkeneiahhmbojaaGreatDoorCs
namespace Go.Proofs.YtkeneiahhmbojaaGreatDoor
open Go.RowKit Go.MapKept
open Go.Proofs.YtkeneiahhmbojaaGreatDoorW.PrintWords Go.Proofs.YtkeneiahhmbojaaGreatDoorW.PrintMore

/-- the world's struct, and its index of texts -/
structure Wd (w : World) (pw b base : Nat) (row : List ByteArray) : Prop where
  st : ∃ c0 c1 c2, w.heap[pw]? = some (.cells #[c0, c1, c2, .pointer (some ⟨b, 0, none⟩)] 38 (0, 0))
  ix : At w base b row
theorem Wd.below {w w' : World} {pw b base : Nat} {row : List ByteArray} (h : Wd w pw b base row) (hb : Below w.heap.size w w') : Wd w' pw b base row := by
  obtain ⟨⟨c0, c1, c2, hp⟩, hA⟩ := h
  exact ⟨⟨c0, c1, c2, (hb.block _ (Array.getElem?_eq_some_iff.1 hp).1).trans hp⟩, hA.below hb⟩
theorem text_wd (w : World) (pw b base : Nat) (row : List ByteArray) (i : Nat) (t : ByteArray) (h : Wd w pw b base row) (hi : row[i]? = some t) :
    Calls Tryz.prog 79 #[.pointer (some ⟨pw, 0, none⟩), .agg #[.int .i64 4, .int .i64 (i : Int)]] w fun e w' => e = .returned (.tuple #[.string t, .bool true]) ∧ Below w.heap.size w w' := by
  obtain ⟨⟨c0, c1, c2, hp⟩, hA⟩ := h
  exact text_calls w pw b base c0 c1 c2 row i t hp hA hi
set_option maxRecDepth 100000 in
set_option maxHeartbeats 4000000 in
theorem cmp_lt_text_l (pw bi base : Nat) (row : List ByteArray) (i j : Nat) (s t : ByteArray) (hs : row[i]? = some s) (ht : row[j]? = some t) (hcmp : Extern.BytealgCompare.cmp s t = -1) (a b : Int) (hai : a = (i : Int)) (hbj : b = (j : Int)) (g : Nat) (w : World) (hWd : Wd w pw bi base row) (hg : w.heap[g]? = some (.cells #[.int .i64 4, .int .i64 a, .int .i64 4, .int .i64 b] 41 (0, 0))) :
    Calls Tryz.prog 42 #[.pointer (some ⟨pw, 0, none⟩), .int .i64 27, .slice (some ⟨g, 0, none⟩) 2 2] w fun e w' => e = .returned (.agg #[.int .i64 1, .int .i64 (b01 (true)), .int .i64 0, .bool false]) ∧ Below w.heap.size w w' := by
  have hlt : g < w.heap.size := (Array.getElem?_eq_some_iff.1 hg).1
  have hc : ∀ o1 j, (w.alloc o1).cell? ⟨g, j, none⟩ = #[Value.int .i64 4, .int .i64 a, .int .i64 4, .int .i64 b][j]? := by
    intro o1 j
    rw [cell_of_row _ g j _ 41 (0, 0) ((Below.heap_alloc _ _ _ hlt).trans hg)]
  have hd : ∀ o1 o2 j, ((w.alloc o1).alloc o2).cell? ⟨g, j, none⟩ = #[Value.int .i64 4, .int .i64 a, .int .i64 4, .int .i64 b][j]? := by
    intro o1 o2 j
    rw [cell_of_row _ g j _ 41 (0, 0) ((Below.heap_alloc _ _ _ (by simp <;> omega)).trans ((Below.heap_alloc _ _ _ hlt).trans hg))]
  have c0 := fun o1 => hc o1 0
  have c1 := fun o1 => hc o1 1
  have c2 := fun o1 o2 => hd o1 o2 2
  have c3 := fun o1 o2 => hd o1 o2 3
  have HWd := Aside0.mk hWd
  have HS := Aside0.mk hs
  have HT := Aside0.mk ht
  have HC := Aside0.mk hcmp
  have HI := Aside0.mk hai
  have HJ := Aside0.mk hbj
  clear hWd hs ht hcmp hai hbj hc hd hg hlt
  go_enter Tryz.func42, Tryz.ntmps42
  go_wp2_with fail
  refine (realOf_text _ _).mono ?_
  rintro e w1 ⟨rfl, hb⟩
  have HW1 := Aside0.mk (((HWd.out.below (below3 w (.cells #[.int .i64 0, .int .i64 0, .int .i64 0, .bool false] 90) (.cells #[.int .i64 4, .int .i64 a] 41) (.cells #[.int .i64 4, .int .i64 b] 41)))).below hb)
  have HZ1 := Aside0.mk ((hb.block _ (by simp <;> omega)).trans (heap3_first w (.cells #[.int .i64 0, .int .i64 0, .int .i64 0, .bool false] 90) (.cells #[.int .i64 4, .int .i64 a] 41) (.cells #[.int .i64 4, .int .i64 b] 41)))
  have HA1 := Aside0.mk ((hb.block _ (by simp <;> omega)).trans (heap3_mid w (.cells #[.int .i64 0, .int .i64 0, .int .i64 0, .bool false] 90) (.cells #[.int .i64 4, .int .i64 a] 41) (.cells #[.int .i64 4, .int .i64 b] 41)))
  have HC1 := Aside0.mk ((hb.block _ (by simp <;> omega)).trans (heap3_last w (.cells #[.int .i64 0, .int .i64 0, .int .i64 0, .bool false] 90) (.cells #[.int .i64 4, .int .i64 a] 41) (.cells #[.int .i64 4, .int .i64 b] 41)))
  have HB1 := Aside0.mk ((below3 w (.cells #[.int .i64 0, .int .i64 0, .int .i64 0, .bool false] 90) (.cells #[.int .i64 4, .int .i64 a] 41) (.cells #[.int .i64 4, .int .i64 b] 41)).trans (hb.mono (by simp <;> omega)))
  clear hb
  clear c0 c1 c2 c3
  have c0 : w1.cell? ⟨w.heap.size + 1, 0, none⟩ = some (.int .i64 4) := by rw [cell_of_row _ _ 0 _ _ _ HA1.out]; rfl
  have c1 : w1.cell? ⟨w.heap.size + 1, 1, none⟩ = some (.int .i64 a) := by rw [cell_of_row _ _ 1 _ _ _ HA1.out]; rfl
  have c2 : w1.cell? ⟨w.heap.size + 1 + 1, 0, none⟩ = some (.int .i64 4) := by rw [cell_of_row _ _ 0 _ _ _ HC1.out]; rfl
  have c3 : w1.cell? ⟨w.heap.size + 1 + 1, 1, none⟩ = some (.int .i64 b) := by rw [cell_of_row _ _ 1 _ _ _ HC1.out]; rfl
  go_wp2_with fail
  refine (realOf_text _ _).mono ?_
  rintro e w2 ⟨rfl, hb⟩
  have HW2 := Aside0.mk (HW1.out.below hb)
  have HZ2 := Aside0.mk ((hb.block _ (Array.getElem?_eq_some_iff.1 HZ1.out).1).trans HZ1.out)
  have HA2 := Aside0.mk ((hb.block _ (Array.getElem?_eq_some_iff.1 HA1.out).1).trans HA1.out)
  have HC2 := Aside0.mk ((hb.block _ (Array.getElem?_eq_some_iff.1 HC1.out).1).trans HC1.out)
  have HB2 := Aside0.mk (HB1.out.trans (hb.mono HB1.out.size))
  clear hb
  clear c0 c1 c2 c3
  have c0 : w2.cell? ⟨w.heap.size + 1, 0, none⟩ = some (.int .i64 4) := by rw [cell_of_row _ _ 0 _ _ _ HA2.out]; rfl
  have c1 : w2.cell? ⟨w.heap.size + 1, 1, none⟩ = some (.int .i64 a) := by rw [cell_of_row _ _ 1 _ _ _ HA2.out]; rfl
  have c2 : w2.cell? ⟨w.heap.size + 1 + 1, 0, none⟩ = some (.int .i64 4) := by rw [cell_of_row _ _ 0 _ _ _ HC2.out]; rfl
  have c3 : w2.cell? ⟨w.heap.size + 1 + 1, 1, none⟩ = some (.int .i64 b) := by rw [cell_of_row _ _ 1 _ _ _ HC2.out]; rfl
  go_wp2_with fail
  rw [HI.out]
  refine (text_wd _ pw bi base row i s HW2.out HS.out).mono ?_
  rintro e w3 ⟨rfl, hb⟩
  have HW3 := Aside0.mk (HW2.out.below hb)
  have HZ3 := Aside0.mk ((hb.block _ (Array.getElem?_eq_some_iff.1 HZ2.out).1).trans HZ2.out)
  have HA3 := Aside0.mk ((hb.block _ (Array.getElem?_eq_some_iff.1 HA2.out).1).trans HA2.out)
  have HC3 := Aside0.mk ((hb.block _ (Array.getElem?_eq_some_iff.1 HC2.out).1).trans HC2.out)
  have HB3 := Aside0.mk (HB2.out.trans (hb.mono HB2.out.size))
  clear hb
  clear c0 c1 c2 c3
  have c0 : w3.cell? ⟨w.heap.size + 1, 0, none⟩ = some (.int .i64 4) := by rw [cell_of_row _ _ 0 _ _ _ HA3.out]; rfl
  have c1 : w3.cell? ⟨w.heap.size + 1, 1, none⟩ = some (.int .i64 a) := by rw [cell_of_row _ _ 1 _ _ _ HA3.out]; rfl
  have c2 : w3.cell? ⟨w.heap.size + 1 + 1, 0, none⟩ = some (.int .i64 4) := by rw [cell_of_row _ _ 0 _ _ _ HC3.out]; rfl
  have c3 : w3.cell? ⟨w.heap.size + 1 + 1, 1, none⟩ = some (.int .i64 b) := by rw [cell_of_row _ _ 1 _ _ _ HC3.out]; rfl
  go_wp2_with fail
  rw [HJ.out]
  refine (text_wd _ pw bi base row j t HW3.out HT.out).mono ?_
  rintro e w4 ⟨rfl, hb⟩
  have HZ4 := Aside0.mk ((hb.block _ (Array.getElem?_eq_some_iff.1 HZ3.out).1).trans HZ3.out)
  have HA4 := Aside0.mk ((hb.block _ (Array.getElem?_eq_some_iff.1 HA3.out).1).trans HA3.out)
  have HC4 := Aside0.mk ((hb.block _ (Array.getElem?_eq_some_iff.1 HC3.out).1).trans HC3.out)
  have HB4 := Aside0.mk (HB3.out.trans (hb.mono HB3.out.size))
  clear hb
  clear c0 c1 c2 c3
  go_wp2_with fail
  refine (compare_calls s t _ HC.out _).mono ?_
  rintro e w' ⟨rfl, rfl⟩
  have f1 : decide ((-1 : Int) < 0) = true := by decide
  have f2 : ((-1 : Int) == 0) = false := by decide
  go_wp2_with fail
  refine (otruth _ _).mono ?_
  rintro e w9 ⟨rfl, hb9⟩
  have HG9 := Aside0.mk ((hb9.block _ (Array.getElem?_eq_some_iff.1 HZ4.out).1).trans HZ4.out)
  have HB9 := Aside0.mk (HB4.out.trans (hb9.mono HB4.out.size))
  clear hb9
  go_wp2_with (with_reducible refine wpList_store_row rfl 90 _ _ rfl w.heap.size #[.int .i64 1, .int .i64 (b01 (true)), .int .i64 0, .bool false] rfl rfl 90 _ HG9.out (by kernel_rfl) (by kernel_rfl) (by kernel_rfl) ?_)
  exact bodyPost_ret (results_cell_row rfl _ _ w.heap.size 90 _ (0, 0) _ rfl (setRow_heap _ _ _ _ _ _ HG9.out) Tryz.underlying90 rfl (by kernel_rfl)) rfl ⟨rfl, below_setRow HB9.out (Nat.le_refl _) _⟩
set_option maxRecDepth 100000 in
set_option maxHeartbeats 4000000 in
theorem cmp_lt_text_e (pw bi base : Nat) (row : List ByteArray) (i j : Nat) (s t : ByteArray) (hs : row[i]? = some s) (ht : row[j]? = some t) (hcmp : Extern.BytealgCompare.cmp s t = 0) (a b : Int) (hai : a = (i : Int)) (hbj : b = (j : Int)) (g : Nat) (w : World) (hWd : Wd w pw bi base row) (hg : w.heap[g]? = some (.cells #[.int .i64 4, .int .i64 a, .int .i64 4, .int .i64 b] 41 (0, 0))) :
    Calls Tryz.prog 42 #[.pointer (some ⟨pw, 0, none⟩), .int .i64 27, .slice (some ⟨g, 0, none⟩) 2 2] w fun e w' => e = .returned (.agg #[.int .i64 1, .int .i64 (b01 (false)), .int .i64 0, .bool false]) ∧ Below w.heap.size w w' := by
  have hlt : g < w.heap.size := (Array.getElem?_eq_some_iff.1 hg).1
  have hc : ∀ o1 j, (w.alloc o1).cell? ⟨g, j, none⟩ = #[Value.int .i64 4, .int .i64 a, .int .i64 4, .int .i64 b][j]? := by
    intro o1 j
    rw [cell_of_row _ g j _ 41 (0, 0) ((Below.heap_alloc _ _ _ hlt).trans hg)]
  have hd : ∀ o1 o2 j, ((w.alloc o1).alloc o2).cell? ⟨g, j, none⟩ = #[Value.int .i64 4, .int .i64 a, .int .i64 4, .int .i64 b][j]? := by
    intro o1 o2 j
    rw [cell_of_row _ g j _ 41 (0, 0) ((Below.heap_alloc _ _ _ (by simp <;> omega)).trans ((Below.heap_alloc _ _ _ hlt).trans hg))]
  have c0 := fun o1 => hc o1 0
  have c1 := fun o1 => hc o1 1
  have c2 := fun o1 o2 => hd o1 o2 2
  have c3 := fun o1 o2 => hd o1 o2 3
  have HWd := Aside0.mk hWd
  have HS := Aside0.mk hs
  have HT := Aside0.mk ht
  have HC := Aside0.mk hcmp
  have HI := Aside0.mk hai
  have HJ := Aside0.mk hbj
  clear hWd hs ht hcmp hai hbj hc hd hg hlt
  go_enter Tryz.func42, Tryz.ntmps42
  go_wp2_with fail
  refine (realOf_text _ _).mono ?_
  rintro e w1 ⟨rfl, hb⟩
  have HW1 := Aside0.mk (((HWd.out.below (below3 w (.cells #[.int .i64 0, .int .i64 0, .int .i64 0, .bool false] 90) (.cells #[.int .i64 4, .int .i64 a] 41) (.cells #[.int .i64 4, .int .i64 b] 41)))).below hb)
  have HZ1 := Aside0.mk ((hb.block _ (by simp <;> omega)).trans (heap3_first w (.cells #[.int .i64 0, .int .i64 0, .int .i64 0, .bool false] 90) (.cells #[.int .i64 4, .int .i64 a] 41) (.cells #[.int .i64 4, .int .i64 b] 41)))
  have HA1 := Aside0.mk ((hb.block _ (by simp <;> omega)).trans (heap3_mid w (.cells #[.int .i64 0, .int .i64 0, .int .i64 0, .bool false] 90) (.cells #[.int .i64 4, .int .i64 a] 41) (.cells #[.int .i64 4, .int .i64 b] 41)))
  have HC1 := Aside0.mk ((hb.block _ (by simp <;> omega)).trans (heap3_last w (.cells #[.int .i64 0, .int .i64 0, .int .i64 0, .bool false] 90) (.cells #[.int .i64 4, .int .i64 a] 41) (.cells #[.int .i64 4, .int .i64 b] 41)))
  have HB1 := Aside0.mk ((below3 w (.cells #[.int .i64 0, .int .i64 0, .int .i64 0, .bool false] 90) (.cells #[.int .i64 4, .int .i64 a] 41) (.cells #[.int .i64 4, .int .i64 b] 41)).trans (hb.mono (by simp <;> omega)))
  clear hb
  clear c0 c1 c2 c3
  have c0 : w1.cell? ⟨w.heap.size + 1, 0, none⟩ = some (.int .i64 4) := by rw [cell_of_row _ _ 0 _ _ _ HA1.out]; rfl
  have c1 : w1.cell? ⟨w.heap.size + 1, 1, none⟩ = some (.int .i64 a) := by rw [cell_of_row _ _ 1 _ _ _ HA1.out]; rfl
  have c2 : w1.cell? ⟨w.heap.size + 1 + 1, 0, none⟩ = some (.int .i64 4) := by rw [cell_of_row _ _ 0 _ _ _ HC1.out]; rfl
  have c3 : w1.cell? ⟨w.heap.size + 1 + 1, 1, none⟩ = some (.int .i64 b) := by rw [cell_of_row _ _ 1 _ _ _ HC1.out]; rfl
  go_wp2_with fail
  refine (realOf_text _ _).mono ?_
  rintro e w2 ⟨rfl, hb⟩
  have HW2 := Aside0.mk (HW1.out.below hb)
  have HZ2 := Aside0.mk ((hb.block _ (Array.getElem?_eq_some_iff.1 HZ1.out).1).trans HZ1.out)
  have HA2 := Aside0.mk ((hb.block _ (Array.getElem?_eq_some_iff.1 HA1.out).1).trans HA1.out)
  have HC2 := Aside0.mk ((hb.block _ (Array.getElem?_eq_some_iff.1 HC1.out).1).trans HC1.out)
  have HB2 := Aside0.mk (HB1.out.trans (hb.mono HB1.out.size))
  clear hb
  clear c0 c1 c2 c3
  have c0 : w2.cell? ⟨w.heap.size + 1, 0, none⟩ = some (.int .i64 4) := by rw [cell_of_row _ _ 0 _ _ _ HA2.out]; rfl
  have c1 : w2.cell? ⟨w.heap.size + 1, 1, none⟩ = some (.int .i64 a) := by rw [cell_of_row _ _ 1 _ _ _ HA2.out]; rfl
  have c2 : w2.cell? ⟨w.heap.size + 1 + 1, 0, none⟩ = some (.int .i64 4) := by rw [cell_of_row _ _ 0 _ _ _ HC2.out]; rfl
  have c3 : w2.cell? ⟨w.heap.size + 1 + 1, 1, none⟩ = some (.int .i64 b) := by rw [cell_of_row _ _ 1 _ _ _ HC2.out]; rfl
  go_wp2_with fail
  rw [HI.out]
  refine (text_wd _ pw bi base row i s HW2.out HS.out).mono ?_
  rintro e w3 ⟨rfl, hb⟩
  have HW3 := Aside0.mk (HW2.out.below hb)
  have HZ3 := Aside0.mk ((hb.block _ (Array.getElem?_eq_some_iff.1 HZ2.out).1).trans HZ2.out)
  have HA3 := Aside0.mk ((hb.block _ (Array.getElem?_eq_some_iff.1 HA2.out).1).trans HA2.out)
  have HC3 := Aside0.mk ((hb.block _ (Array.getElem?_eq_some_iff.1 HC2.out).1).trans HC2.out)
  have HB3 := Aside0.mk (HB2.out.trans (hb.mono HB2.out.size))
  clear hb
  clear c0 c1 c2 c3
  have c0 : w3.cell? ⟨w.heap.size + 1, 0, none⟩ = some (.int .i64 4) := by rw [cell_of_row _ _ 0 _ _ _ HA3.out]; rfl
  have c1 : w3.cell? ⟨w.heap.size + 1, 1, none⟩ = some (.int .i64 a) := by rw [cell_of_row _ _ 1 _ _ _ HA3.out]; rfl
  have c2 : w3.cell? ⟨w.heap.size + 1 + 1, 0, none⟩ = some (.int .i64 4) := by rw [cell_of_row _ _ 0 _ _ _ HC3.out]; rfl
  have c3 : w3.cell? ⟨w.heap.size + 1 + 1, 1, none⟩ = some (.int .i64 b) := by rw [cell_of_row _ _ 1 _ _ _ HC3.out]; rfl
  go_wp2_with fail
  rw [HJ.out]
  refine (text_wd _ pw bi base row j t HW3.out HT.out).mono ?_
  rintro e w4 ⟨rfl, hb⟩
  have HZ4 := Aside0.mk ((hb.block _ (Array.getElem?_eq_some_iff.1 HZ3.out).1).trans HZ3.out)
  have HA4 := Aside0.mk ((hb.block _ (Array.getElem?_eq_some_iff.1 HA3.out).1).trans HA3.out)
  have HC4 := Aside0.mk ((hb.block _ (Array.getElem?_eq_some_iff.1 HC3.out).1).trans HC3.out)
  have HB4 := Aside0.mk (HB3.out.trans (hb.mono HB3.out.size))
  clear hb
  clear c0 c1 c2 c3
  go_wp2_with fail
  refine (compare_calls s t _ HC.out _).mono ?_
  rintro e w' ⟨rfl, rfl⟩
  have f1 : decide ((0 : Int) < 0) = false := by decide
  have f2 : ((0 : Int) == 0) = true := by decide
  go_wp2_with fail
  refine (otruth _ _).mono ?_
  rintro e w9 ⟨rfl, hb9⟩
  have HG9 := Aside0.mk ((hb9.block _ (Array.getElem?_eq_some_iff.1 HZ4.out).1).trans HZ4.out)
  have HB9 := Aside0.mk (HB4.out.trans (hb9.mono HB4.out.size))
  clear hb9
  go_wp2_with (with_reducible refine wpList_store_row rfl 90 _ _ rfl w.heap.size #[.int .i64 1, .int .i64 (b01 (false)), .int .i64 0, .bool false] rfl rfl 90 _ HG9.out (by kernel_rfl) (by kernel_rfl) (by kernel_rfl) ?_)
  exact bodyPost_ret (results_cell_row rfl _ _ w.heap.size 90 _ (0, 0) _ rfl (setRow_heap _ _ _ _ _ _ HG9.out) Tryz.underlying90 rfl (by kernel_rfl)) rfl ⟨rfl, below_setRow HB9.out (Nat.le_refl _) _⟩
set_option maxRecDepth 100000 in
set_option maxHeartbeats 4000000 in
theorem cmp_lt_text_g (pw bi base : Nat) (row : List ByteArray) (i j : Nat) (s t : ByteArray) (hs : row[i]? = some s) (ht : row[j]? = some t) (hcmp : Extern.BytealgCompare.cmp s t = 1) (a b : Int) (hai : a = (i : Int)) (hbj : b = (j : Int)) (g : Nat) (w : World) (hWd : Wd w pw bi base row) (hg : w.heap[g]? = some (.cells #[.int .i64 4, .int .i64 a, .int .i64 4, .int .i64 b] 41 (0, 0))) :
    Calls Tryz.prog 42 #[.pointer (some ⟨pw, 0, none⟩), .int .i64 27, .slice (some ⟨g, 0, none⟩) 2 2] w fun e w' => e = .returned (.agg #[.int .i64 1, .int .i64 (b01 (false)), .int .i64 0, .bool false]) ∧ Below w.heap.size w w' := by
  have hlt : g < w.heap.size := (Array.getElem?_eq_some_iff.1 hg).1
  have hc : ∀ o1 j, (w.alloc o1).cell? ⟨g, j, none⟩ = #[Value.int .i64 4, .int .i64 a, .int .i64 4, .int .i64 b][j]? := by
    intro o1 j
    rw [cell_of_row _ g j _ 41 (0, 0) ((Below.heap_alloc _ _ _ hlt).trans hg)]
  have hd : ∀ o1 o2 j, ((w.alloc o1).alloc o2).cell? ⟨g, j, none⟩ = #[Value.int .i64 4, .int .i64 a, .int .i64 4, .int .i64 b][j]? := by
    intro o1 o2 j
    rw [cell_of_row _ g j _ 41 (0, 0) ((Below.heap_alloc _ _ _ (by simp <;> omega)).trans ((Below.heap_alloc _ _ _ hlt).trans hg))]
  have c0 := fun o1 => hc o1 0
  have c1 := fun o1 => hc o1 1
  have c2 := fun o1 o2 => hd o1 o2 2
  have c3 := fun o1 o2 => hd o1 o2 3
  have HWd := Aside0.mk hWd
  have HS := Aside0.mk hs
  have HT := Aside0.mk ht
  have HC := Aside0.mk hcmp
  have HI := Aside0.mk hai
  have HJ := Aside0.mk hbj
  clear hWd hs ht hcmp hai hbj hc hd hg hlt
  go_enter Tryz.func42, Tryz.ntmps42
  go_wp2_with fail
  refine (realOf_text _ _).mono ?_
  rintro e w1 ⟨rfl, hb⟩
  have HW1 := Aside0.mk (((HWd.out.below (below3 w (.cells #[.int .i64 0, .int .i64 0, .int .i64 0, .bool false] 90) (.cells #[.int .i64 4, .int .i64 a] 41) (.cells #[.int .i64 4, .int .i64 b] 41)))).below hb)
  have HZ1 := Aside0.mk ((hb.block _ (by simp <;> omega)).trans (heap3_first w (.cells #[.int .i64 0, .int .i64 0, .int .i64 0, .bool false] 90) (.cells #[.int .i64 4, .int .i64 a] 41) (.cells #[.int .i64 4, .int .i64 b] 41)))
  have HA1 := Aside0.mk ((hb.block _ (by simp <;> omega)).trans (heap3_mid w (.cells #[.int .i64 0, .int .i64 0, .int .i64 0, .bool false] 90) (.cells #[.int .i64 4, .int .i64 a] 41) (.cells #[.int .i64 4, .int .i64 b] 41)))
  have HC1 := Aside0.mk ((hb.block _ (by simp <;> omega)).trans (heap3_last w (.cells #[.int .i64 0, .int .i64 0, .int .i64 0, .bool false] 90) (.cells #[.int .i64 4, .int .i64 a] 41) (.cells #[.int .i64 4, .int .i64 b] 41)))
  have HB1 := Aside0.mk ((below3 w (.cells #[.int .i64 0, .int .i64 0, .int .i64 0, .bool false] 90) (.cells #[.int .i64 4, .int .i64 a] 41) (.cells #[.int .i64 4, .int .i64 b] 41)).trans (hb.mono (by simp <;> omega)))
  clear hb
  clear c0 c1 c2 c3
  have c0 : w1.cell? ⟨w.heap.size + 1, 0, none⟩ = some (.int .i64 4) := by rw [cell_of_row _ _ 0 _ _ _ HA1.out]; rfl
  have c1 : w1.cell? ⟨w.heap.size + 1, 1, none⟩ = some (.int .i64 a) := by rw [cell_of_row _ _ 1 _ _ _ HA1.out]; rfl
  have c2 : w1.cell? ⟨w.heap.size + 1 + 1, 0, none⟩ = some (.int .i64 4) := by rw [cell_of_row _ _ 0 _ _ _ HC1.out]; rfl
  have c3 : w1.cell? ⟨w.heap.size + 1 + 1, 1, none⟩ = some (.int .i64 b) := by rw [cell_of_row _ _ 1 _ _ _ HC1.out]; rfl
  go_wp2_with fail
  refine (realOf_text _ _).mono ?_
  rintro e w2 ⟨rfl, hb⟩
  have HW2 := Aside0.mk (HW1.out.below hb)
  have HZ2 := Aside0.mk ((hb.block _ (Array.getElem?_eq_some_iff.1 HZ1.out).1).trans HZ1.out)
  have HA2 := Aside0.mk ((hb.block _ (Array.getElem?_eq_some_iff.1 HA1.out).1).trans HA1.out)
  have HC2 := Aside0.mk ((hb.block _ (Array.getElem?_eq_some_iff.1 HC1.out).1).trans HC1.out)
  have HB2 := Aside0.mk (HB1.out.trans (hb.mono HB1.out.size))
  clear hb
  clear c0 c1 c2 c3
  have c0 : w2.cell? ⟨w.heap.size + 1, 0, none⟩ = some (.int .i64 4) := by rw [cell_of_row _ _ 0 _ _ _ HA2.out]; rfl
  have c1 : w2.cell? ⟨w.heap.size + 1, 1, none⟩ = some (.int .i64 a) := by rw [cell_of_row _ _ 1 _ _ _ HA2.out]; rfl
  have c2 : w2.cell? ⟨w.heap.size + 1 + 1, 0, none⟩ = some (.int .i64 4) := by rw [cell_of_row _ _ 0 _ _ _ HC2.out]; rfl
  have c3 : w2.cell? ⟨w.heap.size + 1 + 1, 1, none⟩ = some (.int .i64 b) := by rw [cell_of_row _ _ 1 _ _ _ HC2.out]; rfl
  go_wp2_with fail
  rw [HI.out]
  refine (text_wd _ pw bi base row i s HW2.out HS.out).mono ?_
  rintro e w3 ⟨rfl, hb⟩
  have HW3 := Aside0.mk (HW2.out.below hb)
  have HZ3 := Aside0.mk ((hb.block _ (Array.getElem?_eq_some_iff.1 HZ2.out).1).trans HZ2.out)
  have HA3 := Aside0.mk ((hb.block _ (Array.getElem?_eq_some_iff.1 HA2.out).1).trans HA2.out)
  have HC3 := Aside0.mk ((hb.block _ (Array.getElem?_eq_some_iff.1 HC2.out).1).trans HC2.out)
  have HB3 := Aside0.mk (HB2.out.trans (hb.mono HB2.out.size))
  clear hb
  clear c0 c1 c2 c3
  have c0 : w3.cell? ⟨w.heap.size + 1, 0, none⟩ = some (.int .i64 4) := by rw [cell_of_row _ _ 0 _ _ _ HA3.out]; rfl
  have c1 : w3.cell? ⟨w.heap.size + 1, 1, none⟩ = some (.int .i64 a) := by rw [cell_of_row _ _ 1 _ _ _ HA3.out]; rfl
  have c2 : w3.cell? ⟨w.heap.size + 1 + 1, 0, none⟩ = some (.int .i64 4) := by rw [cell_of_row _ _ 0 _ _ _ HC3.out]; rfl
  have c3 : w3.cell? ⟨w.heap.size + 1 + 1, 1, none⟩ = some (.int .i64 b) := by rw [cell_of_row _ _ 1 _ _ _ HC3.out]; rfl
  go_wp2_with fail
  rw [HJ.out]
  refine (text_wd _ pw bi base row j t HW3.out HT.out).mono ?_
  rintro e w4 ⟨rfl, hb⟩
  have HZ4 := Aside0.mk ((hb.block _ (Array.getElem?_eq_some_iff.1 HZ3.out).1).trans HZ3.out)
  have HA4 := Aside0.mk ((hb.block _ (Array.getElem?_eq_some_iff.1 HA3.out).1).trans HA3.out)
  have HC4 := Aside0.mk ((hb.block _ (Array.getElem?_eq_some_iff.1 HC3.out).1).trans HC3.out)
  have HB4 := Aside0.mk (HB3.out.trans (hb.mono HB3.out.size))
  clear hb
  clear c0 c1 c2 c3
  go_wp2_with fail
  refine (compare_calls s t _ HC.out _).mono ?_
  rintro e w' ⟨rfl, rfl⟩
  have f1 : decide ((1 : Int) < 0) = false := by decide
  have f2 : ((1 : Int) == 0) = false := by decide
  go_wp2_with fail
  refine (otruth _ _).mono ?_
  rintro e w9 ⟨rfl, hb9⟩
  have HG9 := Aside0.mk ((hb9.block _ (Array.getElem?_eq_some_iff.1 HZ4.out).1).trans HZ4.out)
  have HB9 := Aside0.mk (HB4.out.trans (hb9.mono HB4.out.size))
  clear hb9
  go_wp2_with (with_reducible refine wpList_store_row rfl 90 _ _ rfl w.heap.size #[.int .i64 1, .int .i64 (b01 (false)), .int .i64 0, .bool false] rfl rfl 90 _ HG9.out (by kernel_rfl) (by kernel_rfl) (by kernel_rfl) ?_)
  exact bodyPost_ret (results_cell_row rfl _ _ w.heap.size 90 _ (0, 0) _ rfl (setRow_heap _ _ _ _ _ _ HG9.out) Tryz.underlying90 rfl (by kernel_rfl)) rfl ⟨rfl, below_setRow HB9.out (Nat.le_refl _) _⟩
set_option maxRecDepth 100000 in
set_option maxHeartbeats 4000000 in
theorem cmp_le_text_l (pw bi base : Nat) (row : List ByteArray) (i j : Nat) (s t : ByteArray) (hs : row[i]? = some s) (ht : row[j]? = some t) (hcmp : Extern.BytealgCompare.cmp s t = -1) (a b : Int) (hai : a = (i : Int)) (hbj : b = (j : Int)) (g : Nat) (w : World) (hWd : Wd w pw bi base row) (hg : w.heap[g]? = some (.cells #[.int .i64 4, .int .i64 a, .int .i64 4, .int .i64 b] 41 (0, 0))) :
    Calls Tryz.prog 42 #[.pointer (some ⟨pw, 0, none⟩), .int .i64 28, .slice (some ⟨g, 0, none⟩) 2 2] w fun e w' => e = .returned (.agg #[.int .i64 1, .int .i64 (b01 (true)), .int .i64 0, .bool false]) ∧ Below w.heap.size w w' := by
  have hlt : g < w.heap.size := (Array.getElem?_eq_some_iff.1 hg).1
  have hc : ∀ o1 j, (w.alloc o1).cell? ⟨g, j, none⟩ = #[Value.int .i64 4, .int .i64 a, .int .i64 4, .int .i64 b][j]? := by
    intro o1 j
    rw [cell_of_row _ g j _ 41 (0, 0) ((Below.heap_alloc _ _ _ hlt).trans hg)]
  have hd : ∀ o1 o2 j, ((w.alloc o1).alloc o2).cell? ⟨g, j, none⟩ = #[Value.int .i64 4, .int .i64 a, .int .i64 4, .int .i64 b][j]? := by
    intro o1 o2 j
    rw [cell_of_row _ g j _ 41 (0, 0) ((Below.heap_alloc _ _ _ (by simp <;> omega)).trans ((Below.heap_alloc _ _ _ hlt).trans hg))]
  have c0 := fun o1 => hc o1 0
  have c1 := fun o1 => hc o1 1
  have c2 := fun o1 o2 => hd o1 o2 2
  have c3 := fun o1 o2 => hd o1 o2 3
  have HWd := Aside0.mk hWd
  have HS := Aside0.mk hs
  have HT := Aside0.mk ht
  have HC := Aside0.mk hcmp
  have HI := Aside0.mk hai
  have HJ := Aside0.mk hbj
  clear hWd hs ht hcmp hai hbj hc hd hg hlt
  go_enter Tryz.func42, Tryz.ntmps42
  go_wp2_with fail
  refine (realOf_text _ _).mono ?_
  rintro e w1 ⟨rfl, hb⟩
  have HW1 := Aside0.mk (((HWd.out.below (below3 w (.cells #[.int .i64 0, .int .i64 0, .int .i64 0, .bool false] 90) (.cells #[.int .i64 4, .int .i64 a] 41) (.cells #[.int .i64 4, .int .i64 b] 41)))).below hb)
  have HZ1 := Aside0.mk ((hb.block _ (by simp <;> omega)).trans (heap3_first w (.cells #[.int .i64 0, .int .i64 0, .int .i64 0, .bool false] 90) (.cells #[.int .i64 4, .int .i64 a] 41) (.cells #[.int .i64 4, .int .i64 b] 41)))
  have HA1 := Aside0.mk ((hb.block _ (by simp <;> omega)).trans (heap3_mid w (.cells #[.int .i64 0, .int .i64 0, .int .i64 0, .bool false] 90) (.cells #[.int .i64 4, .int .i64 a] 41) (.cells #[.int .i64 4, .int .i64 b] 41)))
  have HC1 := Aside0.mk ((hb.block _ (by simp <;> omega)).trans (heap3_last w (.cells #[.int .i64 0, .int .i64 0, .int .i64 0, .bool false] 90) (.cells #[.int .i64 4, .int .i64 a] 41) (.cells #[.int .i64 4, .int .i64 b] 41)))
  have HB1 := Aside0.mk ((below3 w (.cells #[.int .i64 0, .int .i64 0, .int .i64 0, .bool false] 90) (.cells #[.int .i64 4, .int .i64 a] 41) (.cells #[.int .i64 4, .int .i64 b] 41)).trans (hb.mono (by simp <;> omega)))
  clear hb
  clear c0 c1 c2 c3
  have c0 : w1.cell? ⟨w.heap.size + 1, 0, none⟩ = some (.int .i64 4) := by rw [cell_of_row _ _ 0 _ _ _ HA1.out]; rfl
  have c1 : w1.cell? ⟨w.heap.size + 1, 1, none⟩ = some (.int .i64 a) := by rw [cell_of_row _ _ 1 _ _ _ HA1.out]; rfl
  have c2 : w1.cell? ⟨w.heap.size + 1 + 1, 0, none⟩ = some (.int .i64 4) := by rw [cell_of_row _ _ 0 _ _ _ HC1.out]; rfl
  have c3 : w1.cell? ⟨w.heap.size + 1 + 1, 1, none⟩ = some (.int .i64 b) := by rw [cell_of_row _ _ 1 _ _ _ HC1.out]; rfl
  go_wp2_with fail
  refine (realOf_text _ _).mono ?_
  rintro e w2 ⟨rfl, hb⟩
  have HW2 := Aside0.mk (HW1.out.below hb)
  have HZ2 := Aside0.mk ((hb.block _ (Array.getElem?_eq_some_iff.1 HZ1.out).1).trans HZ1.out)
  have HA2 := Aside0.mk ((hb.block _ (Array.getElem?_eq_some_iff.1 HA1.out).1).trans HA1.out)
  have HC2 := Aside0.mk ((hb.block _ (Array.getElem?_eq_some_iff.1 HC1.out).1).trans HC1.out)
  have HB2 := Aside0.mk (HB1.out.trans (hb.mono HB1.out.size))
  clear hb
  clear c0 c1 c2 c3
  have c0 : w2.cell? ⟨w.heap.size + 1, 0, none⟩ = some (.int .i64 4) := by rw [cell_of_row _ _ 0 _ _ _ HA2.out]; rfl
  have c1 : w2.cell? ⟨w.heap.size + 1, 1, none⟩ = some (.int .i64 a) := by rw [cell_of_row _ _ 1 _ _ _ HA2.out]; rfl
  have c2 : w2.cell? ⟨w.heap.size + 1 + 1, 0, none⟩ = some (.int .i64 4) := by rw [cell_of_row _ _ 0 _ _ _ HC2.out]; rfl
  have c3 : w2.cell? ⟨w.heap.size + 1 + 1, 1, none⟩ = some (.int .i64 b) := by rw [cell_of_row _ _ 1 _ _ _ HC2.out]; rfl
  go_wp2_with fail
  rw [HI.out]
  refine (text_wd _ pw bi base row i s HW2.out HS.out).mono ?_
  rintro e w3 ⟨rfl, hb⟩
  have HW3 := Aside0.mk (HW2.out.below hb)
  have HZ3 := Aside0.mk ((hb.block _ (Array.getElem?_eq_some_iff.1 HZ2.out).1).trans HZ2.out)
  have HA3 := Aside0.mk ((hb.block _ (Array.getElem?_eq_some_iff.1 HA2.out).1).trans HA2.out)
  have HC3 := Aside0.mk ((hb.block _ (Array.getElem?_eq_some_iff.1 HC2.out).1).trans HC2.out)
  have HB3 := Aside0.mk (HB2.out.trans (hb.mono HB2.out.size))
  clear hb
  clear c0 c1 c2 c3
  have c0 : w3.cell? ⟨w.heap.size + 1, 0, none⟩ = some (.int .i64 4) := by rw [cell_of_row _ _ 0 _ _ _ HA3.out]; rfl
  have c1 : w3.cell? ⟨w.heap.size + 1, 1, none⟩ = some (.int .i64 a) := by rw [cell_of_row _ _ 1 _ _ _ HA3.out]; rfl
  have c2 : w3.cell? ⟨w.heap.size + 1 + 1, 0, none⟩ = some (.int .i64 4) := by rw [cell_of_row _ _ 0 _ _ _ HC3.out]; rfl
  have c3 : w3.cell? ⟨w.heap.size + 1 + 1, 1, none⟩ = some (.int .i64 b) := by rw [cell_of_row _ _ 1 _ _ _ HC3.out]; rfl
  go_wp2_with fail
  rw [HJ.out]
  refine (text_wd _ pw bi base row j t HW3.out HT.out).mono ?_
  rintro e w4 ⟨rfl, hb⟩
  have HZ4 := Aside0.mk ((hb.block _ (Array.getElem?_eq_some_iff.1 HZ3.out).1).trans HZ3.out)
  have HA4 := Aside0.mk ((hb.block _ (Array.getElem?_eq_some_iff.1 HA3.out).1).trans HA3.out)
  have HC4 := Aside0.mk ((hb.block _ (Array.getElem?_eq_some_iff.1 HC3.out).1).trans HC3.out)
  have HB4 := Aside0.mk (HB3.out.trans (hb.mono HB3.out.size))
  clear hb
  clear c0 c1 c2 c3
  go_wp2_with fail
  refine (compare_calls s t _ HC.out _).mono ?_
  rintro e w' ⟨rfl, rfl⟩
  have f1 : decide ((-1 : Int) < 0) = true := by decide
  have f2 : ((-1 : Int) == 0) = false := by decide
  go_wp2_with fail
  refine (otruth _ _).mono ?_
  rintro e w9 ⟨rfl, hb9⟩
  have HG9 := Aside0.mk ((hb9.block _ (Array.getElem?_eq_some_iff.1 HZ4.out).1).trans HZ4.out)
  have HB9 := Aside0.mk (HB4.out.trans (hb9.mono HB4.out.size))
  clear hb9
  go_wp2_with (with_reducible refine wpList_store_row rfl 90 _ _ rfl w.heap.size #[.int .i64 1, .int .i64 (b01 (true)), .int .i64 0, .bool false] rfl rfl 90 _ HG9.out (by kernel_rfl) (by kernel_rfl) (by kernel_rfl) ?_)
  exact bodyPost_ret (results_cell_row rfl _ _ w.heap.size 90 _ (0, 0) _ rfl (setRow_heap _ _ _ _ _ _ HG9.out) Tryz.underlying90 rfl (by kernel_rfl)) rfl ⟨rfl, below_setRow HB9.out (Nat.le_refl _) _⟩
set_option maxRecDepth 100000 in
set_option maxHeartbeats 4000000 in
theorem cmp_le_text_e (pw bi base : Nat) (row : List ByteArray) (i j : Nat) (s t : ByteArray) (hs : row[i]? = some s) (ht : row[j]? = some t) (hcmp : Extern.BytealgCompare.cmp s t = 0) (a b : Int) (hai : a = (i : Int)) (hbj : b = (j : Int)) (g : Nat) (w : World) (hWd : Wd w pw bi base row) (hg : w.heap[g]? = some (.cells #[.int .i64 4, .int .i64 a, .int .i64 4, .int .i64 b] 41 (0, 0))) :
    Calls Tryz.prog 42 #[.pointer (some ⟨pw, 0, none⟩), .int .i64 28, .slice (some ⟨g, 0, none⟩) 2 2] w fun e w' => e = .returned (.agg #[.int .i64 1, .int .i64 (b01 (true)), .int .i64 0, .bool false]) ∧ Below w.heap.size w w' := by
  have hlt : g < w.heap.size := (Array.getElem?_eq_some_iff.1 hg).1
  have hc : ∀ o1 j, (w.alloc o1).cell? ⟨g, j, none⟩ = #[Value.int .i64 4, .int .i64 a, .int .i64 4, .int .i64 b][j]? := by
    intro o1 j
    rw [cell_of_row _ g j _ 41 (0, 0) ((Below.heap_alloc _ _ _ hlt).trans hg)]
  have hd : ∀ o1 o2 j, ((w.alloc o1).alloc o2).cell? ⟨g, j, none⟩ = #[Value.int .i64 4, .int .i64 a, .int .i64 4, .int .i64 b][j]? := by
    intro o1 o2 j
    rw [cell_of_row _ g j _ 41 (0, 0) ((Below.heap_alloc _ _ _ (by simp <;> omega)).trans ((Below.heap_alloc _ _ _ hlt).trans hg))]
  have c0 := fun o1 => hc o1 0
  have c1 := fun o1 => hc o1 1
  have c2 := fun o1 o2 => hd o1 o2 2
  have c3 := fun o1 o2 => hd o1 o2 3
  have HWd := Aside0.mk hWd
  have HS := Aside0.mk hs
  have HT := Aside0.mk ht
  have HC := Aside0.mk hcmp
  have HI := Aside0.mk hai
  have HJ := Aside0.mk hbj
  clear hWd hs ht hcmp hai hbj hc hd hg hlt
  go_enter Tryz.func42, Tryz.ntmps42
  go_wp2_with fail
  refine (realOf_text _ _).mono ?_
  rintro e w1 ⟨rfl, hb⟩
  have HW1 := Aside0.mk (((HWd.out.below (below3 w (.cells #[.int .i64 0, .int .i64 0, .int .i64 0, .bool false] 90) (.cells #[.int .i64 4, .int .i64 a] 41) (.cells #[.int .i64 4, .int .i64 b] 41)))).below hb)
  have HZ1 := Aside0.mk ((hb.block _ (by simp <;> omega)).trans (heap3_first w (.cells #[.int .i64 0, .int .i64 0, .int .i64 0, .bool false] 90) (.cells #[.int .i64 4, .int .i64 a] 41) (.cells #[.int .i64 4, .int .i64 b] 41)))
  have HA1 := Aside0.mk ((hb.block _ (by simp <;> omega)).trans (heap3_mid w (.cells #[.int .i64 0, .int .i64 0, .int .i64 0, .bool false] 90) (.cells #[.int .i64 4, .int .i64 a] 41) (.cells #[.int .i64 4, .int .i64 b] 41)))
  have HC1 := Aside0.mk ((hb.block _ (by simp <;> omega)).trans (heap3_last w (.cells #[.int .i64 0, .int .i64 0, .int .i64 0, .bool false] 90) (.cells #[.int .i64 4, .int .i64 a] 41) (.cells #[.int .i64 4, .int .i64 b] 41)))
  have HB1 := Aside0.mk ((below3 w (.cells #[.int .i64 0, .int .i64 0, .int .i64 0, .bool false] 90) (.cells #[.int .i64 4, .int .i64 a] 41) (.cells #[.int .i64 4, .int .i64 b] 41)).trans (hb.mono (by simp <;> omega)))
  clear hb
  clear c0 c1 c2 c3
  have c0 : w1.cell? ⟨w.heap.size + 1, 0, none⟩ = some (.int .i64 4) := by rw [cell_of_row _ _ 0 _ _ _ HA1.out]; rfl
  have c1 : w1.cell? ⟨w.heap.size + 1, 1, none⟩ = some (.int .i64 a) := by rw [cell_of_row _ _ 1 _ _ _ HA1.out]; rfl
  have c2 : w1.cell? ⟨w.heap.size + 1 + 1, 0, none⟩ = some (.int .i64 4) := by rw [cell_of_row _ _ 0 _ _ _ HC1.out]; rfl
  have c3 : w1.cell? ⟨w.heap.size + 1 + 1, 1, none⟩ = some (.int .i64 b) := by rw [cell_of_row _ _ 1 _ _ _ HC1.out]; rfl
  go_wp2_with fail
  refine (realOf_text _ _).mono ?_
  rintro e w2 ⟨rfl, hb⟩
  have HW2 := Aside0.mk (HW1.out.below hb)
  have HZ2 := Aside0.mk ((hb.block _ (Array.getElem?_eq_some_iff.1 HZ1.out).1).trans HZ1.out)
  have HA2 := Aside0.mk ((hb.block _ (Array.getElem?_eq_some_iff.1 HA1.out).1).trans HA1.out)
  have HC2 := Aside0.mk ((hb.block _ (Array.getElem?_eq_some_iff.1 HC1.out).1).trans HC1.out)
  have HB2 := Aside0.mk (HB1.out.trans (hb.mono HB1.out.size))
  clear hb
  clear c0 c1 c2 c3
  have c0 : w2.cell? ⟨w.heap.size + 1, 0, none⟩ = some (.int .i64 4) := by rw [cell_of_row _ _ 0 _ _ _ HA2.out]; rfl
  have c1 : w2.cell? ⟨w.heap.size + 1, 1, none⟩ = some (.int .i64 a) := by rw [cell_of_row _ _ 1 _ _ _ HA2.out]; rfl
  have c2 : w2.cell? ⟨w.heap.size + 1 + 1, 0, none⟩ = some (.int .i64 4) := by rw [cell_of_row _ _ 0 _ _ _ HC2.out]; rfl
  have c3 : w2.cell? ⟨w.heap.size + 1 + 1, 1, none⟩ = some (.int .i64 b) := by rw [cell_of_row _ _ 1 _ _ _ HC2.out]; rfl
  go_wp2_with fail
  rw [HI.out]
  refine (text_wd _ pw bi base row i s HW2.out HS.out).mono ?_
  rintro e w3 ⟨rfl, hb⟩
  have HW3 := Aside0.mk (HW2.out.below hb)
  have HZ3 := Aside0.mk ((hb.block _ (Array.getElem?_eq_some_iff.1 HZ2.out).1).trans HZ2.out)
  have HA3 := Aside0.mk ((hb.block _ (Array.getElem?_eq_some_iff.1 HA2.out).1).trans HA2.out)
  have HC3 := Aside0.mk ((hb.block _ (Array.getElem?_eq_some_iff.1 HC2.out).1).trans HC2.out)
  have HB3 := Aside0.mk (HB2.out.trans (hb.mono HB2.out.size))
  clear hb
  clear c0 c1 c2 c3
  have c0 : w3.cell? ⟨w.heap.size + 1, 0, none⟩ = some (.int .i64 4) := by rw [cell_of_row _ _ 0 _ _ _ HA3.out]; rfl
  have c1 : w3.cell? ⟨w.heap.size + 1, 1, none⟩ = some (.int .i64 a) := by rw [cell_of_row _ _ 1 _ _ _ HA3.out]; rfl
  have c2 : w3.cell? ⟨w.heap.size + 1 + 1, 0, none⟩ = some (.int .i64 4) := by rw [cell_of_row _ _ 0 _ _ _ HC3.out]; rfl
  have c3 : w3.cell? ⟨w.heap.size + 1 + 1, 1, none⟩ = some (.int .i64 b) := by rw [cell_of_row _ _ 1 _ _ _ HC3.out]; rfl
  go_wp2_with fail
  rw [HJ.out]
  refine (text_wd _ pw bi base row j t HW3.out HT.out).mono ?_
  rintro e w4 ⟨rfl, hb⟩
  have HZ4 := Aside0.mk ((hb.block _ (Array.getElem?_eq_some_iff.1 HZ3.out).1).trans HZ3.out)
  have HA4 := Aside0.mk ((hb.block _ (Array.getElem?_eq_some_iff.1 HA3.out).1).trans HA3.out)
  have HC4 := Aside0.mk ((hb.block _ (Array.getElem?_eq_some_iff.1 HC3.out).1).trans HC3.out)
  have HB4 := Aside0.mk (HB3.out.trans (hb.mono HB3.out.size))
  clear hb
  clear c0 c1 c2 c3
  go_wp2_with fail
  refine (compare_calls s t _ HC.out _).mono ?_
  rintro e w' ⟨rfl, rfl⟩
  have f1 : decide ((0 : Int) < 0) = false := by decide
  have f2 : ((0 : Int) == 0) = true := by decide
  go_wp2_with fail
  refine (otruth _ _).mono ?_
  rintro e w9 ⟨rfl, hb9⟩
  have HG9 := Aside0.mk ((hb9.block _ (Array.getElem?_eq_some_iff.1 HZ4.out).1).trans HZ4.out)
  have HB9 := Aside0.mk (HB4.out.trans (hb9.mono HB4.out.size))
  clear hb9
  go_wp2_with (with_reducible refine wpList_store_row rfl 90 _ _ rfl w.heap.size #[.int .i64 1, .int .i64 (b01 (true)), .int .i64 0, .bool false] rfl rfl 90 _ HG9.out (by kernel_rfl) (by kernel_rfl) (by kernel_rfl) ?_)
  exact bodyPost_ret (results_cell_row rfl _ _ w.heap.size 90 _ (0, 0) _ rfl (setRow_heap _ _ _ _ _ _ HG9.out) Tryz.underlying90 rfl (by kernel_rfl)) rfl ⟨rfl, below_setRow HB9.out (Nat.le_refl _) _⟩
set_option maxRecDepth 100000 in
set_option maxHeartbeats 4000000 in
theorem cmp_le_text_g (pw bi base : Nat) (row : List ByteArray) (i j : Nat) (s t : ByteArray) (hs : row[i]? = some s) (ht : row[j]? = some t) (hcmp : Extern.BytealgCompare.cmp s t = 1) (a b : Int) (hai : a = (i : Int)) (hbj : b = (j : Int)) (g : Nat) (w : World) (hWd : Wd w pw bi base row) (hg : w.heap[g]? = some (.cells #[.int .i64 4, .int .i64 a, .int .i64 4, .int .i64 b] 41 (0, 0))) :
    Calls Tryz.prog 42 #[.pointer (some ⟨pw, 0, none⟩), .int .i64 28, .slice (some ⟨g, 0, none⟩) 2 2] w fun e w' => e = .returned (.agg #[.int .i64 1, .int .i64 (b01 (false)), .int .i64 0, .bool false]) ∧ Below w.heap.size w w' := by
  have hlt : g < w.heap.size := (Array.getElem?_eq_some_iff.1 hg).1
  have hc : ∀ o1 j, (w.alloc o1).cell? ⟨g, j, none⟩ = #[Value.int .i64 4, .int .i64 a, .int .i64 4, .int .i64 b][j]? := by
    intro o1 j
    rw [cell_of_row _ g j _ 41 (0, 0) ((Below.heap_alloc _ _ _ hlt).trans hg)]
  have hd : ∀ o1 o2 j, ((w.alloc o1).alloc o2).cell? ⟨g, j, none⟩ = #[Value.int .i64 4, .int .i64 a, .int .i64 4, .int .i64 b][j]? := by
    intro o1 o2 j
    rw [cell_of_row _ g j _ 41 (0, 0) ((Below.heap_alloc _ _ _ (by simp <;> omega)).trans ((Below.heap_alloc _ _ _ hlt).trans hg))]
  have c0 := fun o1 => hc o1 0
  have c1 := fun o1 => hc o1 1
  have c2 := fun o1 o2 => hd o1 o2 2
  have c3 := fun o1 o2 => hd o1 o2 3
  have HWd := Aside0.mk hWd
  have HS := Aside0.mk hs
  have HT := Aside0.mk ht
  have HC := Aside0.mk hcmp
  have HI := Aside0.mk hai
  have HJ := Aside0.mk hbj
  clear hWd hs ht hcmp hai hbj hc hd hg hlt
  go_enter Tryz.func42, Tryz.ntmps42
  go_wp2_with fail
  refine (realOf_text _ _).mono ?_
  rintro e w1 ⟨rfl, hb⟩
  have HW1 := Aside0.mk (((HWd.out.below (below3 w (.cells #[.int .i64 0, .int .i64 0, .int .i64 0, .bool false] 90) (.cells #[.int .i64 4, .int .i64 a] 41) (.cells #[.int .i64 4, .int .i64 b] 41)))).below hb)
  have HZ1 := Aside0.mk ((hb.block _ (by simp <;> omega)).trans (heap3_first w (.cells #[.int .i64 0, .int .i64 0, .int .i64 0, .bool false] 90) (.cells #[.int .i64 4, .int .i64 a] 41) (.cells #[.int .i64 4, .int .i64 b] 41)))
  have HA1 := Aside0.mk ((hb.block _ (by simp <;> omega)).trans (heap3_mid w (.cells #[.int .i64 0, .int .i64 0, .int .i64 0, .bool false] 90) (.cells #[.int .i64 4, .int .i64 a] 41) (.cells #[.int .i64 4, .int .i64 b] 41)))
  have HC1 := Aside0.mk ((hb.block _ (by simp <;> omega)).trans (heap3_last w (.cells #[.int .i64 0, .int .i64 0, .int .i64 0, .bool false] 90) (.cells #[.int .i64 4, .int .i64 a] 41) (.cells #[.int .i64 4, .int .i64 b] 41)))
  have HB1 := Aside0.mk ((below3 w (.cells #[.int .i64 0, .int .i64 0, .int .i64 0, .bool false] 90) (.cells #[.int .i64 4, .int .i64 a] 41) (.cells #[.int .i64 4, .int .i64 b] 41)).trans (hb.mono (by simp <;> omega)))
  clear hb
  clear c0 c1 c2 c3
  have c0 : w1.cell? ⟨w.heap.size + 1, 0, none⟩ = some (.int .i64 4) := by rw [cell_of_row _ _ 0 _ _ _ HA1.out]; rfl
  have c1 : w1.cell? ⟨w.heap.size + 1, 1, none⟩ = some (.int .i64 a) := by rw [cell_of_row _ _ 1 _ _ _ HA1.out]; rfl
  have c2 : w1.cell? ⟨w.heap.size + 1 + 1, 0, none⟩ = some (.int .i64 4) := by rw [cell_of_row _ _ 0 _ _ _ HC1.out]; rfl
  have c3 : w1.cell? ⟨w.heap.size + 1 + 1, 1, none⟩ = some (.int .i64 b) := by rw [cell_of_row _ _ 1 _ _ _ HC1.out]; rfl
  go_wp2_with fail
  refine (realOf_text _ _).mono ?_
  rintro e w2 ⟨rfl, hb⟩
  have HW2 := Aside0.mk (HW1.out.below hb)
  have HZ2 := Aside0.mk ((hb.block _ (Array.getElem?_eq_some_iff.1 HZ1.out).1).trans HZ1.out)
  have HA2 := Aside0.mk ((hb.block _ (Array.getElem?_eq_some_iff.1 HA1.out).1).trans HA1.out)
  have HC2 := Aside0.mk ((hb.block _ (Array.getElem?_eq_some_iff.1 HC1.out).1).trans HC1.out)
  have HB2 := Aside0.mk (HB1.out.trans (hb.mono HB1.out.size))
  clear hb
  clear c0 c1 c2 c3
  have c0 : w2.cell? ⟨w.heap.size + 1, 0, none⟩ = some (.int .i64 4) := by rw [cell_of_row _ _ 0 _ _ _ HA2.out]; rfl
  have c1 : w2.cell? ⟨w.heap.size + 1, 1, none⟩ = some (.int .i64 a) := by rw [cell_of_row _ _ 1 _ _ _ HA2.out]; rfl
  have c2 : w2.cell? ⟨w.heap.size + 1 + 1, 0, none⟩ = some (.int .i64 4) := by rw [cell_of_row _ _ 0 _ _ _ HC2.out]; rfl
  have c3 : w2.cell? ⟨w.heap.size + 1 + 1, 1, none⟩ = some (.int .i64 b) := by rw [cell_of_row _ _ 1 _ _ _ HC2.out]; rfl
  go_wp2_with fail
  rw [HI.out]
  refine (text_wd _ pw bi base row i s HW2.out HS.out).mono ?_
  rintro e w3 ⟨rfl, hb⟩
  have HW3 := Aside0.mk (HW2.out.below hb)
  have HZ3 := Aside0.mk ((hb.block _ (Array.getElem?_eq_some_iff.1 HZ2.out).1).trans HZ2.out)
  have HA3 := Aside0.mk ((hb.block _ (Array.getElem?_eq_some_iff.1 HA2.out).1).trans HA2.out)
  have HC3 := Aside0.mk ((hb.block _ (Array.getElem?_eq_some_iff.1 HC2.out).1).trans HC2.out)
  have HB3 := Aside0.mk (HB2.out.trans (hb.mono HB2.out.size))
  clear hb
  clear c0 c1 c2 c3
  have c0 : w3.cell? ⟨w.heap.size + 1, 0, none⟩ = some (.int .i64 4) := by rw [cell_of_row _ _ 0 _ _ _ HA3.out]; rfl
  have c1 : w3.cell? ⟨w.heap.size + 1, 1, none⟩ = some (.int .i64 a) := by rw [cell_of_row _ _ 1 _ _ _ HA3.out]; rfl
  have c2 : w3.cell? ⟨w.heap.size + 1 + 1, 0, none⟩ = some (.int .i64 4) := by rw [cell_of_row _ _ 0 _ _ _ HC3.out]; rfl
  have c3 : w3.cell? ⟨w.heap.size + 1 + 1, 1, none⟩ = some (.int .i64 b) := by rw [cell_of_row _ _ 1 _ _ _ HC3.out]; rfl
  go_wp2_with fail
  rw [HJ.out]
  refine (text_wd _ pw bi base row j t HW3.out HT.out).mono ?_
  rintro e w4 ⟨rfl, hb⟩
  have HZ4 := Aside0.mk ((hb.block _ (Array.getElem?_eq_some_iff.1 HZ3.out).1).trans HZ3.out)
  have HA4 := Aside0.mk ((hb.block _ (Array.getElem?_eq_some_iff.1 HA3.out).1).trans HA3.out)
  have HC4 := Aside0.mk ((hb.block _ (Array.getElem?_eq_some_iff.1 HC3.out).1).trans HC3.out)
  have HB4 := Aside0.mk (HB3.out.trans (hb.mono HB3.out.size))
  clear hb
  clear c0 c1 c2 c3
  go_wp2_with fail
  refine (compare_calls s t _ HC.out _).mono ?_
  rintro e w' ⟨rfl, rfl⟩
  have f1 : decide ((1 : Int) < 0) = false := by decide
  have f2 : ((1 : Int) == 0) = false := by decide
  go_wp2_with fail
  refine (otruth _ _).mono ?_
  rintro e w9 ⟨rfl, hb9⟩
  have HG9 := Aside0.mk ((hb9.block _ (Array.getElem?_eq_some_iff.1 HZ4.out).1).trans HZ4.out)
  have HB9 := Aside0.mk (HB4.out.trans (hb9.mono HB4.out.size))
  clear hb9
  go_wp2_with (with_reducible refine wpList_store_row rfl 90 _ _ rfl w.heap.size #[.int .i64 1, .int .i64 (b01 (false)), .int .i64 0, .bool false] rfl rfl 90 _ HG9.out (by kernel_rfl) (by kernel_rfl) (by kernel_rfl) ?_)
  exact bodyPost_ret (results_cell_row rfl _ _ w.heap.size 90 _ (0, 0) _ rfl (setRow_heap _ _ _ _ _ _ HG9.out) Tryz.underlying90 rfl (by kernel_rfl)) rfl ⟨rfl, below_setRow HB9.out (Nat.le_refl _) _⟩
theorem cmp_lt_text (pw bi base : Nat) (row : List ByteArray) (i j : Nat) (s t : ByteArray) (hs : row[i]? = some s) (ht : row[j]? = some t) (g : Nat) (w : World) (hWd : Wd w pw bi base row) (hg : w.heap[g]? = some (.cells #[.int .i64 4, .int .i64 (i : Int), .int .i64 4, .int .i64 (j : Int)] 41 (0, 0))) :
    Calls Tryz.prog 42 #[.pointer (some ⟨pw, 0, none⟩), .int .i64 27, .slice (some ⟨g, 0, none⟩) 2 2] w fun e w' => e = .returned (.agg #[.int .i64 1, .int .i64 (b01 (tl s t)), .int .i64 0, .bool false]) ∧ Below w.heap.size w w' := by
  have hc := cmp_is s t
  cases h : tl s t with
  | true => exact cmp_lt_text_l pw bi base row i j s t hs ht (by rw [hc, h]; rfl) _ _ rfl rfl g w hWd hg
  | false =>
    cases h2 : te s t with
    | true => exact cmp_lt_text_e pw bi base row i j s t hs ht (by rw [hc, h, h2]; rfl) _ _ rfl rfl g w hWd hg
    | false => exact cmp_lt_text_g pw bi base row i j s t hs ht (by rw [hc, h, h2]; rfl) _ _ rfl rfl g w hWd hg
theorem cmp_le_text (pw bi base : Nat) (row : List ByteArray) (i j : Nat) (s t : ByteArray) (hs : row[i]? = some s) (ht : row[j]? = some t) (g : Nat) (w : World) (hWd : Wd w pw bi base row) (hg : w.heap[g]? = some (.cells #[.int .i64 4, .int .i64 (i : Int), .int .i64 4, .int .i64 (j : Int)] 41 (0, 0))) :
    Calls Tryz.prog 42 #[.pointer (some ⟨pw, 0, none⟩), .int .i64 28, .slice (some ⟨g, 0, none⟩) 2 2] w fun e w' => e = .returned (.agg #[.int .i64 1, .int .i64 (b01 (tl s t || te s t)), .int .i64 0, .bool false]) ∧ Below w.heap.size w w' := by
  have hc := cmp_is s t
  cases h : tl s t with
  | true => exact cmp_le_text_l pw bi base row i j s t hs ht (by rw [hc, h]; rfl) _ _ rfl rfl g w hWd hg
  | false =>
    cases h2 : te s t with
    | true => exact cmp_le_text_e pw bi base row i j s t hs ht (by rw [hc, h, h2]; rfl) _ _ rfl rfl g w hWd hg
    | false => exact cmp_le_text_g pw bi base row i j s t hs ht (by rw [hc, h, h2]; rfl) _ _ rfl rfl g w hWd hg
end Go.Proofs.YtkeneiahhmbojaaGreatDoor
