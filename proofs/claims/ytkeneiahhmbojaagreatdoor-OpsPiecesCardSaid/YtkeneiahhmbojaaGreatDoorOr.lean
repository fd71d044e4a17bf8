/-
  ordered: nine answers. (Printed by wip/tools/ops_Or.py.)
-/
import Derived.Test.YtkeneiahhmbojaaGreatDoorOd
namespace Go.Proofs.YtkeneiahhmbojaaGreatDoor
open Go.RowKit Go.MapKept
open Go.Proofs.YtkeneiahhmbojaaGreatDoorW.PrintWords Go.Proofs.YtkeneiahhmbojaaGreatDoorW.PrintMore

set_option maxRecDepth 100000 in
set_option maxHeartbeats 4000000 in
theorem ordered_lt (p : Value) (w : World) (ka a kb b : Int) (X Y : Value) (hX : X = .agg #[.int .i64 ka, .int .i64 a]) (hY : Y = .agg #[.int .i64 kb, .int .i64 b])
    (h0 : Ans p w 27 X Y true) (h1 : Ans p w 27 Y X false) (h2 : Ans p w 28 X Y true) (h3 : Ans p w 28 Y X false) (h4 : Ans p w 25 X Y false) (h5 : Ans p w 25 Y X false) (h6 : Ans p w 26 X Y true) (h7 : Ans p w 26 Y X true) (h8 : Ans p w 25 X X true) (W : World) (hW : Below w.heap.size w W) :
    Calls Tryz.prog 13 #[p, X, Y, .bool true, .bool false] W fun e w' => e = .returned (.bool true) ∧ Below W.heap.size W w' := by
  subst hX
  subst hY
  have H0 := Aside0.mk h0
  have H1 := Aside0.mk h1
  have H2 := Aside0.mk h2
  have H3 := Aside0.mk h3
  have H4 := Aside0.mk h4
  have H5 := Aside0.mk h5
  have H6 := Aside0.mk h6
  have H7 := Aside0.mk h7
  have H8 := Aside0.mk h8
  have HB := Aside0.mk (And.intro hW (Below.refl W.heap.size W))
  clear hW h0 h1 h2 h3 h4 h5 h6 h7 h8
  go_enter Tryz.func13, Tryz.ntmps13
  go_wp2_with fail
  refine (H0.out _ (HB.out.1.trans (((below_alloc1 W _).alloc (by simp) _).mono HB.out.1.size))).mono ?_
  rintro e w1 ⟨rfl, hb⟩
  have HX := Aside0.mk ((hb.block _ (by simp <;> omega)).trans ((Below.heap_alloc (W.alloc (.cells #[.int .i64 ka, .int .i64 a] 41)) (.cells #[.int .i64 kb, .int .i64 b] 41) _ (by simp)).trans (heap_alloc_last W (.cells #[.int .i64 ka, .int .i64 a] 41))))
  have HY := Aside0.mk ((hb.block _ (by simp)).trans (heap_alloc2_new W (.cells #[.int .i64 ka, .int .i64 a] 41) (.cells #[.int .i64 kb, .int .i64 b] 41)))
  have HB1 := Aside0.mk (((below_alloc1 W (.cells #[.int .i64 ka, .int .i64 a] 41)).alloc (by simp) (.cells #[.int .i64 kb, .int .i64 b] 41)).trans (hb.mono (by simp; omega)))
  replace HB := Aside0.mk (And.intro (HB.out.1.trans (HB1.out.mono HB.out.1.size)) HB1.out)
  clear hb HB1
  have c0 : w1.cell? ⟨W.heap.size, 0, none⟩ = some (.int .i64 ka) := by rw [cell_of_row _ _ 0 _ _ _ HX.out]; rfl
  have c1 : w1.cell? ⟨W.heap.size, 1, none⟩ = some (.int .i64 a) := by rw [cell_of_row _ _ 1 _ _ _ HX.out]; rfl
  have c2 : w1.cell? ⟨W.heap.size + 1, 0, none⟩ = some (.int .i64 kb) := by rw [cell_of_row _ _ 0 _ _ _ HY.out]; rfl
  have c3 : w1.cell? ⟨W.heap.size + 1, 1, none⟩ = some (.int .i64 b) := by rw [cell_of_row _ _ 1 _ _ _ HY.out]; rfl
  go_wp2_with fail
  refine (H1.out _ HB.out.1).mono ?_
  rintro e w2 ⟨rfl, hb⟩
  clear c0 c1 c2 c3
  replace HX := Aside0.mk ((hb.block _ (Array.getElem?_eq_some_iff.1 HX.out).1).trans HX.out)
  replace HY := Aside0.mk ((hb.block _ (Array.getElem?_eq_some_iff.1 HY.out).1).trans HY.out)
  replace HB := Aside0.mk (And.intro (HB.out.1.trans (hb.mono HB.out.1.size)) (HB.out.2.trans (hb.mono HB.out.2.size)))
  clear hb
  have c0 : w2.cell? ⟨W.heap.size, 0, none⟩ = some (.int .i64 ka) := by rw [cell_of_row _ _ 0 _ _ _ HX.out]; rfl
  have c1 : w2.cell? ⟨W.heap.size, 1, none⟩ = some (.int .i64 a) := by rw [cell_of_row _ _ 1 _ _ _ HX.out]; rfl
  have c2 : w2.cell? ⟨W.heap.size + 1, 0, none⟩ = some (.int .i64 kb) := by rw [cell_of_row _ _ 0 _ _ _ HY.out]; rfl
  have c3 : w2.cell? ⟨W.heap.size + 1, 1, none⟩ = some (.int .i64 b) := by rw [cell_of_row _ _ 1 _ _ _ HY.out]; rfl
  go_wp2_with fail
  refine (H2.out _ HB.out.1).mono ?_
  rintro e w3 ⟨rfl, hb⟩
  clear c0 c1 c2 c3
  replace HX := Aside0.mk ((hb.block _ (Array.getElem?_eq_some_iff.1 HX.out).1).trans HX.out)
  replace HY := Aside0.mk ((hb.block _ (Array.getElem?_eq_some_iff.1 HY.out).1).trans HY.out)
  replace HB := Aside0.mk (And.intro (HB.out.1.trans (hb.mono HB.out.1.size)) (HB.out.2.trans (hb.mono HB.out.2.size)))
  clear hb
  have c0 : w3.cell? ⟨W.heap.size, 0, none⟩ = some (.int .i64 ka) := by rw [cell_of_row _ _ 0 _ _ _ HX.out]; rfl
  have c1 : w3.cell? ⟨W.heap.size, 1, none⟩ = some (.int .i64 a) := by rw [cell_of_row _ _ 1 _ _ _ HX.out]; rfl
  have c2 : w3.cell? ⟨W.heap.size + 1, 0, none⟩ = some (.int .i64 kb) := by rw [cell_of_row _ _ 0 _ _ _ HY.out]; rfl
  have c3 : w3.cell? ⟨W.heap.size + 1, 1, none⟩ = some (.int .i64 b) := by rw [cell_of_row _ _ 1 _ _ _ HY.out]; rfl
  go_wp2_with fail
  refine (H3.out _ HB.out.1).mono ?_
  rintro e w4 ⟨rfl, hb⟩
  clear c0 c1 c2 c3
  replace HX := Aside0.mk ((hb.block _ (Array.getElem?_eq_some_iff.1 HX.out).1).trans HX.out)
  replace HY := Aside0.mk ((hb.block _ (Array.getElem?_eq_some_iff.1 HY.out).1).trans HY.out)
  replace HB := Aside0.mk (And.intro (HB.out.1.trans (hb.mono HB.out.1.size)) (HB.out.2.trans (hb.mono HB.out.2.size)))
  clear hb
  have c0 : w4.cell? ⟨W.heap.size, 0, none⟩ = some (.int .i64 ka) := by rw [cell_of_row _ _ 0 _ _ _ HX.out]; rfl
  have c1 : w4.cell? ⟨W.heap.size, 1, none⟩ = some (.int .i64 a) := by rw [cell_of_row _ _ 1 _ _ _ HX.out]; rfl
  have c2 : w4.cell? ⟨W.heap.size + 1, 0, none⟩ = some (.int .i64 kb) := by rw [cell_of_row _ _ 0 _ _ _ HY.out]; rfl
  have c3 : w4.cell? ⟨W.heap.size + 1, 1, none⟩ = some (.int .i64 b) := by rw [cell_of_row _ _ 1 _ _ _ HY.out]; rfl
  go_wp2_with fail
  refine (H4.out _ HB.out.1).mono ?_
  rintro e w5 ⟨rfl, hb⟩
  clear c0 c1 c2 c3
  replace HX := Aside0.mk ((hb.block _ (Array.getElem?_eq_some_iff.1 HX.out).1).trans HX.out)
  replace HY := Aside0.mk ((hb.block _ (Array.getElem?_eq_some_iff.1 HY.out).1).trans HY.out)
  replace HB := Aside0.mk (And.intro (HB.out.1.trans (hb.mono HB.out.1.size)) (HB.out.2.trans (hb.mono HB.out.2.size)))
  clear hb
  have c0 : w5.cell? ⟨W.heap.size, 0, none⟩ = some (.int .i64 ka) := by rw [cell_of_row _ _ 0 _ _ _ HX.out]; rfl
  have c1 : w5.cell? ⟨W.heap.size, 1, none⟩ = some (.int .i64 a) := by rw [cell_of_row _ _ 1 _ _ _ HX.out]; rfl
  have c2 : w5.cell? ⟨W.heap.size + 1, 0, none⟩ = some (.int .i64 kb) := by rw [cell_of_row _ _ 0 _ _ _ HY.out]; rfl
  have c3 : w5.cell? ⟨W.heap.size + 1, 1, none⟩ = some (.int .i64 b) := by rw [cell_of_row _ _ 1 _ _ _ HY.out]; rfl
  go_wp2_with fail
  refine (H5.out _ HB.out.1).mono ?_
  rintro e w6 ⟨rfl, hb⟩
  clear c0 c1 c2 c3
  replace HX := Aside0.mk ((hb.block _ (Array.getElem?_eq_some_iff.1 HX.out).1).trans HX.out)
  replace HY := Aside0.mk ((hb.block _ (Array.getElem?_eq_some_iff.1 HY.out).1).trans HY.out)
  replace HB := Aside0.mk (And.intro (HB.out.1.trans (hb.mono HB.out.1.size)) (HB.out.2.trans (hb.mono HB.out.2.size)))
  clear hb
  have c0 : w6.cell? ⟨W.heap.size, 0, none⟩ = some (.int .i64 ka) := by rw [cell_of_row _ _ 0 _ _ _ HX.out]; rfl
  have c1 : w6.cell? ⟨W.heap.size, 1, none⟩ = some (.int .i64 a) := by rw [cell_of_row _ _ 1 _ _ _ HX.out]; rfl
  have c2 : w6.cell? ⟨W.heap.size + 1, 0, none⟩ = some (.int .i64 kb) := by rw [cell_of_row _ _ 0 _ _ _ HY.out]; rfl
  have c3 : w6.cell? ⟨W.heap.size + 1, 1, none⟩ = some (.int .i64 b) := by rw [cell_of_row _ _ 1 _ _ _ HY.out]; rfl
  go_wp2_with fail
  refine (H6.out _ HB.out.1).mono ?_
  rintro e w7 ⟨rfl, hb⟩
  clear c0 c1 c2 c3
  replace HX := Aside0.mk ((hb.block _ (Array.getElem?_eq_some_iff.1 HX.out).1).trans HX.out)
  replace HY := Aside0.mk ((hb.block _ (Array.getElem?_eq_some_iff.1 HY.out).1).trans HY.out)
  replace HB := Aside0.mk (And.intro (HB.out.1.trans (hb.mono HB.out.1.size)) (HB.out.2.trans (hb.mono HB.out.2.size)))
  clear hb
  have c0 : w7.cell? ⟨W.heap.size, 0, none⟩ = some (.int .i64 ka) := by rw [cell_of_row _ _ 0 _ _ _ HX.out]; rfl
  have c1 : w7.cell? ⟨W.heap.size, 1, none⟩ = some (.int .i64 a) := by rw [cell_of_row _ _ 1 _ _ _ HX.out]; rfl
  have c2 : w7.cell? ⟨W.heap.size + 1, 0, none⟩ = some (.int .i64 kb) := by rw [cell_of_row _ _ 0 _ _ _ HY.out]; rfl
  have c3 : w7.cell? ⟨W.heap.size + 1, 1, none⟩ = some (.int .i64 b) := by rw [cell_of_row _ _ 1 _ _ _ HY.out]; rfl
  go_wp2_with fail
  refine (H7.out _ HB.out.1).mono ?_
  rintro e w8 ⟨rfl, hb⟩
  clear c0 c1 c2 c3
  replace HX := Aside0.mk ((hb.block _ (Array.getElem?_eq_some_iff.1 HX.out).1).trans HX.out)
  replace HY := Aside0.mk ((hb.block _ (Array.getElem?_eq_some_iff.1 HY.out).1).trans HY.out)
  replace HB := Aside0.mk (And.intro (HB.out.1.trans (hb.mono HB.out.1.size)) (HB.out.2.trans (hb.mono HB.out.2.size)))
  clear hb
  have c0 : w8.cell? ⟨W.heap.size, 0, none⟩ = some (.int .i64 ka) := by rw [cell_of_row _ _ 0 _ _ _ HX.out]; rfl
  have c1 : w8.cell? ⟨W.heap.size, 1, none⟩ = some (.int .i64 a) := by rw [cell_of_row _ _ 1 _ _ _ HX.out]; rfl
  have c2 : w8.cell? ⟨W.heap.size + 1, 0, none⟩ = some (.int .i64 kb) := by rw [cell_of_row _ _ 0 _ _ _ HY.out]; rfl
  have c3 : w8.cell? ⟨W.heap.size + 1, 1, none⟩ = some (.int .i64 b) := by rw [cell_of_row _ _ 1 _ _ _ HY.out]; rfl
  go_wp2_with fail
  refine (H8.out _ HB.out.1).mono ?_
  rintro e w9 ⟨rfl, hb⟩
  clear c0 c1 c2 c3
  replace HX := Aside0.mk ((hb.block _ (Array.getElem?_eq_some_iff.1 HX.out).1).trans HX.out)
  replace HY := Aside0.mk ((hb.block _ (Array.getElem?_eq_some_iff.1 HY.out).1).trans HY.out)
  replace HB := Aside0.mk (And.intro (HB.out.1.trans (hb.mono HB.out.1.size)) (HB.out.2.trans (hb.mono HB.out.2.size)))
  clear hb
  go_wp2_with fail
  go_ret
  exact ⟨rfl, HB.out.2⟩
set_option maxRecDepth 100000 in
set_option maxHeartbeats 4000000 in
theorem ordered_eq (p : Value) (w : World) (ka a kb b : Int) (X Y : Value) (hX : X = .agg #[.int .i64 ka, .int .i64 a]) (hY : Y = .agg #[.int .i64 kb, .int .i64 b])
    (h0 : Ans p w 27 X Y false) (h1 : Ans p w 27 Y X false) (h2 : Ans p w 28 X Y true) (h3 : Ans p w 28 Y X true) (h4 : Ans p w 25 X Y true) (h5 : Ans p w 25 Y X true) (h6 : Ans p w 26 X Y false) (h7 : Ans p w 26 Y X false) (h8 : Ans p w 25 X X true) (W : World) (hW : Below w.heap.size w W) :
    Calls Tryz.prog 13 #[p, X, Y, .bool false, .bool true] W fun e w' => e = .returned (.bool true) ∧ Below W.heap.size W w' := by
  subst hX
  subst hY
  have H0 := Aside0.mk h0
  have H1 := Aside0.mk h1
  have H2 := Aside0.mk h2
  have H3 := Aside0.mk h3
  have H4 := Aside0.mk h4
  have H5 := Aside0.mk h5
  have H6 := Aside0.mk h6
  have H7 := Aside0.mk h7
  have H8 := Aside0.mk h8
  have HB := Aside0.mk (And.intro hW (Below.refl W.heap.size W))
  clear hW h0 h1 h2 h3 h4 h5 h6 h7 h8
  go_enter Tryz.func13, Tryz.ntmps13
  go_wp2_with fail
  refine (H0.out _ (HB.out.1.trans (((below_alloc1 W _).alloc (by simp) _).mono HB.out.1.size))).mono ?_
  rintro e w1 ⟨rfl, hb⟩
  have HX := Aside0.mk ((hb.block _ (by simp <;> omega)).trans ((Below.heap_alloc (W.alloc (.cells #[.int .i64 ka, .int .i64 a] 41)) (.cells #[.int .i64 kb, .int .i64 b] 41) _ (by simp)).trans (heap_alloc_last W (.cells #[.int .i64 ka, .int .i64 a] 41))))
  have HY := Aside0.mk ((hb.block _ (by simp)).trans (heap_alloc2_new W (.cells #[.int .i64 ka, .int .i64 a] 41) (.cells #[.int .i64 kb, .int .i64 b] 41)))
  have HB1 := Aside0.mk (((below_alloc1 W (.cells #[.int .i64 ka, .int .i64 a] 41)).alloc (by simp) (.cells #[.int .i64 kb, .int .i64 b] 41)).trans (hb.mono (by simp; omega)))
  replace HB := Aside0.mk (And.intro (HB.out.1.trans (HB1.out.mono HB.out.1.size)) HB1.out)
  clear hb HB1
  have c0 : w1.cell? ⟨W.heap.size, 0, none⟩ = some (.int .i64 ka) := by rw [cell_of_row _ _ 0 _ _ _ HX.out]; rfl
  have c1 : w1.cell? ⟨W.heap.size, 1, none⟩ = some (.int .i64 a) := by rw [cell_of_row _ _ 1 _ _ _ HX.out]; rfl
  have c2 : w1.cell? ⟨W.heap.size + 1, 0, none⟩ = some (.int .i64 kb) := by rw [cell_of_row _ _ 0 _ _ _ HY.out]; rfl
  have c3 : w1.cell? ⟨W.heap.size + 1, 1, none⟩ = some (.int .i64 b) := by rw [cell_of_row _ _ 1 _ _ _ HY.out]; rfl
  go_wp2_with fail
  refine (H1.out _ HB.out.1).mono ?_
  rintro e w2 ⟨rfl, hb⟩
  clear c0 c1 c2 c3
  replace HX := Aside0.mk ((hb.block _ (Array.getElem?_eq_some_iff.1 HX.out).1).trans HX.out)
  replace HY := Aside0.mk ((hb.block _ (Array.getElem?_eq_some_iff.1 HY.out).1).trans HY.out)
  replace HB := Aside0.mk (And.intro (HB.out.1.trans (hb.mono HB.out.1.size)) (HB.out.2.trans (hb.mono HB.out.2.size)))
  clear hb
  have c0 : w2.cell? ⟨W.heap.size, 0, none⟩ = some (.int .i64 ka) := by rw [cell_of_row _ _ 0 _ _ _ HX.out]; rfl
  have c1 : w2.cell? ⟨W.heap.size, 1, none⟩ = some (.int .i64 a) := by rw [cell_of_row _ _ 1 _ _ _ HX.out]; rfl
  have c2 : w2.cell? ⟨W.heap.size + 1, 0, none⟩ = some (.int .i64 kb) := by rw [cell_of_row _ _ 0 _ _ _ HY.out]; rfl
  have c3 : w2.cell? ⟨W.heap.size + 1, 1, none⟩ = some (.int .i64 b) := by rw [cell_of_row _ _ 1 _ _ _ HY.out]; rfl
  go_wp2_with fail
  refine (H2.out _ HB.out.1).mono ?_
  rintro e w3 ⟨rfl, hb⟩
  clear c0 c1 c2 c3
  replace HX := Aside0.mk ((hb.block _ (Array.getElem?_eq_some_iff.1 HX.out).1).trans HX.out)
  replace HY := Aside0.mk ((hb.block _ (Array.getElem?_eq_some_iff.1 HY.out).1).trans HY.out)
  replace HB := Aside0.mk (And.intro (HB.out.1.trans (hb.mono HB.out.1.size)) (HB.out.2.trans (hb.mono HB.out.2.size)))
  clear hb
  have c0 : w3.cell? ⟨W.heap.size, 0, none⟩ = some (.int .i64 ka) := by rw [cell_of_row _ _ 0 _ _ _ HX.out]; rfl
  have c1 : w3.cell? ⟨W.heap.size, 1, none⟩ = some (.int .i64 a) := by rw [cell_of_row _ _ 1 _ _ _ HX.out]; rfl
  have c2 : w3.cell? ⟨W.heap.size + 1, 0, none⟩ = some (.int .i64 kb) := by rw [cell_of_row _ _ 0 _ _ _ HY.out]; rfl
  have c3 : w3.cell? ⟨W.heap.size + 1, 1, none⟩ = some (.int .i64 b) := by rw [cell_of_row _ _ 1 _ _ _ HY.out]; rfl
  go_wp2_with fail
  refine (H3.out _ HB.out.1).mono ?_
  rintro e w4 ⟨rfl, hb⟩
  clear c0 c1 c2 c3
  replace HX := Aside0.mk ((hb.block _ (Array.getElem?_eq_some_iff.1 HX.out).1).trans HX.out)
  replace HY := Aside0.mk ((hb.block _ (Array.getElem?_eq_some_iff.1 HY.out).1).trans HY.out)
  replace HB := Aside0.mk (And.intro (HB.out.1.trans (hb.mono HB.out.1.size)) (HB.out.2.trans (hb.mono HB.out.2.size)))
  clear hb
  have c0 : w4.cell? ⟨W.heap.size, 0, none⟩ = some (.int .i64 ka) := by rw [cell_of_row _ _ 0 _ _ _ HX.out]; rfl
  have c1 : w4.cell? ⟨W.heap.size, 1, none⟩ = some (.int .i64 a) := by rw [cell_of_row _ _ 1 _ _ _ HX.out]; rfl
  have c2 : w4.cell? ⟨W.heap.size + 1, 0, none⟩ = some (.int .i64 kb) := by rw [cell_of_row _ _ 0 _ _ _ HY.out]; rfl
  have c3 : w4.cell? ⟨W.heap.size + 1, 1, none⟩ = some (.int .i64 b) := by rw [cell_of_row _ _ 1 _ _ _ HY.out]; rfl
  go_wp2_with fail
  refine (H4.out _ HB.out.1).mono ?_
  rintro e w5 ⟨rfl, hb⟩
  clear c0 c1 c2 c3
  replace HX := Aside0.mk ((hb.block _ (Array.getElem?_eq_some_iff.1 HX.out).1).trans HX.out)
  replace HY := Aside0.mk ((hb.block _ (Array.getElem?_eq_some_iff.1 HY.out).1).trans HY.out)
  replace HB := Aside0.mk (And.intro (HB.out.1.trans (hb.mono HB.out.1.size)) (HB.out.2.trans (hb.mono HB.out.2.size)))
  clear hb
  have c0 : w5.cell? ⟨W.heap.size, 0, none⟩ = some (.int .i64 ka) := by rw [cell_of_row _ _ 0 _ _ _ HX.out]; rfl
  have c1 : w5.cell? ⟨W.heap.size, 1, none⟩ = some (.int .i64 a) := by rw [cell_of_row _ _ 1 _ _ _ HX.out]; rfl
  have c2 : w5.cell? ⟨W.heap.size + 1, 0, none⟩ = some (.int .i64 kb) := by rw [cell_of_row _ _ 0 _ _ _ HY.out]; rfl
  have c3 : w5.cell? ⟨W.heap.size + 1, 1, none⟩ = some (.int .i64 b) := by rw [cell_of_row _ _ 1 _ _ _ HY.out]; rfl
  go_wp2_with fail
  refine (H5.out _ HB.out.1).mono ?_
  rintro e w6 ⟨rfl, hb⟩
  clear c0 c1 c2 c3
  replace HX := Aside0.mk ((hb.block _ (Array.getElem?_eq_some_iff.1 HX.out).1).trans HX.out)
  replace HY := Aside0.mk ((hb.block _ (Array.getElem?_eq_some_iff.1 HY.out).1).trans HY.out)
  replace HB := Aside0.mk (And.intro (HB.out.1.trans (hb.mono HB.out.1.size)) (HB.out.2.trans (hb.mono HB.out.2.size)))
  clear hb
  have c0 : w6.cell? ⟨W.heap.size, 0, none⟩ = some (.int .i64 ka) := by rw [cell_of_row _ _ 0 _ _ _ HX.out]; rfl
  have c1 : w6.cell? ⟨W.heap.size, 1, none⟩ = some (.int .i64 a) := by rw [cell_of_row _ _ 1 _ _ _ HX.out]; rfl
  have c2 : w6.cell? ⟨W.heap.size + 1, 0, none⟩ = some (.int .i64 kb) := by rw [cell_of_row _ _ 0 _ _ _ HY.out]; rfl
  have c3 : w6.cell? ⟨W.heap.size + 1, 1, none⟩ = some (.int .i64 b) := by rw [cell_of_row _ _ 1 _ _ _ HY.out]; rfl
  go_wp2_with fail
  refine (H6.out _ HB.out.1).mono ?_
  rintro e w7 ⟨rfl, hb⟩
  clear c0 c1 c2 c3
  replace HX := Aside0.mk ((hb.block _ (Array.getElem?_eq_some_iff.1 HX.out).1).trans HX.out)
  replace HY := Aside0.mk ((hb.block _ (Array.getElem?_eq_some_iff.1 HY.out).1).trans HY.out)
  replace HB := Aside0.mk (And.intro (HB.out.1.trans (hb.mono HB.out.1.size)) (HB.out.2.trans (hb.mono HB.out.2.size)))
  clear hb
  have c0 : w7.cell? ⟨W.heap.size, 0, none⟩ = some (.int .i64 ka) := by rw [cell_of_row _ _ 0 _ _ _ HX.out]; rfl
  have c1 : w7.cell? ⟨W.heap.size, 1, none⟩ = some (.int .i64 a) := by rw [cell_of_row _ _ 1 _ _ _ HX.out]; rfl
  have c2 : w7.cell? ⟨W.heap.size + 1, 0, none⟩ = some (.int .i64 kb) := by rw [cell_of_row _ _ 0 _ _ _ HY.out]; rfl
  have c3 : w7.cell? ⟨W.heap.size + 1, 1, none⟩ = some (.int .i64 b) := by rw [cell_of_row _ _ 1 _ _ _ HY.out]; rfl
  go_wp2_with fail
  refine (H7.out _ HB.out.1).mono ?_
  rintro e w8 ⟨rfl, hb⟩
  clear c0 c1 c2 c3
  replace HX := Aside0.mk ((hb.block _ (Array.getElem?_eq_some_iff.1 HX.out).1).trans HX.out)
  replace HY := Aside0.mk ((hb.block _ (Array.getElem?_eq_some_iff.1 HY.out).1).trans HY.out)
  replace HB := Aside0.mk (And.intro (HB.out.1.trans (hb.mono HB.out.1.size)) (HB.out.2.trans (hb.mono HB.out.2.size)))
  clear hb
  have c0 : w8.cell? ⟨W.heap.size, 0, none⟩ = some (.int .i64 ka) := by rw [cell_of_row _ _ 0 _ _ _ HX.out]; rfl
  have c1 : w8.cell? ⟨W.heap.size, 1, none⟩ = some (.int .i64 a) := by rw [cell_of_row _ _ 1 _ _ _ HX.out]; rfl
  have c2 : w8.cell? ⟨W.heap.size + 1, 0, none⟩ = some (.int .i64 kb) := by rw [cell_of_row _ _ 0 _ _ _ HY.out]; rfl
  have c3 : w8.cell? ⟨W.heap.size + 1, 1, none⟩ = some (.int .i64 b) := by rw [cell_of_row _ _ 1 _ _ _ HY.out]; rfl
  go_wp2_with fail
  refine (H8.out _ HB.out.1).mono ?_
  rintro e w9 ⟨rfl, hb⟩
  clear c0 c1 c2 c3
  replace HX := Aside0.mk ((hb.block _ (Array.getElem?_eq_some_iff.1 HX.out).1).trans HX.out)
  replace HY := Aside0.mk ((hb.block _ (Array.getElem?_eq_some_iff.1 HY.out).1).trans HY.out)
  replace HB := Aside0.mk (And.intro (HB.out.1.trans (hb.mono HB.out.1.size)) (HB.out.2.trans (hb.mono HB.out.2.size)))
  clear hb
  go_wp2_with fail
  go_ret
  exact ⟨rfl, HB.out.2⟩
set_option maxRecDepth 100000 in
set_option maxHeartbeats 4000000 in
theorem ordered_gt (p : Value) (w : World) (ka a kb b : Int) (X Y : Value) (hX : X = .agg #[.int .i64 ka, .int .i64 a]) (hY : Y = .agg #[.int .i64 kb, .int .i64 b])
    (h0 : Ans p w 27 X Y false) (h1 : Ans p w 27 Y X true) (h2 : Ans p w 28 X Y false) (h3 : Ans p w 28 Y X true) (h4 : Ans p w 25 X Y false) (h5 : Ans p w 25 Y X false) (h6 : Ans p w 26 X Y true) (h7 : Ans p w 26 Y X true) (h8 : Ans p w 25 X X true) (W : World) (hW : Below w.heap.size w W) :
    Calls Tryz.prog 13 #[p, X, Y, .bool false, .bool false] W fun e w' => e = .returned (.bool true) ∧ Below W.heap.size W w' := by
  subst hX
  subst hY
  have H0 := Aside0.mk h0
  have H1 := Aside0.mk h1
  have H2 := Aside0.mk h2
  have H3 := Aside0.mk h3
  have H4 := Aside0.mk h4
  have H5 := Aside0.mk h5
  have H6 := Aside0.mk h6
  have H7 := Aside0.mk h7
  have H8 := Aside0.mk h8
  have HB := Aside0.mk (And.intro hW (Below.refl W.heap.size W))
  clear hW h0 h1 h2 h3 h4 h5 h6 h7 h8
  go_enter Tryz.func13, Tryz.ntmps13
  go_wp2_with fail
  refine (H0.out _ (HB.out.1.trans (((below_alloc1 W _).alloc (by simp) _).mono HB.out.1.size))).mono ?_
  rintro e w1 ⟨rfl, hb⟩
  have HX := Aside0.mk ((hb.block _ (by simp <;> omega)).trans ((Below.heap_alloc (W.alloc (.cells #[.int .i64 ka, .int .i64 a] 41)) (.cells #[.int .i64 kb, .int .i64 b] 41) _ (by simp)).trans (heap_alloc_last W (.cells #[.int .i64 ka, .int .i64 a] 41))))
  have HY := Aside0.mk ((hb.block _ (by simp)).trans (heap_alloc2_new W (.cells #[.int .i64 ka, .int .i64 a] 41) (.cells #[.int .i64 kb, .int .i64 b] 41)))
  have HB1 := Aside0.mk (((below_alloc1 W (.cells #[.int .i64 ka, .int .i64 a] 41)).alloc (by simp) (.cells #[.int .i64 kb, .int .i64 b] 41)).trans (hb.mono (by simp; omega)))
  replace HB := Aside0.mk (And.intro (HB.out.1.trans (HB1.out.mono HB.out.1.size)) HB1.out)
  clear hb HB1
  have c0 : w1.cell? ⟨W.heap.size, 0, none⟩ = some (.int .i64 ka) := by rw [cell_of_row _ _ 0 _ _ _ HX.out]; rfl
  have c1 : w1.cell? ⟨W.heap.size, 1, none⟩ = some (.int .i64 a) := by rw [cell_of_row _ _ 1 _ _ _ HX.out]; rfl
  have c2 : w1.cell? ⟨W.heap.size + 1, 0, none⟩ = some (.int .i64 kb) := by rw [cell_of_row _ _ 0 _ _ _ HY.out]; rfl
  have c3 : w1.cell? ⟨W.heap.size + 1, 1, none⟩ = some (.int .i64 b) := by rw [cell_of_row _ _ 1 _ _ _ HY.out]; rfl
  go_wp2_with fail
  refine (H1.out _ HB.out.1).mono ?_
  rintro e w2 ⟨rfl, hb⟩
  clear c0 c1 c2 c3
  replace HX := Aside0.mk ((hb.block _ (Array.getElem?_eq_some_iff.1 HX.out).1).trans HX.out)
  replace HY := Aside0.mk ((hb.block _ (Array.getElem?_eq_some_iff.1 HY.out).1).trans HY.out)
  replace HB := Aside0.mk (And.intro (HB.out.1.trans (hb.mono HB.out.1.size)) (HB.out.2.trans (hb.mono HB.out.2.size)))
  clear hb
  have c0 : w2.cell? ⟨W.heap.size, 0, none⟩ = some (.int .i64 ka) := by rw [cell_of_row _ _ 0 _ _ _ HX.out]; rfl
  have c1 : w2.cell? ⟨W.heap.size, 1, none⟩ = some (.int .i64 a) := by rw [cell_of_row _ _ 1 _ _ _ HX.out]; rfl
  have c2 : w2.cell? ⟨W.heap.size + 1, 0, none⟩ = some (.int .i64 kb) := by rw [cell_of_row _ _ 0 _ _ _ HY.out]; rfl
  have c3 : w2.cell? ⟨W.heap.size + 1, 1, none⟩ = some (.int .i64 b) := by rw [cell_of_row _ _ 1 _ _ _ HY.out]; rfl
  go_wp2_with fail
  refine (H2.out _ HB.out.1).mono ?_
  rintro e w3 ⟨rfl, hb⟩
  clear c0 c1 c2 c3
  replace HX := Aside0.mk ((hb.block _ (Array.getElem?_eq_some_iff.1 HX.out).1).trans HX.out)
  replace HY := Aside0.mk ((hb.block _ (Array.getElem?_eq_some_iff.1 HY.out).1).trans HY.out)
  replace HB := Aside0.mk (And.intro (HB.out.1.trans (hb.mono HB.out.1.size)) (HB.out.2.trans (hb.mono HB.out.2.size)))
  clear hb
  have c0 : w3.cell? ⟨W.heap.size, 0, none⟩ = some (.int .i64 ka) := by rw [cell_of_row _ _ 0 _ _ _ HX.out]; rfl
  have c1 : w3.cell? ⟨W.heap.size, 1, none⟩ = some (.int .i64 a) := by rw [cell_of_row _ _ 1 _ _ _ HX.out]; rfl
  have c2 : w3.cell? ⟨W.heap.size + 1, 0, none⟩ = some (.int .i64 kb) := by rw [cell_of_row _ _ 0 _ _ _ HY.out]; rfl
  have c3 : w3.cell? ⟨W.heap.size + 1, 1, none⟩ = some (.int .i64 b) := by rw [cell_of_row _ _ 1 _ _ _ HY.out]; rfl
  go_wp2_with fail
  refine (H3.out _ HB.out.1).mono ?_
  rintro e w4 ⟨rfl, hb⟩
  clear c0 c1 c2 c3
  replace HX := Aside0.mk ((hb.block _ (Array.getElem?_eq_some_iff.1 HX.out).1).trans HX.out)
  replace HY := Aside0.mk ((hb.block _ (Array.getElem?_eq_some_iff.1 HY.out).1).trans HY.out)
  replace HB := Aside0.mk (And.intro (HB.out.1.trans (hb.mono HB.out.1.size)) (HB.out.2.trans (hb.mono HB.out.2.size)))
  clear hb
  have c0 : w4.cell? ⟨W.heap.size, 0, none⟩ = some (.int .i64 ka) := by rw [cell_of_row _ _ 0 _ _ _ HX.out]; rfl
  have c1 : w4.cell? ⟨W.heap.size, 1, none⟩ = some (.int .i64 a) := by rw [cell_of_row _ _ 1 _ _ _ HX.out]; rfl
  have c2 : w4.cell? ⟨W.heap.size + 1, 0, none⟩ = some (.int .i64 kb) := by rw [cell_of_row _ _ 0 _ _ _ HY.out]; rfl
  have c3 : w4.cell? ⟨W.heap.size + 1, 1, none⟩ = some (.int .i64 b) := by rw [cell_of_row _ _ 1 _ _ _ HY.out]; rfl
  go_wp2_with fail
  refine (H4.out _ HB.out.1).mono ?_
  rintro e w5 ⟨rfl, hb⟩
  clear c0 c1 c2 c3
  replace HX := Aside0.mk ((hb.block _ (Array.getElem?_eq_some_iff.1 HX.out).1).trans HX.out)
  replace HY := Aside0.mk ((hb.block _ (Array.getElem?_eq_some_iff.1 HY.out).1).trans HY.out)
  replace HB := Aside0.mk (And.intro (HB.out.1.trans (hb.mono HB.out.1.size)) (HB.out.2.trans (hb.mono HB.out.2.size)))
  clear hb
  have c0 : w5.cell? ⟨W.heap.size, 0, none⟩ = some (.int .i64 ka) := by rw [cell_of_row _ _ 0 _ _ _ HX.out]; rfl
  have c1 : w5.cell? ⟨W.heap.size, 1, none⟩ = some (.int .i64 a) := by rw [cell_of_row _ _ 1 _ _ _ HX.out]; rfl
  have c2 : w5.cell? ⟨W.heap.size + 1, 0, none⟩ = some (.int .i64 kb) := by rw [cell_of_row _ _ 0 _ _ _ HY.out]; rfl
  have c3 : w5.cell? ⟨W.heap.size + 1, 1, none⟩ = some (.int .i64 b) := by rw [cell_of_row _ _ 1 _ _ _ HY.out]; rfl
  go_wp2_with fail
  refine (H5.out _ HB.out.1).mono ?_
  rintro e w6 ⟨rfl, hb⟩
  clear c0 c1 c2 c3
  replace HX := Aside0.mk ((hb.block _ (Array.getElem?_eq_some_iff.1 HX.out).1).trans HX.out)
  replace HY := Aside0.mk ((hb.block _ (Array.getElem?_eq_some_iff.1 HY.out).1).trans HY.out)
  replace HB := Aside0.mk (And.intro (HB.out.1.trans (hb.mono HB.out.1.size)) (HB.out.2.trans (hb.mono HB.out.2.size)))
  clear hb
  have c0 : w6.cell? ⟨W.heap.size, 0, none⟩ = some (.int .i64 ka) := by rw [cell_of_row _ _ 0 _ _ _ HX.out]; rfl
  have c1 : w6.cell? ⟨W.heap.size, 1, none⟩ = some (.int .i64 a) := by rw [cell_of_row _ _ 1 _ _ _ HX.out]; rfl
  have c2 : w6.cell? ⟨W.heap.size + 1, 0, none⟩ = some (.int .i64 kb) := by rw [cell_of_row _ _ 0 _ _ _ HY.out]; rfl
  have c3 : w6.cell? ⟨W.heap.size + 1, 1, none⟩ = some (.int .i64 b) := by rw [cell_of_row _ _ 1 _ _ _ HY.out]; rfl
  go_wp2_with fail
  refine (H6.out _ HB.out.1).mono ?_
  rintro e w7 ⟨rfl, hb⟩
  clear c0 c1 c2 c3
  replace HX := Aside0.mk ((hb.block _ (Array.getElem?_eq_some_iff.1 HX.out).1).trans HX.out)
  replace HY := Aside0.mk ((hb.block _ (Array.getElem?_eq_some_iff.1 HY.out).1).trans HY.out)
  replace HB := Aside0.mk (And.intro (HB.out.1.trans (hb.mono HB.out.1.size)) (HB.out.2.trans (hb.mono HB.out.2.size)))
  clear hb
  have c0 : w7.cell? ⟨W.heap.size, 0, none⟩ = some (.int .i64 ka) := by rw [cell_of_row _ _ 0 _ _ _ HX.out]; rfl
  have c1 : w7.cell? ⟨W.heap.size, 1, none⟩ = some (.int .i64 a) := by rw [cell_of_row _ _ 1 _ _ _ HX.out]; rfl
  have c2 : w7.cell? ⟨W.heap.size + 1, 0, none⟩ = some (.int .i64 kb) := by rw [cell_of_row _ _ 0 _ _ _ HY.out]; rfl
  have c3 : w7.cell? ⟨W.heap.size + 1, 1, none⟩ = some (.int .i64 b) := by rw [cell_of_row _ _ 1 _ _ _ HY.out]; rfl
  go_wp2_with fail
  refine (H7.out _ HB.out.1).mono ?_
  rintro e w8 ⟨rfl, hb⟩
  clear c0 c1 c2 c3
  replace HX := Aside0.mk ((hb.block _ (Array.getElem?_eq_some_iff.1 HX.out).1).trans HX.out)
  replace HY := Aside0.mk ((hb.block _ (Array.getElem?_eq_some_iff.1 HY.out).1).trans HY.out)
  replace HB := Aside0.mk (And.intro (HB.out.1.trans (hb.mono HB.out.1.size)) (HB.out.2.trans (hb.mono HB.out.2.size)))
  clear hb
  have c0 : w8.cell? ⟨W.heap.size, 0, none⟩ = some (.int .i64 ka) := by rw [cell_of_row _ _ 0 _ _ _ HX.out]; rfl
  have c1 : w8.cell? ⟨W.heap.size, 1, none⟩ = some (.int .i64 a) := by rw [cell_of_row _ _ 1 _ _ _ HX.out]; rfl
  have c2 : w8.cell? ⟨W.heap.size + 1, 0, none⟩ = some (.int .i64 kb) := by rw [cell_of_row _ _ 0 _ _ _ HY.out]; rfl
  have c3 : w8.cell? ⟨W.heap.size + 1, 1, none⟩ = some (.int .i64 b) := by rw [cell_of_row _ _ 1 _ _ _ HY.out]; rfl
  go_wp2_with fail
  refine (H8.out _ HB.out.1).mono ?_
  rintro e w9 ⟨rfl, hb⟩
  clear c0 c1 c2 c3
  replace HX := Aside0.mk ((hb.block _ (Array.getElem?_eq_some_iff.1 HX.out).1).trans HX.out)
  replace HY := Aside0.mk ((hb.block _ (Array.getElem?_eq_some_iff.1 HY.out).1).trans HY.out)
  replace HB := Aside0.mk (And.intro (HB.out.1.trans (hb.mono HB.out.1.size)) (HB.out.2.trans (hb.mono HB.out.2.size)))
  clear hb
  go_wp2_with fail
  go_ret
  exact ⟨rfl, HB.out.2⟩
end Go.Proofs.YtkeneiahhmbojaaGreatDoor
