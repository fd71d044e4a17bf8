/-
  The law OpsOrder: of two whole numbers, and of two texts.
-/
import Derived.Test.YtkeneiahhmbojaaGreatDoorOo
namespace Go.Proofs.YtkeneiahhmbojaaGreatDoor
open Go.RowKit Go.MapKept
open Go.Proofs.YtkeneiahhmbojaaGreatDoorW.PrintWords Go.Proofs.YtkeneiahhmbojaaGreatDoorW.PrintMore

theorem add_wx (w : World) (B pw b : Nat) (row : List ByteArray) (t : ByteArray) (o : Obj) (h : Wq w B pw b row) (hB : B ≤ w.heap.size) (hs : t.size ≤ maxLen) (hn : (row.length + 1) * 16 ≤ 140737488355328) :
    Calls Tryz.prog 12 #[.pointer (some ⟨b, 0, none⟩), .string t] (w.alloc o) fun e w' => e = .returned (.int .i64 (posOf row t : Int)) ∧ Wq w' B pw b (rowAdd row t) ∧ Below B w w' ∧ w'.heap[w.heap.size]? = some o := by
  have hlt := h.lt
  obtain ⟨⟨c0, c1, c2, hp⟩, hA⟩ := h
  have hA2 : AtS (w.alloc o) (fun k => B ≤ k ∧ k ≠ pw ∧ k ≠ w.heap.size) b row :=
    (hA.lt.kept (w' := w.alloc o) (fun k _ hk => Below.heap_alloc _ _ _ hk)).mono fun k hk => ⟨hk.1.1, hk.1.2, by have := hk.2; omega⟩
  refine (add_S _ _ b row t hA2 hs hn).mono fun e w' ⟨he, hA', hk⟩ => ⟨he, ⟨⟨c0, c1, c2, ?_⟩, hA'.mono fun k hk' => ?_⟩, ?_, ?_⟩
  · exact (hk.block pw (by simp; omega) (fun hc => hc.2.1 rfl)).trans ((Below.heap_alloc _ _ _ hlt).trans hp)
  · rw [heap_alloc_size'] at hk'
    rcases hk' with hk' | hk'
    · exact ⟨hk'.1, hk'.2.1⟩
    · exact ⟨by omega, by omega⟩
  · exact ((Below.refl _ _).alloc hB _).trans (hk.below (fun k hk => hk.1) (by simp; omega))
  · exact (hk.block _ (by simp) (fun hc => hc.2.2 rfl)).trans (heap_alloc_last w o)

set_option maxRecDepth 100000 in
set_option maxHeartbeats 4000000 in
theorem order_walk (a b : Int) (s t : ByteArray) (hs : s.size ≤ maxLen) (ht : t.size ≤ maxLen) (w : World) :
    Calls Tryz.prog 5 #[.int .i64 a, .int .i64 b, .string s, .string t] w fun e w' => e = .returned (.bool true) ∧ Below w.heap.size w w' := by
  have HS := Aside0.mk hs
  have HT := Aside0.mk ht
  clear hs ht
  go_enter Tryz.func5, Tryz.ntmps5
  go_wp2_with fail
  refine (empty_wq _).mono ?_
  rintro e w1 ⟨pw, bt, rfl, hq, hb⟩
  have HQ := Aside0.mk hq
  have HB := Aside0.mk hb
  clear hq hb
  obtain ⟨⟨c0, c1, c2, hst⟩, _⟩ := HQ.out
  have e3 : w1.cell? ⟨pw, 3, none⟩ = some (.pointer (some ⟨bt, 0, none⟩)) := by rw [cell_of_row _ _ 3 _ _ _ hst]; rfl
  clear hst
  go_wp2_with fail
  refine (add_wq _ _ _ _ _ _ HQ.out HB.out.size HS.out (by simp)).mono ?_
  rintro e w2 ⟨rfl, hq2, hb2⟩
  have HQ2 := Aside0.mk hq2
  have HB2 := Aside0.mk (HB.out.trans hb2)
  clear hq2 hb2 e3
  obtain ⟨⟨d0, d1, d2, hst⟩, _⟩ := HQ2.out
  have e3 : ∀ o, (w2.alloc o).cell? ⟨pw, 3, none⟩ = some (.pointer (some ⟨bt, 0, none⟩)) := by
    intro o
    rw [cell_of_row _ _ 3 _ _ _ ((Below.heap_alloc _ _ _ HQ2.out.lt).trans hst)]; rfl
  clear hst
  go_wp2_with fail
  refine (add_wx _ _ _ _ _ _ _ HQ2.out HB2.out.size HT.out (by have : (rowAdd [] s) = [s] := by { unfold rowAdd; simp }; rw [this]; simp)).mono ?_
  rintro e w3 ⟨rfl, hq3, hb3, hx3⟩
  have HX := Aside0.mk hx3
  have HQ3 := Aside0.mk hq3
  have HB3 := Aside0.mk (HB2.out.trans hb3)
  clear hq3 hb3 hx3 e3
  have h2 := two_rows s t
  have HW := Aside0.mk HQ3.out.wd
  have HR := Aside0.mk h2
  clear h2
  obtain ⟨i, hi⟩ : ∃ i, i = posOf ([] : List ByteArray) s := ⟨_, rfl⟩
  obtain ⟨j, hj⟩ : ∃ j, j = posOf (rowAdd [] s) t := ⟨_, rfl⟩
  have HO := Aside0.mk (ordered_texts w3 pw bt _ _ i j s t HW.out (by rw [hi]; exact HR.out.1) (by rw [hj]; exact HR.out.2.1) (by rw [hi, hj]; exact HR.out.2.2))
  rw [← hj]
  rw [← hi] at HX
  clear hi hj HR HW HQ HQ2 HQ3 HB HB2
  have HY := Aside0.mk (heap_alloc_last w3 (.cells #[.int .i64 4, .int .i64 (j : Int)] 41))
  replace HX := Aside0.mk ((Below.heap_alloc w3 (.cells #[.int .i64 4, .int .i64 (j : Int)] 41) _ (Array.getElem?_eq_some_iff.1 HX.out).1).trans HX.out)
  have HZ := Aside0.mk (below_alloc1 w3 (.cells #[.int .i64 4, .int .i64 (j : Int)] 41))
  go_wp2_with fail
  refine (whole_calls _ _).mono ?_
  rintro e w4 ⟨rfl, hb⟩
  replace HX := Aside0.mk ((hb.block _ (Array.getElem?_eq_some_iff.1 HX.out).1).trans HX.out)
  replace HY := Aside0.mk ((hb.block _ (Array.getElem?_eq_some_iff.1 HY.out).1).trans HY.out)
  replace HZ := Aside0.mk (HZ.out.trans (hb.mono HZ.out.size))
  clear hb
  go_wp2_with fail
  refine (whole_calls _ _).mono ?_
  rintro e w5 ⟨rfl, hb⟩
  replace HX := Aside0.mk ((hb.block _ (Array.getElem?_eq_some_iff.1 HX.out).1).trans HX.out)
  replace HY := Aside0.mk ((hb.block _ (Array.getElem?_eq_some_iff.1 HY.out).1).trans HY.out)
  replace HZ := Aside0.mk (HZ.out.trans (hb.mono HZ.out.size))
  clear hb
  go_wp2_with fail
  refine (ordered_ints _ _ a b _ (Below.refl _ _)).mono ?_
  rintro e w6 ⟨rfl, hb⟩
  replace HX := Aside0.mk ((hb.block _ (Array.getElem?_eq_some_iff.1 HX.out).1).trans HX.out)
  replace HY := Aside0.mk ((hb.block _ (Array.getElem?_eq_some_iff.1 HY.out).1).trans HY.out)
  replace HZ := Aside0.mk (HZ.out.trans (hb.mono HZ.out.size))
  clear hb
  have x0 : w6.cell? ⟨w2.heap.size, 0, none⟩ = some (.int .i64 4) := by rw [cell_of_row _ _ 0 _ _ _ HX.out]; rfl
  have x1 : w6.cell? ⟨w2.heap.size, 1, none⟩ = some (.int .i64 (i : Int)) := by rw [cell_of_row _ _ 1 _ _ _ HX.out]; rfl
  have y0 : w6.cell? ⟨w3.heap.size, 0, none⟩ = some (.int .i64 4) := by rw [cell_of_row _ _ 0 _ _ _ HY.out]; rfl
  have y1 : w6.cell? ⟨w3.heap.size, 1, none⟩ = some (.int .i64 (j : Int)) := by rw [cell_of_row _ _ 1 _ _ _ HY.out]; rfl
  go_wp2_with fail
  refine (HO.out _ HZ.out).mono ?_
  rintro e w7 ⟨rfl, hb⟩
  have HE := Aside0.mk (HB3.out.trans ((HZ.out.trans (hb.mono HZ.out.size)).mono HB3.out.size))
  clear hb
  go_wp2_with fail
  go_ret
  exact ⟨rfl, HE.out⟩
end Go.Proofs.YtkeneiahhmbojaaGreatDoor
