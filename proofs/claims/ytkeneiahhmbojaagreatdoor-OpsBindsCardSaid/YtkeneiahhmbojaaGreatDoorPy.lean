/-
  Of the texts behind Le, what bound functions need: two cells of a struct, the bytes of a text, Apply by its parts, a world and its index.
-/
import Derived.Test.YtkeneiahhmbojaaGreatDoorLe
import Derived.StillTailTactics
import Derived.RegionTactic
import Derived.ChangeAlike
import Derived.Test.YtkeneiahhmbojaaGreatDoorIw
namespace Go.Proofs.YtkeneiahhmbojaaGreatDoor
open Go.RowKit Go.MapKept
open Go.Proofs.YtkeneiahhmbojaaGreatDoorW.PrintWords Go.Proofs.YtkeneiahhmbojaaGreatDoorW.PrintMore
theorem two_cells {w : World} {P ty : Nat} {c0 c1 : Value} (v0 v1 : Value) (h : w.heap[P]? = some (.cells #[c0, c1] ty (0, 0))) :
    ((w.setCell ⟨P, 0, none⟩ v0).setCell ⟨P, 1, none⟩ v1).heap[P]? = some (.cells #[v0, v1] ty (0, 0)) := by
  rw [heap_setCell_same _ P 1 _ ty v1 (heap_setCell_same w P 0 _ ty v0 h)]
  simp
theorem heap3_mid (w : World) (A B C : Obj) : (((w.alloc A).alloc B).alloc C).heap[w.heap.size + 1]? = some B := (Below.heap_alloc _ _ _ (by simp)).trans (heap_alloc2_new w A B)
set_option maxRecDepth 100000 in
theorem text_calls (w : World) (pw b base : Nat) (c0 c1 c2 : Value) (row : List ByteArray) (i : Nat) (t : ByteArray) (hp : w.heap[pw]? = some (.cells #[c0, c1, c2, .pointer (some ⟨b, 0, none⟩)] 38 (0, 0))) (hA : At w base b row) (hi : row[i]? = some t) :
    Calls Tryz.prog 79 #[.pointer (some ⟨pw, 0, none⟩), .agg #[.int .i64 4, .int .i64 (i : Int)]] w fun e w' => e = .returned (.tuple #[.string t, .bool true]) ∧ Below w.heap.size w w' := by
  obtain ⟨W, hW⟩ : ∃ W, W = w.alloc (.cells #[.int .i64 4, .int .i64 (i : Int)] 41) := ⟨_, rfl⟩
  have hlt : pw < w.heap.size := (Array.getElem?_eq_some_iff.1 hp).1
  have HB := Aside0.mk (show Below w.heap.size w W by rw [hW]; exact below_alloc1 w _)
  have HA := Aside0.mk (hA.below HB.out)
  have e0 : W.cell? ⟨w.heap.size, 0, none⟩ = some (.int .i64 4) := by rw [cell_of_row _ _ 0 _ _ _ (by rw [hW]; exact heap_alloc_last w _)]; rfl
  have e1 : W.cell? ⟨w.heap.size, 1, none⟩ = some (.int .i64 (i : Int)) := by rw [cell_of_row _ _ 1 _ _ _ (by rw [hW]; exact heap_alloc_last w _)]; rfl
  have e2 : W.cell? ⟨pw, 3, none⟩ = some (.pointer (some ⟨b, 0, none⟩)) := by rw [cell_of_row _ _ 3 _ _ _ ((HB.out.block _ hlt).trans hp)]; rfl
  have HI := Aside0.mk hi
  have HT : ∀ n, Calls Tryz.prog 28 #[.pointer (some ⟨b, 0, none⟩), .int .i64 (i : Int)] (W.drewN n) fun e w' => e = .returned (.tuple #[.string t, .bool true]) ∧ W.drewN n = w' := by
    intro n
    have := at_at (W.drewN n) base b row (i : Int) (HA.out.drewN n)
    rwa [aT_get hi, aB_get hi] at this
  have HTT := Aside0.mk HT
  clear hp hA hi hlt HT
  go_enter Tryz.func79, Tryz.ntmps79
  go_wp2_with fail
  rw [← hW]
  clear hW
  go_quiet ((go_at_call 28; exact Calls.quiet_of_same ((HTT.out _).mono fun _ _ ⟨h1, h2⟩ => ⟨h1, h2.symm⟩)))
  go_wp2_with fail
  go_ret2
  exact ⟨rfl, pw_below_drewN HB.out _⟩
/-- the world's struct, and its index of texts -/
structure Wd (w : World) (pw b base : Nat) (row : List ByteArray) : Prop where
  st : ∃ c0 c1 c2, w.heap[pw]? = some (.cells #[c0, c1, c2, .pointer (some ⟨b, 0, none⟩)] 38 (0, 0))
  ix : At w base b row
theorem Wd.below {w w' : World} {pw b base : Nat} {row : List ByteArray} (h : Wd w pw b base row) (hb : Below w.heap.size w w') : Wd w' pw b base row := by
  obtain ⟨⟨c0, c1, c2, hp⟩, hA⟩ := h
  exact ⟨⟨c0, c1, c2, (hb.block _ (Array.getElem?_eq_some_iff.1 hp).1).trans hp⟩, hA.below hb⟩
theorem text_wd (w : World) (pw b base : Nat) (row : List ByteArray) (i : Nat) (t : ByteArray) (h : Wd w pw b base row) (hi : row[i]? = some t) :
    Calls Tryz.prog 79 #[.pointer (some ⟨pw, 0, none⟩), .agg #[.int .i64 4, .int .i64 (i : Int)]] w fun e w' => e = .returned (.tuple #[.string t, .bool true]) ∧ Below w.heap.size w w' := by
  obtain ⟨⟨c0, c1, c2, hp⟩, hA⟩ := h
  exact text_calls w pw b base c0 c1 c2 row i t hp hA hi
set_option maxRecDepth 100000 in
theorem apply_val2 (k A : Int) (p : Value) (g m : Nat) (pt D0 D1 : Int) (w : World)
    (hE : ∀ w, Calls Tryz.prog 32 #[.agg #[.int .i64 k, .int .i64 A]] w fun e w' => e = .returned (.tuple #[.int .i64 (m : Int), .int .i64 pt, .bool true]) ∧ Below w.heap.size w w')
    (hA : ∀ w, Calls Tryz.prog 33 #[.int .i64 k] w fun e w' => e = .returned (.bool true) ∧ w = w')
    (hD : ∀ W, Below w.heap.size w W → Calls Tryz.prog 34 #[p, .agg #[.int .i64 k, .int .i64 A], .slice (some ⟨g, 0, none⟩) m m] W fun e w' => e = .returned (.agg #[.int .i64 D0, .int .i64 D1, .int .i64 0, .bool false]) ∧ Below W.heap.size W w') :
    Calls Tryz.prog 17 #[p, .agg #[.int .i64 k, .int .i64 A], .slice (some ⟨g, 0, none⟩) m m] w fun e w' => e = .returned (.tuple #[.agg #[.int .i64 D0, .int .i64 D1], .int .i64 0, .bool true]) ∧ Below w.heap.size w w' := by
  have HE := Aside0.mk hE
  have HA := Aside0.mk hA
  have HD := Aside0.mk hD
  clear hE hA hD
  go_enter Tryz.func17, Tryz.ntmps17
  go_wp2_with fail
  refine (HE.out _).mono ?_
  rintro e w1 ⟨rfl, hb⟩
  obtain ⟨hc1, hf1⟩ := bcell hb
  have hz : w.heap.size + 1 < w1.heap.size := by have := hb.size; simp at this; omega
  have HG1 := Aside0.mk ((hb.block _ (by simp)).trans (heap_alloc2_new w (.cells #[.int .i64 k, .int .i64 A] 54) (.cells #[.int .i64 0, .int .i64 0] 41)))
  have HB1 := Aside0.mk ((((below_alloc1 w (.cells #[.int .i64 k, .int .i64 A] 54)).alloc (by simp) (.cells #[.int .i64 0, .int .i64 0] 41))).trans (hb.mono (by simp; omega)))
  clear hb
  go_wp2_with fail
  refine (HA.out _).mono ?_
  rintro e w2 ⟨rfl, rfl⟩
  have hmm : ((m : Int) != (m : Int)) = false := by simp
  go_wp2_with fail
  refine (HD.out w1 HB1.out).mono ?_
  rintro e w3 ⟨rfl, hb3⟩
  have HG3 := Aside0.mk ((hb3.block _ (Array.getElem?_eq_some_iff.1 HG1.out).1).trans HG1.out)
  have HB3 := Aside0.mk (HB1.out.trans (hb3.mono HB1.out.size))
  clear hb3 hc1 hf1
  have HG4 := Aside0.mk (fun o => (Below.heap_alloc w3 o _ (Array.getElem?_eq_some_iff.1 HG3.out).1).trans HG3.out)
  go_wp2_with (with_reducible refine wpList_store_row rfl 41 _ _ rfl (w.heap.size + 1) #[.int .i64 D0, .int .i64 D1] rfl rfl 41 _ (HG4.out _) (by kernel_rfl) (by kernel_rfl) (by kernel_rfl) ?_)
  exact bodyPost_ret (results_ctt rfl _ _ (w.heap.size + 1) 41 _ (0, 0) _ rfl (setRow_heap _ _ _ _ _ _ (HG4.out _)) Tryz.underlying41 rfl (by kernel_rfl)) rfl ⟨rfl, below_setRow (HB3.out.alloc HB3.out.size _) (by omega) _⟩
theorem below_step {w1 w2 X : World} (hb2 : Below X.heap.size X w2) (hX : Below w1.heap.size w1 X) : Below w1.heap.size w1 w2 := hX.trans (hb2.mono hX.size)
/-- the world's struct and its index, whose blocks lie from B on and apart from the struct -/
structure Wq (w : World) (B pw b : Nat) (row : List ByteArray) : Prop where
  st : ∃ c0 c1 c2, w.heap[pw]? = some (.cells #[c0, c1, c2, .pointer (some ⟨b, 0, none⟩)] 38 (0, 0))
  ix : AtS w (fun k => B ≤ k ∧ k ≠ pw) b row
theorem Wq.wd {w : World} {B pw b : Nat} {row : List ByteArray} (h : Wq w B pw b row) : Wd w pw b B row := ⟨h.st, h.ix.at fun _ hk => hk.1⟩
theorem Wq.lt {w : World} {B pw b : Nat} {row : List ByteArray} (h : Wq w B pw b row) : pw < w.heap.size := by
  obtain ⟨c0, c1, c2, hp⟩ := h.st
  exact (Array.getElem?_eq_some_iff.1 hp).1
theorem heap_alloc_size' (w : World) (o : Obj) : (w.alloc o).heap.size = w.heap.size + 1 := by simp
end Go.Proofs.YtkeneiahhmbojaaGreatDoor
