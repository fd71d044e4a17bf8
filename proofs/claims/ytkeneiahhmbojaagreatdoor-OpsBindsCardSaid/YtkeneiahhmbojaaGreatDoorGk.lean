/-
  works: the small world that the document fixes.
-/
import Derived.Test.YtkeneiahhmbojaaGreatDoorPc
import Derived.Test.YtkeneiahhmbojaaGreatDoorPOpsBindsx2
namespace Go.Proofs.YtkeneiahhmbojaaGreatDoor
open Go.RowKit Go.MapKept
open Go.Proofs.YtkeneiahhmbojaaGreatDoorW.PrintWords Go.Proofs.YtkeneiahhmbojaaGreatDoorW.PrintMore
open POpsBinds

def main1 : S61 := ⟨⟨#[109, 97, 105, 110]⟩, 0, 0, [⟨1, 0⟩, ⟨44, 0⟩], []⟩
theorem copy_main : portageref0_CopyProgram.f 20 [] [main1] = some ([], [main1]) := by kernel_rfl
theorem C_row1 {α : Type} {d : Kd α} {W : World} {g : Nat} {cs : Array Value} {e : TypeId} {x : α} (hg : W.heap[g]? = some (.cells cs e (0, 0))) (hl : cs.size = d.sz) (hK : d.K W x cs.toList) : d.C W (some ⟨g, 0, none⟩) 1 [x] := by
  refine ⟨rfl, by decide, fun _ => ⟨_, rfl, fun j p hj => ?_⟩⟩
  have hj0 : j = 0 := by have := (List.getElem?_eq_some_iff.1 hj).1; simp at this; exact this
  subst hj0
  simp at hj
  subst hj
  refine ⟨cs.toList, by simpa using hl, hK, fun i u hu => ?_⟩
  rw [Nat.zero_mul, Nat.zero_add, add_plain, blk_cell hg]
  simpa using hu
theorem C_row2 {α : Type} {d : Kd α} {W : World} {g : Nat} {cs : Array Value} {c1 c2 : List Value} {e : TypeId} {x y : α} (hg : W.heap[g]? = some (.cells cs e (0, 0))) (hc : cs.toList = c1 ++ c2) (h1 : c1.length = d.sz) (h2 : c2.length = d.sz) (hx : d.K W x c1) (hy : d.K W y c2) : d.C W (some ⟨g, 0, none⟩) 2 [x, y] := by
  refine ⟨rfl, by decide, fun _ => ⟨_, rfl, fun j p hj => ?_⟩⟩
  have key : ∀ k u, (c1 ++ c2)[k]? = some u → W.cell? ⟨g, k, none⟩ = some u := fun k u hu => by
    rw [blk_cell hg]
    rw [← hc] at hu
    simpa using hu
  have hj0 : j = 0 ∨ j = 1 := by have := (List.getElem?_eq_some_iff.1 hj).1; simp at this; omega
  rcases hj0 with rfl | rfl
  · simp at hj
    subst hj
    refine ⟨c1, h1, hx, fun i u hu => ?_⟩
    rw [Nat.zero_mul, Nat.zero_add, add_plain]
    exact key i u (by rw [List.getElem?_append_left (List.getElem?_eq_some_iff.1 hu).1]; exact hu)
  · simp at hj
    subst hj
    refine ⟨c2, h2, hy, fun i u hu => ?_⟩
    rw [Nat.one_mul, add_plain]
    exact key _ u (by rw [List.getElem?_append_right (by omega), show d.sz + i - c1.length = i by omega]; exact hu)
theorem alloc4 (w : World) (a b c d : Obj) : ((((w.alloc a).alloc b).alloc c).alloc d).heap[w.heap.size]? = some a ∧ ((((w.alloc a).alloc b).alloc c).alloc d).heap[w.heap.size + 1]? = some b ∧ ((((w.alloc a).alloc b).alloc c).alloc d).heap[w.heap.size + 1 + 1]? = some c ∧
    ((((w.alloc a).alloc b).alloc c).alloc d).heap[w.heap.size + 1 + 1 + 1]? = some d ∧ Below w.heap.size w ((((w.alloc a).alloc b).alloc c).alloc d) ∧ ((((w.alloc a).alloc b).alloc c).alloc d).heap.size = w.heap.size + 4 := by
  have h : ∀ k : Nat, ((((w.alloc a).alloc b).alloc c).alloc d).heap[k]? = ((((w.heap.push a).push b).push c).push d)[k]? := fun k => rfl
  refine ⟨?_, ?_, ?_, ?_, ((((Below.refl _ w).alloc (Nat.le_refl _) _).alloc (by simp) _).alloc (by simp; omega) _).alloc (by simp; omega) _, by simp⟩
  all_goals
    rw [h]
    simp only [Array.getElem?_push, Array.size_push]
    repeat (first | (rw [if_pos (by omega)]; done) | rw [if_neg (by omega)])
    try simp
def ta : ByteArray := ⟨#[97]⟩
def tab : ByteArray := ⟨#[97, 98]⟩
def aab : ByteArray := ⟨#[97, 97, 98]⟩
theorem cat_ab : ta ++ tab = aab := by decide
theorem row_ab : rowAdd [ta, tab] aab = [ta, tab, aab] := by decide
theorem pos_ab : posOf [ta, tab] aab = 2 := by decide
set_option maxRecDepth 100000 in
theorem made_main (w w4 : World) (hw : (((w.alloc (Obj.cells #[Value.int IntKind.i64 1, Value.int IntKind.i64 0, Value.int IntKind.i64 44, Value.int IntKind.i64 0] 54)).alloc (Obj.cells #[Value.string { data := #[109, 97, 105, 110] }, Value.int IntKind.i64 0, Value.int IntKind.i64 0, Value.slice (some { block := w.heap.size, off := 0 }) 2 2, Value.slice none 0 0] 61)).alloc
          (Obj.cells #[Value.slice none 0 0, Value.slice (some { block := w.heap.size + 1, off := 0 }) 1 1] 34)).alloc (Obj.cells #[Value.string { data := #[97] }, Value.string { data := #[97, 98] }] 9) = w4) :
    Below w.heap.size w w4 ∧ Calls Tryz.prog 16 #[.agg #[.slice none 0 0, .slice (some ⟨w.heap.size + 1, 0, none⟩) 1 1, .slice (some ⟨w.heap.size + 1 + 1 + 1, 0, none⟩) 2 2, .slice none 0 0, .int .i64 10, .int .i64 0]] w4 (IsMade w4 10 [ta, tab]) := by
  obtain ⟨a1, a2, _, a4, a5, _⟩ := alloc4 w (Obj.cells #[Value.int IntKind.i64 1, Value.int IntKind.i64 0, Value.int IntKind.i64 44, Value.int IntKind.i64 0] 54) (Obj.cells #[Value.string { data := #[109, 97, 105, 110] }, Value.int IntKind.i64 0, Value.int IntKind.i64 0, Value.slice (some { block := w.heap.size, off := 0 }) 2 2, Value.slice none 0 0] 61)
    (Obj.cells #[Value.slice none 0 0, Value.slice (some { block := w.heap.size + 1, off := 0 }) 1 1] 34) (Obj.cells #[Value.string { data := #[97] }, Value.string { data := #[97, 98] }] 9)
  rw [hw] at a1 a2 a4 a5
  refine ⟨a5, made_calls 10 _ _ _ 2 [ta, tab] w4 (C_row2 (d := Kd.string) (c1 := [.string ta]) (c2 := [.string tab]) a4 rfl rfl rfl rfl rfl) (by decide) (by decide) (by decide) load_10 fun W hW => ?_⟩
  have b1 := (hW.block _ (Array.getElem?_eq_some_iff.1 a1).1).trans a1
  have b2 := (hW.block _ (Array.getElem?_eq_some_iff.1 a2).1).trans a2
  have hc : k54.C W (some ⟨w.heap.size, 0, none⟩) 2 [⟨1, 0⟩, ⟨44, 0⟩] := C_row2 (c1 := [.int .i64 1, .int .i64 0]) (c2 := [.int .i64 44, .int .i64 0]) b1 rfl rfl rfl (k54_mk _ _) (k54_mk _ _)
  have hf : k61.C W (some ⟨w.heap.size + 1, 0, none⟩) 1 [main1] := C_row1 b2 rfl (k61_mk W main1 (by decide) hc (by decide) (Kd.C_nil _ _))
  exact (portageref0_CopyProgram.calls 20 none 0 [] _ 1 [main1] [] [main1] W (Kd.C_nil _ _) (by decide) hf (by decide) copy_main).mono fun e w' ⟨v0, v1, he, _, _, hb⟩ => ⟨⟨_, _, he⟩, hb⟩
set_option maxRecDepth 100000 in
theorem works_calls (w : World) : Calls Tryz.prog 15 #[] w fun e w' => e = .returned (.bool true) ∧ Below w.heap.size w w' := by
  go_enter Tryz.func15, Tryz.ntmps15
  go_wp2_with fail
  obtain ⟨w4, hw4⟩ : ∃ w4, (((w.alloc (Obj.cells #[Value.int IntKind.i64 1, Value.int IntKind.i64 0, Value.int IntKind.i64 44, Value.int IntKind.i64 0] 54)).alloc (Obj.cells #[Value.string { data := #[109, 97, 105, 110] }, Value.int IntKind.i64 0, Value.int IntKind.i64 0, Value.slice (some { block := w.heap.size, off := 0 }) 2 2, Value.slice none 0 0] 61)).alloc
          (Obj.cells #[Value.slice none 0 0, Value.slice (some { block := w.heap.size + 1, off := 0 }) 1 1] 34)).alloc (Obj.cells #[Value.string { data := #[97] }, Value.string { data := #[97, 98] }] 9) = w4 := ⟨_, rfl⟩
  rw [hw4]
  obtain ⟨hb4, hmade⟩ := made_main w w4 hw4
  have HB4 := Aside0.mk hb4
  clear hw4 hb4
  refine hmade.mono ?_
  rintro e w5 ⟨pw, hp, b, S, rfl, hWt, hS, hpw, hhp, hb⟩
  have HT := Aside0.mk (And.intro hWt (And.intro hS hhp))
  have HB5 := Aside0.mk (HB4.out.trans (hb.mono HB4.out.size))
  clear hWt hS hb hpw hhp hmade
  go_wp2_with fail
  have hba := below_alloc1 w5 (Obj.cells #[Value.int IntKind.i64 4, Value.int IntKind.i64 0, Value.int IntKind.i64 4, Value.int IntKind.i64 1] 41)
  refine (apply_cat _ (fun k => S k ∧ k < w5.heap.size) pw hp b w5.heap.size 0 1 10 0 [ta, tab] ta tab (HT.out.1.lo.below hba) rfl rfl (heap_alloc_last _ _) (fun hc => absurd hc.2 (Nat.lt_irrefl _)) (by have := HT.out.1.lth; omega) (by decide) (by decide) (by decide) (by decide) (by decide)).mono ?_
  rintro e w7 ⟨rfl, S7, hW7, hS7⟩
  have HB7 := Aside0.mk (show Below w.heap.size w w7 from (HB5.out.trans (hba.mono HB5.out.size)).trans (hS7.kp.below (fun j hj => by
    have h4 := HB4.out.size
    rcases hj with hj | hj
    · have := (HT.out.2.1 j hj.1).1; omega
    · have := HT.out.2.2; omega) (by have := HB5.out.size; simp; omega)))
  rw [cat_ab, row_ab] at hW7
  rw [cat_ab, pos_ab]
  have HW7 := Aside0.mk (show Wt w7 S7 pw hp b 10 4 [ta, tab, aab] from hW7)
  obtain ⟨c0, c1, hst⟩ := hW7.st
  have e3 : ∀ o, (w7.alloc o).cell? ⟨pw, 3, none⟩ = some (.pointer (some ⟨b, 0, none⟩)) := by intro o; rw [cell_of_row _ _ 3 _ _ _ ((Below.heap_alloc _ _ _ (Array.getElem?_eq_some_iff.1 hst).1).trans hst)]; rfl
  have e2 : ∀ o, (w7.alloc o).cell? ⟨pw, 2, none⟩ = some (.pointer (some ⟨hp, 0, none⟩)) := by intro o; rw [cell_of_row _ _ 2 _ _ _ ((Below.heap_alloc _ _ _ (Array.getElem?_eq_some_iff.1 hst).1).trans hst)]; rfl
  clear hW7 hS7 hba hst
  go_wp2_with fail
  have HW8 := Aside0.mk (HW7.out.below (below_alloc1 w7 (Obj.cells #[Value.int IntKind.i64 4, Value.int IntKind.i64 2] 41)))
  obtain ⟨bm, v, D, hix, _⟩ := HW8.out.ix
  refine (at_yes _ b bm v D [ta, tab, aab] aab 2 hix rfl).mono ?_
  rintro e w8 ⟨rfl, rfl⟩
  clear hix
  have haab : aab.toList = [97, 97, 98] := by rw [ByteArray.toList_eq]; rfl
  go_wp2_with fail
  refine (spent_calls _ hp 10 4 HW8.out.hs).mono ?_
  rintro e w9 ⟨rfl, rfl⟩
  go_wp2_with fail
  go_ret
  exact ⟨rfl, HB7.out.alloc HB7.out.size _⟩
end Go.Proofs.YtkeneiahhmbojaaGreatDoor
