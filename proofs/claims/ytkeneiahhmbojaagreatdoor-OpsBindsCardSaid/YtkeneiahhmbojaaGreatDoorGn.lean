/-
  Object of a world.
-/
import Derived.Test.YtkeneiahhmbojaaGreatDoorGb
namespace Go.Proofs.YtkeneiahhmbojaaGreatDoor
open Go.RowKit Go.MapKept
open Go.Proofs.YtkeneiahhmbojaaGreatDoorW.PrintWords Go.Proofs.YtkeneiahhmbojaaGreatDoorW.PrintMore
open POpsBinds

inductive Cut4 (A : Nat → Option Addr → Nat → Act) (S : Nat → Option Addr → Nat → World → Prop) (a' : Act) (w' : World) : Prop
  | mk (g : Nat) (B : Option Addr) (c : Nat) (h : a' = A g B c) (hs : S g B c w')
theorem reg_cut4 {P : Program} {c : Code} {Q : Exit → Act → World → Prop} {a : Act} {w : World} (A : Nat → Option Addr → Nat → Act) (S : Nat → Option Addr → Nat → World → Prop) (h1 : c.wp P (Exit.then (Cut4 A S) (fun _ _ _ => False)) a w) (h2 : ∀ g B k w', S g B k w' → Q .normal (A g B k) w') : c.wp P Q a w :=
  Code.wp_mono (fun e a' w' h => by
    cases e with
    | normal => obtain ⟨g, B, k, rfl, hs⟩ := h; exact h2 _ _ _ _ hs
    | exit id => exact h.elim
    | goto t => exact h.elim
    | ret => exact h.elim
    | panic c => exact h.elim
    | outgrown => exact h.elim) h1
/-- an object's struct, and its items -/
structure ObjAt (V : World) (fn : Int) (l : List S41) (g : Nat) (B : Option Addr) (c : Nat) (X : World) : Prop where
  bl : Below V.heap.size V X
  ge : V.heap.size ≤ g
  row : X.heap[g]? = some (.cells #[.int .i64 8, .slice B l.length c, .slice none 0 0, .int .i64 fn, .int .i64 0, .bool false] 66 (0, 0))
  it : k41.R 41 X V.heap.size (fun k => k ≠ g) (.slice B l.length c) l
theorem ObjAt.fresh (V X w1 : World) (fn : Int) (l : List S41) (B : Option Addr) (c : Nat) (hX : Below V.heap.size V X) (hv : k41.R 41 w1 X.heap.size (fun _ => True) (.slice B l.length c) l) (hb : Below X.heap.size X w1) :
    ObjAt V fn l w1.heap.size B c (w1.alloc (.cells #[.int .i64 8, .slice B l.length c, .slice none 0 0, .int .i64 fn, .int .i64 0, .bool false] 66)) :=
  ⟨(hX.trans (hb.mono hX.size)).alloc (Nat.le_trans hX.size hb.size) _, Nat.le_trans hX.size hb.size, heap_alloc_last w1 _, Kd.R_lower (Kd.R_alloc (Kd.R_mono (Kd.R_bound hv) (fun k hk => by have := hk.2.2.1; omega)) _) hX.size⟩
theorem ObjAt.put (V X w1 : World) (fn : Int) (l : List S41) (B : Option Addr) (c : Nat) (hX : Below V.heap.size V X) (hv : k41.R 41 w1 X.heap.size (fun _ => True) (.slice B l.length c) l) (hb : Below X.heap.size X w1) (hg : X.heap[V.heap.size]? = some (.cells #[.int .i64 0, .slice none 0 0, .slice none 0 0, .int .i64 0, .int .i64 0, .bool false] 66 (0, 0))) :
    ObjAt V fn l V.heap.size B c ((((((w1.setCell ⟨V.heap.size, 0, none⟩ (.int .i64 8)).setCell ⟨V.heap.size, 1, none⟩ (.slice B l.length c)).setCell ⟨V.heap.size, 2, none⟩ (.slice none 0 0)).setCell ⟨V.heap.size, 3, none⟩ (.int .i64 fn)).setCell ⟨V.heap.size, 4, none⟩ (.int .i64 0)).setCell ⟨V.heap.size, 5, none⟩ (.bool false)) := by
  have hlt := (Array.getElem?_eq_some_iff.1 hg).1
  have h1 := (hb.block _ hlt).trans hg
  have hE := obj_end V w1 (.int .i64 8) (.slice B l.length c) (.slice none 0 0) (.int .i64 fn) (.int .i64 0) (.bool false) _ B c l hv (by omega) (hX.trans (hb.mono hX.size))
  have ho : ∀ k : Nat, k ≠ V.heap.size → ((((((w1.setCell ⟨V.heap.size, 0, none⟩ (.int .i64 8)).setCell ⟨V.heap.size, 1, none⟩ (.slice B l.length c)).setCell ⟨V.heap.size, 2, none⟩ (.slice none 0 0)).setCell ⟨V.heap.size, 3, none⟩ (.int .i64 fn)).setCell ⟨V.heap.size, 4, none⟩ (.int .i64 0)).setCell ⟨V.heap.size, 5, none⟩ (.bool false)).heap[k]? = w1.heap[k]? := fun k h => by
    rw [Below.heap_setCell _ _ _ _ h, Below.heap_setCell _ _ _ _ h, Below.heap_setCell _ _ _ _ h, Below.heap_setCell _ _ _ _ h, Below.heap_setCell _ _ _ _ h, Below.heap_setCell _ _ _ _ h]
  have hr := Kd.R_step (Kd.R_bound hv) (w1 := ((((((w1.setCell ⟨V.heap.size, 0, none⟩ (.int .i64 8)).setCell ⟨V.heap.size, 1, none⟩ (.slice B l.length c)).setCell ⟨V.heap.size, 2, none⟩ (.slice none 0 0)).setCell ⟨V.heap.size, 3, none⟩ (.int .i64 fn)).setCell ⟨V.heap.size, 4, none⟩ (.int .i64 0)).setCell ⟨V.heap.size, 5, none⟩ (.bool false))) (fun k hk _ => ho k (by have := hk.2.1; omega))
  exact ⟨hE.2, Nat.le_refl _, set6_row _ _ _ _ _ _ _ _ _ _ _ _ _ _ _ h1, Kd.R_lower (Kd.R_mono hr (fun k hk => by have := hk.2.1; omega)) hX.size⟩
theorem obj_end2 (W w1 : World) (g : Nat) (hg : W.heap.size ≤ g) (x y z u v q : Value) (n : Nat) (A1 : Option Addr) (cc1 : Nat) (l : List S41) (hv : k41.R 41 w1 n (fun _ => True) (.slice A1 l.length cc1) l) (hn : g < n) (hB : Below W.heap.size W w1) :
    k41.R 41 ((((((w1.setCell ⟨g, 0, none⟩ x).setCell ⟨g, 1, none⟩ y).setCell ⟨g, 2, none⟩ z).setCell ⟨g, 3, none⟩ u).setCell ⟨g, 4, none⟩ v).setCell ⟨g, 5, none⟩ q) W.heap.size (fun _ => True) (.slice A1 l.length cc1) l ∧ Below W.heap.size W ((((((w1.setCell ⟨g, 0, none⟩ x).setCell ⟨g, 1, none⟩ y).setCell ⟨g, 2, none⟩ z).setCell ⟨g, 3, none⟩ u).setCell ⟨g, 4, none⟩ v).setCell ⟨g, 5, none⟩ q) := by
  have ho : ∀ k : Nat, k ≠ g → ((((((w1.setCell ⟨g, 0, none⟩ x).setCell ⟨g, 1, none⟩ y).setCell ⟨g, 2, none⟩ z).setCell ⟨g, 3, none⟩ u).setCell ⟨g, 4, none⟩ v).setCell ⟨g, 5, none⟩ q).heap[k]? = w1.heap[k]? := fun k h => by
    rw [Below.heap_setCell _ _ _ _ h, Below.heap_setCell _ _ _ _ h, Below.heap_setCell _ _ _ _ h, Below.heap_setCell _ _ _ _ h, Below.heap_setCell _ _ _ _ h, Below.heap_setCell _ _ _ _ h]
  have hr := Kd.R_step (Kd.R_bound hv) (w1 := ((((((w1.setCell ⟨g, 0, none⟩ x).setCell ⟨g, 1, none⟩ y).setCell ⟨g, 2, none⟩ z).setCell ⟨g, 3, none⟩ u).setCell ⟨g, 4, none⟩ v).setCell ⟨g, 5, none⟩ q)) (fun k hk _ => ho k (by have := hk.2.1; omega))
  have k0 : Kp W w1 (fun _ => False) := ⟨hB.os, hB.tape, hB.output, hB.size, fun k hk _ => hB.block k hk⟩
  have k6 := Kp.setCell (Kp.setCell (Kp.setCell (Kp.setCell (Kp.setCell (Kp.setCell (k0) (p := ⟨g, 0, none⟩) (.inr hg) x) (p := ⟨g, 1, none⟩) (.inr hg) y) (p := ⟨g, 2, none⟩) (.inr hg) z) (p := ⟨g, 3, none⟩) (.inr hg) u) (p := ⟨g, 4, none⟩) (.inr hg) v) (p := ⟨g, 5, none⟩) (.inr hg) q
  exact ⟨Kd.R_lower (Kd.R_mono hr (fun _ _ => trivial)) (by omega), k6.os, k6.tape, k6.output, k6.size, fun k hk => k6.block k hk (fun h => h)⟩
inductive CutC (A : Act) (S : World → Prop) (a' : Act) (w' : World) : Prop
  | mk (h : a' = A) (hs : S w')
theorem reg_cutC {P : Program} {c : Code} {Q : Exit → Act → World → Prop} {a : Act} {w : World} (A : Act) (S : World → Prop) (h1 : c.wp P (Exit.then (CutC A S) (fun _ _ _ => False)) a w) (h2 : ∀ w', S w' → Q .normal A w') : c.wp P Q a w :=
  Code.wp_mono (fun e a' w' h => by
    cases e with
    | normal => obtain ⟨rfl, hs⟩ := h; exact h2 _ hs
    | exit id => exact h.elim
    | goto t => exact h.elim
    | ret => exact h.elim
    | panic c => exact h.elim
    | outgrown => exact h.elim) h1
/-- an object's struct in the results' block -/
structure ObjEnd (W : World) (fn : Int) (l : List S41) (B : Option Addr) (c : Nat) (X : World) : Prop where
  row : X.heap[W.heap.size + 1]? = some (.cells #[.int .i64 8, .slice B l.length c, .slice none 0 0, .int .i64 fn, .int .i64 0, .bool false] 66 (0, 0))
  it : k41.R 41 X W.heap.size (fun _ => True) (.slice B l.length c) l
  bl : Below W.heap.size W X
theorem ObjEnd.drew {W : World} {fn : Int} {l : List S41} {B : Option Addr} {c : Nat} {X : World} (h : ObjEnd W fn l B c X) : ObjEnd W fn l B c X.drew := ⟨h.row, Kd.R_drew h.it, below_drew h.bl⟩
set_option maxRecDepth 100000 in
set_option maxHeartbeats 40000000 in
theorem worldObject_calls (W : World) (n0 pw hp j t : Nat) (sp fn : Int) (v p0 p1 p3 : Value) (bs : List Nat) (A : Option Addr) (c : Nat) (l : List S41) (hpw : W.heap[pw]? = some (.cells #[p0, p1, .pointer (some ⟨hp, 0, none⟩), p3] 38 (0, 0))) (hh : W.heap[hp]? = some (.cells #[.int .i64 1048576, .int .i64 sp, v] 94 (0, 0))) (hth : kTh.R 96 W n0 (fun _ => True) v bs) (hj : bs[j]? = some t) (hlen : bs.length ≤ 8) (ht : W.heap[t]? = some (.cells #[.int .i64 fn, .slice A l.length c] 132 (0, 0))) (hr : Kd.C k41 W A l.length l) (hl : l.length ≤ 64) :
    Calls Tryz.prog 92 #[.pointer (some ⟨pw, 0, none⟩), .agg #[.int .i64 8, .int .i64 (j : Int)]] W fun e w' => ∃ A' c', e = .returned (.tuple #[.agg #[.int .i64 8, .slice A' l.length c', .slice none 0 0, .int .i64 fn, .int .i64 0, .bool false], .bool true]) ∧ k41.R 41 w' W.heap.size (fun _ => True) (.slice A' l.length c') l ∧ Below W.heap.size W w' := by
  have HO := Aside0.mk (fun X (hX : Below W.heap.size W X) => heapObject_calls X n0 hp j t sp fn v bs A c l ((hX.block hp (Array.getElem?_eq_some_iff.1 hh).1).trans hh) (Kd.R_below hth hX) hj hlen ((hX.block t (Array.getElem?_eq_some_iff.1 ht).1).trans ht) (Kd.C_below hr hX) hl)
  have HC := Aside0.mk (fun X (hX : Below W.heap.size W X) => (hX.block pw (Array.getElem?_eq_some_iff.1 hpw).1).trans hpw)
  have hplt := (Array.getElem?_eq_some_iff.1 hpw).1
  have HL := Aside0.mk hl
  clear hpw hh hth hj hlen ht hr hl
  go_enter Tryz.func92, Tryz.ntmps92
  go_wp2_with fail
  have hV : Below W.heap.size W ((W.alloc (.cells #[.int .i64 8, .int .i64 (j : Int)] 41)).alloc (.cells #[.int .i64 0, .slice none 0 0, .slice none 0 0, .int .i64 0, .int .i64 0, .bool false] 66)) := below_alloc (below_alloc (Below.refl _ _) _) _
  have v0 := (Below.heap_alloc (W.alloc (.cells #[.int .i64 8, .int .i64 (j : Int)] 41)) (.cells #[.int .i64 0, .slice none 0 0, .slice none 0 0, .int .i64 0, .int .i64 0, .bool false] 66) W.heap.size (by simp)).trans (heap_alloc_last W _)
  have v1 := heap_alloc2_new W (.cells #[.int .i64 8, .int .i64 (j : Int)] 41) (.cells #[.int .i64 0, .slice none 0 0, .slice none 0 0, .int .i64 0, .int .i64 0, .bool false] 66)
  have v2 := HC.out _ hV
  revert hV v0 v1 v2
  generalize (W.alloc (.cells #[.int .i64 8, .int .i64 (j : Int)] 41)).alloc (.cells #[.int .i64 0, .slice none 0 0, .slice none 0 0, .int .i64 0, .int .i64 0, .bool false] 66) = V
  intro hV v0 v1 v2
  have HV0 := Aside0.mk (And.intro hV (And.intro v0 v1))
  have HOV := Aside0.mk (fun X (hX : Below V.heap.size V X) => HO.out X (hV.trans (hX.mono hV.size)))
  have c0 : V.cell? ⟨W.heap.size, 1, none⟩ = some (.int .i64 (j : Int)) := by rw [cell_of_row _ _ 1 _ _ _ v0]; rfl
  have c2 : V.cell? ⟨pw, 2, none⟩ = some (.pointer (some ⟨hp, 0, none⟩)) := by rw [cell_of_row _ _ 2 _ _ _ v2]; rfl
  have z1 : W.heap.size < V.heap.size := (Array.getElem?_eq_some_iff.1 v0).1
  have z2 : pw < V.heap.size := (Array.getElem?_eq_some_iff.1 v2).1
  have z3 : W.heap.size ≠ V.heap.size := by omega
  have z4 : pw ≠ V.heap.size := by omega
  clear hV v0 v1 v2 HO HC
  refine reg_cut4 ?A1 (ObjAt V fn l) ?_ ?_
  rotate_left 1
  · go_region_with (go_at_call 22; refine (HOV.out _ (by (first | exact Below.refl _ _ | exact below_drew (Below.refl _ _) | exact below_alloc (Below.refl _ _) _ | exact below_drew (below_alloc (Below.refl _ _) _) | exact below_alloc (below_drew (Below.refl _ _)) _))).mono ?_; rintro e w1 ⟨A1, cc1, rfl, hv, hb⟩; obtain ⟨hc1, hf1⟩ := bcell hb; (try simp only [World.size_drew] at hc1 hf1); (try simp only [World.size_alloc] at hc1 hf1); have HV := Aside0.mk (And.intro hv hb); clear hv hb)
    all_goals (try go_simp)
    all_goals (first
      | (refine ⟨w1.heap.size, A1, cc1, ?_, ?_⟩; rotate_left 1; (with_reducible exact ObjAt.fresh V _ w1 fn l A1 cc1 (by (first | exact Below.refl _ _ | exact below_drew (Below.refl _ _) | exact below_alloc (Below.refl _ _) _ | exact below_drew (below_alloc (Below.refl _ _) _) | exact below_alloc (below_drew (Below.refl _ _)) _)) HV.out.1 HV.out.2); generalize w1.heap.size = g; exact rfl)
      | (refine ⟨V.heap.size, A1, cc1, ?_, ?_⟩; rotate_left 1; (exact ObjAt.put V _ w1 fn l A1 cc1 (by (first | exact Below.refl _ _ | exact below_drew (Below.refl _ _) | exact below_alloc (Below.refl _ _) _ | exact below_drew (below_alloc (Below.refl _ _) _) | exact below_alloc (below_drew (Below.refl _ _)) _)) HV.out.1 HV.out.2 (by first | exact heap_alloc_last V _ | exact heap_alloc_last V.drew _)); generalize V.heap.size = g; exact rfl)
      | go_outline)
  intro g B k W2 hO
  have HOB := Aside0.mk hO
  have hrow := hO.row
  have hr0 := (hO.bl.block W.heap.size z1).trans HV0.out.2.1
  have hr1 := (hO.bl.block (W.heap.size + 1) (Array.getElem?_eq_some_iff.1 HV0.out.2.2).1).trans HV0.out.2.2
  have b0 : W2.cell? ⟨W.heap.size, 0, none⟩ = some (.int .i64 8) := by rw [cell_of_row _ _ 0 _ _ _ hr0]; rfl
  have x0 : W2.cell? ⟨W.heap.size + 1, 0, none⟩ = some (.int .i64 0) := by rw [cell_of_row _ _ 0 _ _ _ hr1]; rfl
  have y0 : W2.frozen? ⟨W.heap.size + 1, 0, none⟩ = false := frozen_of_row W2 _ 0 _ _ hr1
  have x1 : W2.cell? ⟨W.heap.size + 1, 1, none⟩ = some (.slice none 0 0) := by rw [cell_of_row _ _ 1 _ _ _ hr1]; rfl
  have y1 : W2.frozen? ⟨W.heap.size + 1, 1, none⟩ = false := frozen_of_row W2 _ 1 _ _ hr1
  have x2 : W2.cell? ⟨W.heap.size + 1, 2, none⟩ = some (.slice none 0 0) := by rw [cell_of_row _ _ 2 _ _ _ hr1]; rfl
  have y2 : W2.frozen? ⟨W.heap.size + 1, 2, none⟩ = false := frozen_of_row W2 _ 2 _ _ hr1
  have x3 : W2.cell? ⟨W.heap.size + 1, 3, none⟩ = some (.int .i64 0) := by rw [cell_of_row _ _ 3 _ _ _ hr1]; rfl
  have y3 : W2.frozen? ⟨W.heap.size + 1, 3, none⟩ = false := frozen_of_row W2 _ 3 _ _ hr1
  have x4 : W2.cell? ⟨W.heap.size + 1, 4, none⟩ = some (.int .i64 0) := by rw [cell_of_row _ _ 4 _ _ _ hr1]; rfl
  have y4 : W2.frozen? ⟨W.heap.size + 1, 4, none⟩ = false := frozen_of_row W2 _ 4 _ _ hr1
  have x5 : W2.cell? ⟨W.heap.size + 1, 5, none⟩ = some (.bool false) := by rw [cell_of_row _ _ 5 _ _ _ hr1]; rfl
  have y5 : W2.frozen? ⟨W.heap.size + 1, 5, none⟩ = false := frozen_of_row W2 _ 5 _ _ hr1
  have g0 : W2.cell? ⟨g, 0, none⟩ = some (.int .i64 8) := by rw [cell_of_row _ _ 0 _ _ _ hrow]; rfl
  have g1 : W2.cell? ⟨g, 1, none⟩ = some (.slice B l.length k) := by rw [cell_of_row _ _ 1 _ _ _ hrow]; rfl
  have g2 : W2.cell? ⟨g, 2, none⟩ = some (.slice none 0 0) := by rw [cell_of_row _ _ 2 _ _ _ hrow]; rfl
  have g3 : W2.cell? ⟨g, 3, none⟩ = some (.int .i64 fn) := by rw [cell_of_row _ _ 3 _ _ _ hrow]; rfl
  have g4 : W2.cell? ⟨g, 4, none⟩ = some (.int .i64 0) := by rw [cell_of_row _ _ 4 _ _ _ hrow]; rfl
  have g5 : W2.cell? ⟨g, 5, none⟩ = some (.bool false) := by rw [cell_of_row _ _ 5 _ _ _ hrow]; rfl
  have HR1 := Aside0.mk hr1
  have z5 : W.heap.size + 1 < V.heap.size := (Array.getElem?_eq_some_iff.1 HV0.out.2.2).1
  have z6 : W.heap.size + 1 ≠ g := by have := hO.ge; omega
  have HE := obj_end2 W W2 (W.heap.size + 1) (Nat.le_succ _) (.int .i64 8) (.slice B l.length k) (.slice none 0 0) (.int .i64 fn) (.int .i64 0) (.bool false) _ B k l (Kd.R_mono HOB.out.it (fun _ _ => trivial)) z5 (HV0.out.1.trans (HOB.out.bl.mono HV0.out.1.size))
  have HOE := Aside0.mk (show ObjEnd W fn l B k ((((((W2.setCell ⟨W.heap.size + 1, 0, none⟩ (.int .i64 8)).setCell ⟨W.heap.size + 1, 1, none⟩ (.slice B l.length k)).setCell ⟨W.heap.size + 1, 2, none⟩ (.slice none 0 0)).setCell ⟨W.heap.size + 1, 3, none⟩ (.int .i64 fn)).setCell ⟨W.heap.size + 1, 4, none⟩ (.int .i64 0)).setCell ⟨W.heap.size + 1, 5, none⟩ (.bool false)) from ⟨set6_row _ _ _ _ _ _ _ _ _ _ _ _ _ _ _ hr1, HE.1, HE.2⟩)
  clear HE
  clear hO hrow hr0 hr1 c0 c2 HOV
  go_wp2_with (fail)
  refine reg_cutC ?A2 (ObjEnd W fn l B k) ?_ ?_
  rotate_left 1
  · go_region_with (fail)
    all_goals (try go_simp)
    all_goals (first
      | (refine CutC.mk ?_ ?_; rotate_left 1; (with_reducible exact HOE.out); exact rfl)
      | (refine CutC.mk ?_ ?_; rotate_left 1; (with_reducible exact HOE.out.drew); exact rfl)
      | go_outline)
  intro X hX
  have HX := Aside0.mk hX
  clear hX
  go_wp2_with (fail)
  exact bodyPost_ret (results_ct rfl _ _ (W.heap.size + 1) 66 #[.int .i64 8, .slice B l.length k, .slice none 0 0, .int .i64 fn, .int .i64 0, .bool false] (0, 0) _ rfl HX.out.row Tryz.underlying66 rfl (by kernel_rfl)) rfl ⟨B, k, rfl, HX.out.it, HX.out.bl⟩
end Go.Proofs.YtkeneiahhmbojaaGreatDoor
