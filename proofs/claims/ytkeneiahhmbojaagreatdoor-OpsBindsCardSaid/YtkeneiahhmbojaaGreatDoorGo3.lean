/-
  OpsBinds: the walk, case 3.
-/
import Derived.Test.YtkeneiahhmbojaaGreatDoorGf
import Derived.Test.YtkeneiahhmbojaaGreatDoorGe
import Derived.Test.YtkeneiahhmbojaaGreatDoorGk
namespace Go.Proofs.YtkeneiahhmbojaaGreatDoor
open Go.RowKit Go.MapKept
open Go.Proofs.YtkeneiahhmbojaaGreatDoorW.PrintWords Go.Proofs.YtkeneiahhmbojaaGreatDoorW.PrintMore
open POpsBinds
set_option linter.unusedVariables false

set_option maxRecDepth 100000 in
set_option maxHeartbeats 8000000 in
theorem binds_3 (q p : Int) (hqp : q % 60 = p) (A1 : Option Addr) (c1 : Nat) (l1 : List S41) (A2 : Option Addr) (c2 : Nat) (l2 : List S41) (w : World) (g1 : Kd.C k41 w A1 l1.length l1) (n1 : l1.length ≤ c1) (g2 : Kd.C k41 w A2 l2.length l2) (n2 : l2.length ≤ c2) (h60 : l1.length ≤ 60) (h61 : l2.length ≤ 60) (h63 : l1.length + l2.length ≤ 63) (hA : (l1.length : Int) ≤ p) (hB : (l1.length : Int) + (l2.length : Int) ≤ p) :
    Calls Tryz.prog 7 #[.int .i64 q, .slice A1 l1.length c1, .slice A2 l2.length c2] w fun e w' => e = .returned (.bool true) ∧ Below w.heap.size w w' := by
  have HC1 := Aside0.mk (fun X (hX : Fr w.heap.size w X) => Kd.C_below g1 hX.lo)
  have HC2 := Aside0.mk (fun X (hX : Fr w.heap.size w X) => Kd.C_below g2 hX.lo)
  have HN := Aside0.mk (And.intro n1 n2)
  obtain ⟨L, hL⟩ : ∃ L, L = l1 ++ l2 := ⟨_, rfl⟩
  have hLl : L.length = l1.length + l2.length := by rw [hL]; exact List.length_append
  have HL := Aside0.mk hL
  have HLl := Aside0.mk hLl
  clear g1 g2 n1 n2 hL hLl
  go_enter Tryz.func7, Tryz.ntmps7
  go_wp2_with fail
  refine (works_calls _).mono ?_
  rintro e w1 ⟨rfl, hb⟩
  have HF1 := Aside0.mk (Fr.below (n := w.heap.size) hb (Nat.le_refl _))
  clear hb
  go_wp2_with fail
  refine (pick_calls2 q 60 (by decide) (by decide) _).mono ?_
  rintro e _ ⟨rfl, rfl⟩
  rw [hqp]
  have d1 : decide ((60 : Int) < (l1.length : Int)) = false := by simp; omega
  have d2 : decide ((60 : Int) < (l2.length : Int)) = false := by simp; omega
  have hwr : IntKind.i64.wrap ((l1.length : Int) + (l2.length : Int)) = (l1.length : Int) + (l2.length : Int) := IntWalk.i64_in _ (by omega)
  have d3 : decide ((63 : Int) < (l1.length : Int) + (l2.length : Int)) = false := by simp; omega
  go_wp2_with fail
  repeat (go_quiet (fail); try go_wp2_with fail)
  refine (made_b p (w1.heap.size + 1) w.heap.size _ (heap_alloc2_new w1 _ _) (by have := HF1.out.lo.size; simp; omega)).mono ?_
  rintro e w2 ⟨pw, hp, fb, cc, rfl, hB2, hb⟩
  have HF2 := Aside0.mk (HF1.out.trans (Fr.below (((below_alloc1 w1 _).alloc (by simp) _).trans (hb.mono (by simp; omega))) HF1.out.lo.size))
  have HB3 := Aside0.mk (hB2.below (below_alloc1 w2 (.cells #[.int .i64 5, .int .i64 0] 41)))
  have HF3 := Aside0.mk (HF2.out.trans (Fr.below (below_alloc1 w2 (.cells #[.int .i64 5, .int .i64 0] 41)) HF2.out.lo.size))
  have HR3 := Aside0.mk (heap_alloc_last w2 (.cells #[.int .i64 5, .int .i64 0] 41))
  clear hB2 hb
  go_wp2_with fail
  refine (show Calls Tryz.prog 19 #[.pointer (some ⟨pw, 0, none⟩), .agg #[.int .i64 5, .int .i64 0], .slice A1 l1.length c1] _ (fun e w' => e = .returned (.tuple #[.agg #[.int .i64 8, .int .i64 0], .int .i64 0, .bool true]) ∧ Ab w.heap.size pw hp fb cc p [l1] (fun _ => True) _ w') from boundF HB3.out A1 c1 l1 (HC1.out _ HF3.out) (by omega) (by simp) (by simp [cost]) hA).mono ?_
  rintro e w3 ⟨rfl, ha⟩
  have HB4 := Aside0.mk (ha.1.mono (ok' := fun _ => True) (fun _ _ _ => trivial) |>.below (below_alloc1 w3 (.cells #[.int .i64 8, .int .i64 0] 41)))
  have HF4 := Aside0.mk ((HF3.out.trans ha.2).trans (Fr.below (below_alloc1 w3 (.cells #[.int .i64 8, .int .i64 0] 41)) (HF3.out.trans ha.2).lo.size))
  have HR4 := Aside0.mk ((Fr.below (below_alloc1 w3 (.cells #[.int .i64 8, .int .i64 0] 41)) (Nat.zero_le _)).ty _ _ _ (ha.2.ty _ _ _ HR3.out (by decide) (by decide)) (by decide) (by decide))
  clear ha
  go_wp2_with fail
  refine (show Calls Tryz.prog 19 #[.pointer (some ⟨pw, 0, none⟩), .agg #[.int .i64 8, .int .i64 0], .slice A2 l2.length c2] _ (fun e w' => e = .returned (.tuple #[.agg #[.int .i64 8, .int .i64 1], .int .i64 0, .bool true]) ∧ Ab w.heap.size pw hp fb cc p [l1, l1 ++ l2] (fun _ => True) _ w') from boundB HB4.out A2 c2 l2 (HC2.out _ HF4.out) (by omega) (by simp) (by simp only [cost]; omega) 0 l1 rfl (by omega) (by rw [List.length_append]; omega)).mono ?_
  rintro e w4 ⟨rfl, ha⟩
  have HB5 := Aside0.mk (ha.1.mono (ok' := fun _ => True) (fun _ _ _ => trivial) |>.below (below_alloc1 w4 (.cells #[.int .i64 8, .int .i64 1] 41)))
  have HF5 := Aside0.mk ((HF4.out.trans ha.2).trans (Fr.below (below_alloc1 w4 (.cells #[.int .i64 8, .int .i64 1] 41)) (HF4.out.trans ha.2).lo.size))
  have HR5 := Aside0.mk ((Fr.below (below_alloc1 w4 (.cells #[.int .i64 8, .int .i64 1] 41)) (Nat.zero_le _)).ty _ _ _ (ha.2.ty _ _ _ HR4.out (by decide) (by decide)) (by decide) (by decide))
  have HY5 := Aside0.mk (heap_alloc_last w4 (.cells #[.int .i64 8, .int .i64 1] 41))
  clear ha
  go_wp2_with fail
  refine (portageref0_CopyValues.calls 300 A1 c1 l1 l1 _ (HC1.out _ HF5.out) HN.out.1 (copyV l1 (by omega))).mono ?_
  rintro e w5 ⟨v5, rfl, hv5, hb5⟩
  have HB6 := Aside0.mk (HB5.out.below hb5)
  have HF6 := Aside0.mk (HF5.out.trans (Fr.below hb5 HF5.out.lo.size))
  have HR6 := Aside0.mk ((hb5.block _ (Array.getElem?_eq_some_iff.1 HR5.out).1).trans HR5.out)
  have HY6 := Aside0.mk ((hb5.block _ (Array.getElem?_eq_some_iff.1 HY5.out).1).trans HY5.out)
  have HV5 := Aside0.mk hv5
  have HBB := Aside0.mk hb5
  clear hv5 hb5
  go_wp2_with (first | ((with_reducible refine gate_builtin (b := .append) (xs := #[.tmp 73, .tmp 74]) rfl ?_); at_builtin; refine Kd.R_append_rows k41 (Rr := k41.K w5) (w0 := w5) (w4.alloc (.cells #[.int .i64 8, .int .i64 1] 41)).heap.size rfl (.tmp 73) (.tmp 74) 55 41 (.agg #[.int .i64 0, .int .i64 0]) 16 rfl Tryz.underlying55 info41 rfl (by decide) (by omega) v5 l1 l2 A2 l2.length c2 (fun _ => True) (fun _ => False) rfl rfl ?aO ?aR ?aK (fun _ h => h.elim) (fun _ _ => trivial) (Below.refl _ _) ?aS ?aL ?_; (case aO => exact HV5.out); (case aR => exact HC2.out _ HF6.out); (case aK => intro x cs h; rw [k41_open h]; exact k41_mkM _ _ _ _); (case aS => exact HBB.out.size); (case aL => omega); intro v6 w6 ho hb hg hat; rw [← HL.out] at ho; obtain ⟨A3, c3, rfl⟩ := Kd.R_slice ho; have hbb := HBB.out.trans hb; have HV6 := Aside0.mk (And.intro ho hbb); have h56 := (hbb.block _ (Array.getElem?_eq_some_iff.1 HR5.out).1).trans HR5.out; have g0 : w6.cell? ⟨w2.heap.size, 0, none⟩ = some (.int .i64 5) := (by rw [cell_of_row _ _ 0 _ _ _ h56]; rfl); have g1 : w6.cell? ⟨w2.heap.size, 1, none⟩ = some (.int .i64 0) := (by rw [cell_of_row _ _ 1 _ _ _ h56]; rfl); clear ho hb hg hat hbb h56))
  have HB7 := Aside0.mk (HB5.out.below HV6.out.2)
  have HF7 := Aside0.mk (HF5.out.trans (Fr.below HV6.out.2 HF5.out.lo.size))
  have HY7 := Aside0.mk ((HV6.out.2.block _ (Array.getElem?_eq_some_iff.1 HY5.out).1).trans HY5.out)
  refine (show Calls Tryz.prog 19 #[.pointer (some ⟨pw, 0, none⟩), .agg #[.int .i64 5, .int .i64 0], .slice A3 L.length c3] _ (fun e w' => e = .returned (.tuple #[.agg #[.int .i64 8, .int .i64 2], .int .i64 0, .bool true]) ∧ Ab w.heap.size pw hp fb cc p [l1, l1 ++ l2, L] (fun _ => True) _ w') from boundF HB7.out A3 c3 L (Kd.R_reads' HV6.out.1).2.2 (by have := HLl.out; omega) (by simp) (by simp only [cost, List.length_append]; omega) (by have := HLl.out; omega)).mono ?_
  rintro e w7 ⟨rfl, ha⟩
  have HB8 := Aside0.mk (ha.1.mono (ok' := fun _ => True) (fun _ _ _ => trivial) |>.below (below_alloc1 w7 (.cells #[.int .i64 8, .int .i64 2] 41)))
  have HF8 := Aside0.mk ((HF7.out.trans ha.2).trans (Fr.below (below_alloc1 w7 (.cells #[.int .i64 8, .int .i64 2] 41)) (HF7.out.trans ha.2).lo.size))
  have HY8 := Aside0.mk ((Fr.below (below_alloc1 w7 (.cells #[.int .i64 8, .int .i64 2] 41)) (Nat.zero_le _)).ty _ _ _ (ha.2.ty _ _ _ HY7.out (by decide) (by decide)) (by decide) (by decide))
  have HZ8 := Aside0.mk (heap_alloc_last w7 (.cells #[.int .i64 8, .int .i64 2] 41))
  have HV8 := Aside0.mk (Kd.R_alloc (R41_fr HV6.out.1 ha.2) (.cells #[.int .i64 8, .int .i64 2] 41))
  have HS := Aside0.mk (And.intro (Array.getElem?_eq_some_iff.1 HY7.out).1 ha.2.lo.size)
  clear ha g0 g1
  have d4 : decide (p < (l1.length : Int)) = false := by simp; omega
  have d5 : decide (p < (L.length : Int)) = false := by have := HLl.out; simp; omega
  go_wp2_with fail
  have hV8 : w4.heap.size < w7.heap.size + 1 := by have := HS.out; omega
  have hp8 := HB8.out.lt
  have g2 := HB8.out.cell
  have g3 : (w7.alloc (.cells #[.int .i64 8, .int .i64 2] 41)).cell? ⟨w4.heap.size, 1, none⟩ = some (.int .i64 1) := by rw [cell_of_row _ _ 1 _ _ _ HY8.out]; rfl
  have hz8 : w7.heap.size < (w7.alloc (.cells #[.int .i64 8, .int .i64 2] 41)).heap.size := by simp
  have hy8 : w4.heap.size < (w7.alloc (.cells #[.int .i64 8, .int .i64 2] 41)).heap.size := by simp; omega
  clear hV8
  obtain ⟨V, hVV⟩ : ∃ V, V = w7.alloc (.cells #[.int .i64 8, .int .i64 2] 41) := ⟨_, rfl⟩
  rw [← hVV] at HB8 HF8 HY8 HZ8 HV8 hp8 g2 g3 hz8 hy8
  rw [← hVV]
  clear hVV
  generalize w7.heap.size = zb at HZ8 hz8 ⊢
  generalize w4.heap.size = yb at HY8 g3 hy8 ⊢
  have hL64 : L.length ≤ 64 := by have := HLl.out; omega
  have HL64 := Aside0.mk hL64
  have HO8 := Aside0.mk (fun X (hX : Below V.heap.size V X) => (show Calls Tryz.prog 22 #[.pointer (some ⟨hp, 0, none⟩), .int .i64 1] X (fun e w' => ∃ A' c', e = .returned (.tuple #[.agg #[.int .i64 8, .slice A' L.length c', .slice none 0 0, .int .i64 0, .int .i64 0, .bool false], .bool true]) ∧ k41.R 41 w' X.heap.size (fun _ => True) (.slice A' L.length c') L ∧ Below X.heap.size X w') from obj_b (HB8.out.below hX) (by simp) 1 L (by show some (l1 ++ l2) = some L; rw [HL.out]) HL64.out))
  clear hL64
  have x1 : pw ≠ V.heap.size := by omega
  have x2 : yb ≠ V.heap.size := by omega
  refine reg_cut4 ?A1 (ObjAt V 0 L) ?_ ?_
  rotate_left 1
  · go_region_with (go_at_call 22; refine (HO8.out _ (by (first | exact Below.refl _ _ | exact below_drew (Below.refl _ _) | exact below_alloc (Below.refl _ _) _ | exact below_drew (below_alloc (Below.refl _ _) _) | exact below_alloc (below_drew (Below.refl _ _)) _))).mono ?_; rintro e w1 ⟨A1, cc1, rfl, hv, hb⟩; obtain ⟨hc1, hf1⟩ := bcell hb; (try simp only [World.size_drew] at hc1 hf1); (try simp only [World.size_alloc] at hc1 hf1); have HV := Aside0.mk (And.intro hv hb); clear hv hb)
    all_goals (try go_simp)
    all_goals (first
      | (refine ⟨w1.heap.size, A1, cc1, ?_, ?_⟩; rotate_left 1; (with_reducible exact ObjAt.fresh V _ w1 0 L A1 cc1 (by (first | exact Below.refl _ _ | exact below_drew (Below.refl _ _) | exact below_alloc (Below.refl _ _) _ | exact below_drew (below_alloc (Below.refl _ _) _) | exact below_alloc (below_drew (Below.refl _ _)) _)) HV.out.1 HV.out.2); generalize w1.heap.size = g; exact rfl)
      | (refine ⟨V.heap.size, A1, cc1, ?_, ?_⟩; rotate_left 1; (exact ObjAt.put V _ w1 0 L A1 cc1 (by (first | exact Below.refl _ _ | exact below_drew (Below.refl _ _) | exact below_alloc (Below.refl _ _) _ | exact below_drew (below_alloc (Below.refl _ _) _) | exact below_alloc (below_drew (Below.refl _ _)) _)) HV.out.1 HV.out.2 (by first | exact heap_alloc_last V _ | exact heap_alloc_last V.drew _)); generalize V.heap.size = g; exact rfl)
      | go_outline)
  intro ga Ba ka W8 hO
  have HOA := Aside0.mk hO
  have HB9 := Aside0.mk (HB8.out.below hO.bl)
  have HF9 := Aside0.mk (HF8.out.trans (Fr.below hO.bl HF8.out.lo.size))
  have HV9 := Aside0.mk (Kd.R_below HV8.out hO.bl)
  have g4 := HB9.out.cell
  have hp9 := HB9.out.lt
  have hz9 := hO.bl.size
  have hrz := (hO.bl.block zb hz8).trans HZ8.out
  have g5 : W8.cell? ⟨zb, 1, none⟩ = some (.int .i64 2) := by rw [cell_of_row _ _ 1 _ _ _ hrz]; rfl
  have x3 : pw ≠ W8.heap.size := by omega
  have x4 : zb ≠ W8.heap.size := by omega
  have x5 : pw < W8.heap.size := hp9
  have x6 : zb < W8.heap.size := by omega
  have HO9 := Aside0.mk (fun X (hX : Below W8.heap.size W8 X) => (show Calls Tryz.prog 22 #[.pointer (some ⟨hp, 0, none⟩), .int .i64 2] X (fun e w' => ∃ A' c', e = .returned (.tuple #[.agg #[.int .i64 8, .slice A' L.length c', .slice none 0 0, .int .i64 0, .int .i64 0, .bool false], .bool true]) ∧ k41.R 41 w' X.heap.size (fun _ => True) (.slice A' L.length c') L ∧ Below X.heap.size X w') from obj_b (HB9.out.below hX) (by simp) 2 L rfl HL64.out))
  clear hO g2 g3 x1 x2 hz8 hy8 hp8 hp9 hz9 hrz HO8
  go_wp2_with fail
  refine reg_cut4 ?A2 (ObjAt W8 0 L) ?_ ?_
  rotate_left 1
  · go_region_with (go_at_call 22; refine (HO9.out _ (by (first | exact Below.refl _ _ | exact below_drew (Below.refl _ _) | exact below_alloc (Below.refl _ _) _ | exact below_drew (below_alloc (Below.refl _ _) _) | exact below_alloc (below_drew (Below.refl _ _)) _))).mono ?_; rintro e w1 ⟨A1, cc1, rfl, hv, hb⟩; obtain ⟨hc1, hf1⟩ := bcell hb; (try simp only [World.size_drew] at hc1 hf1); (try simp only [World.size_alloc] at hc1 hf1); have HV := Aside0.mk (And.intro hv hb); clear hv hb)
    all_goals (try go_simp)
    all_goals (first
      | (refine ⟨w1.heap.size, A1, cc1, ?_, ?_⟩; rotate_left 1; (with_reducible exact ObjAt.fresh W8 _ w1 0 L A1 cc1 (by (first | exact Below.refl _ _ | exact below_drew (Below.refl _ _) | exact below_alloc (Below.refl _ _) _ | exact below_drew (below_alloc (Below.refl _ _) _) | exact below_alloc (below_drew (Below.refl _ _)) _)) HV.out.1 HV.out.2); generalize w1.heap.size = g; exact rfl)
      | (refine ⟨W8.heap.size, A1, cc1, ?_, ?_⟩; rotate_left 1; (exact ObjAt.put W8 _ w1 0 L A1 cc1 (by (first | exact Below.refl _ _ | exact below_drew (Below.refl _ _) | exact below_alloc (Below.refl _ _) _ | exact below_drew (below_alloc (Below.refl _ _) _) | exact below_alloc (below_drew (Below.refl _ _)) _)) HV.out.1 HV.out.2 (by first | exact heap_alloc_last W8 _ | exact heap_alloc_last W8.drew _)); generalize W8.heap.size = g; exact rfl)
      | go_outline)
  intro gb Bb kb W9 hO
  have HOB := Aside0.mk hO
  have hra := (hO.bl.block ga (Array.getElem?_eq_some_iff.1 HOA.out.row).1).trans HOA.out.row
  have HRA := Aside0.mk (And.intro hra hO.row)
  have HF10 := Aside0.mk (HF9.out.trans (Fr.below hO.bl HF9.out.lo.size))
  have HCA := Aside0.mk (fun X (hX : Below W9.heap.size W9 X) => Kd.C_below (Kd.R_reads' (Kd.R_below HOA.out.it hO.bl)).2.2 hX)
  have HCB := Aside0.mk (fun X (hX : Below W9.heap.size W9 X) => Kd.C_below (Kd.R_reads' hO.it).2.2 hX)
  have HCV := Aside0.mk (fun X (hX : Below W9.heap.size W9 X) => Kd.C_below (Kd.R_reads' (Kd.R_below HV9.out hO.bl)).2.2 hX)
  have HNN := Aside0.mk (And.intro (Kd.R_reads' HOA.out.it).2.1 (And.intro (Kd.R_reads' hO.it).2.1 (Kd.R_reads' HV9.out).2.1))
  have HSO := Aside0.mk (fun X (hX : Below W9.heap.size W9 X) => (show Calls Tryz.prog 23 #[.agg #[.int .i64 8, .slice Ba L.length ka, .slice none 0 0, .int .i64 0, .int .i64 0, .bool false], .agg #[.int .i64 8, .slice Bb L.length kb, .slice none 0 0, .int .i64 0, .int .i64 0, .bool false]] X (fun e w' => e = .returned (.bool true) ∧ Below X.heap.size X w') from portageref0_SameObject.calls 301 8 Ba ka L none 0 [] 0 0 false 8 Bb kb L none 0 [] 0 0 false true X (HCA.out X hX) HNN.out.1 (Kd.C_nil _ _) (Nat.le_refl _) (HCB.out X hX) HNN.out.2.1 (Kd.C_nil _ _) (Nat.le_refl _) (sameO L (by have := HL64.out; omega))))
  have HSV := Aside0.mk (fun X (hX : Below W9.heap.size W9 X) => (portageref0_SameValues.calls 300 Ba ka L A3 c3 L true X (HCA.out X hX) HNN.out.1 (HCV.out X hX) HNN.out.2.2 (sameV L (by have := HL64.out; omega))).mono (R' := fun e w' => e = .returned (.bool true) ∧ Below X.heap.size X w') (fun e w' ⟨h1, h2⟩ => ⟨h1, h2.below⟩))
  have HQ := Aside0.mk (Below.refl W9.heap.size W9)
  have HK := Aside0.mk (show ∀ X, Below W9.heap.size W9 X → X.cell? ⟨ga, 0, none⟩ = some (.int .i64 8) ∧ X.cell? ⟨ga, 1, none⟩ = some (.slice Ba L.length ka) ∧ X.cell? ⟨ga, 2, none⟩ = some (.slice none 0 0) ∧ X.cell? ⟨ga, 3, none⟩ = some (.int .i64 0) ∧ X.cell? ⟨ga, 4, none⟩ = some (.int .i64 0) ∧ X.cell? ⟨ga, 5, none⟩ = some (.bool false) ∧ X.cell? ⟨gb, 0, none⟩ = some (.int .i64 8) ∧ X.cell? ⟨gb, 1, none⟩ = some (.slice Bb L.length kb) ∧ X.cell? ⟨gb, 2, none⟩ = some (.slice none 0 0) ∧ X.cell? ⟨gb, 3, none⟩ = some (.int .i64 0) ∧ X.cell? ⟨gb, 4, none⟩ = some (.int .i64 0) ∧ X.cell? ⟨gb, 5, none⟩ = some (.bool false) from fun X hX => by
    have ra := (hX.block ga (Array.getElem?_eq_some_iff.1 HRA.out.1).1).trans HRA.out.1
    have rb := (hX.block gb (Array.getElem?_eq_some_iff.1 HRA.out.2).1).trans HRA.out.2
    refine ⟨?_, ?_, ?_, ?_, ?_, ?_, ?_, ?_, ?_, ?_, ?_, ?_⟩
    · rw [cell_of_row _ _ 0 _ _ _ ra]; rfl
    · rw [cell_of_row _ _ 1 _ _ _ ra]; rfl
    · rw [cell_of_row _ _ 2 _ _ _ ra]; rfl
    · rw [cell_of_row _ _ 3 _ _ _ ra]; rfl
    · rw [cell_of_row _ _ 4 _ _ _ ra]; rfl
    · rw [cell_of_row _ _ 5 _ _ _ ra]; rfl
    · rw [cell_of_row _ _ 0 _ _ _ rb]; rfl
    · rw [cell_of_row _ _ 1 _ _ _ rb]; rfl
    · rw [cell_of_row _ _ 2 _ _ _ rb]; rfl
    · rw [cell_of_row _ _ 3 _ _ _ rb]; rfl
    · rw [cell_of_row _ _ 4 _ _ _ rb]; rfl
    · rw [cell_of_row _ _ 5 _ _ _ rb]; rfl)
  clear hO hra g4 g5 x3 x4 x5 x6 HO9
  obtain ⟨a0, a1, a2, a3, a4, a5, b0, b1, b2, b3, b4, b5⟩ := HK.out _ HQ.out
  go_wp2_with fail
  first
    | refine (HSO.out _ (by first | exact HQ.out | exact HQ.out.drew | exact pw_below_drewN HQ.out _)).mono ?_
    | go_outline
  rintro e wv ⟨rfl, hbv⟩
  have HQ2 := Aside0.mk (show Below W9.heap.size W9 wv by first | exact HQ.out.trans (hbv.mono HQ.out.size) | exact HQ.out.drew.trans (hbv.mono HQ.out.drew.size) | exact (pw_below_drewN HQ.out _).trans (hbv.mono (pw_below_drewN HQ.out _).size))
  clear a0 a1 a2 a3 a4 a5 b0 b1 b2 b3 b4 b5 hbv
  obtain ⟨a0, a1, a2, a3, a4, a5, _, _, _, _, _, _⟩ := HK.out _ HQ2.out
  go_wp2_with fail
  first
    | refine (HSV.out _ (by first | exact HQ2.out | exact HQ2.out.drew | exact pw_below_drewN HQ2.out _)).mono ?_
    | go_outline
  rintro e wx ⟨rfl, hbx⟩
  have HQ3 := Aside0.mk (show Below W9.heap.size W9 wx by first | exact HQ2.out.trans (hbx.mono HQ2.out.size) | exact HQ2.out.drew.trans (hbx.mono HQ2.out.drew.size) | exact (pw_below_drewN HQ2.out _).trans (hbx.mono (pw_below_drewN HQ2.out _).size))
  clear a0 a1 a2 a3 a4 a5 hbx
  obtain ⟨a0, a1, a2, a3, a4, a5, _, _, _, _, _, _⟩ := HK.out _ HQ3.out
  go_wp2_with fail
  first
    | (go_ret; exact ⟨rfl, HF10.out.lo.trans (HQ3.out.mono HF10.out.lo.size)⟩)
    | go_outline
end Go.Proofs.YtkeneiahhmbojaaGreatDoor
