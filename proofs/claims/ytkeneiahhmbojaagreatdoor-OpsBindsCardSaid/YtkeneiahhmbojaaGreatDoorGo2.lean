/-
  OpsBinds: the walk, case 2.
-/
import Derived.Test.YtkeneiahhmbojaaGreatDoorGf
import Derived.Test.YtkeneiahhmbojaaGreatDoorGe
import Derived.Test.YtkeneiahhmbojaaGreatDoorGk
namespace Go.Proofs.YtkeneiahhmbojaaGreatDoor
open Go.RowKit Go.MapKept
open Go.Proofs.YtkeneiahhmbojaaGreatDoorW.PrintWords Go.Proofs.YtkeneiahhmbojaaGreatDoorW.PrintMore
open POpsBinds
set_option linter.unusedVariables false

set_option maxRecDepth 100000 in
set_option maxHeartbeats 8000000 in
theorem binds_2 (q p : Int) (hqp : q % 60 = p) (A1 : Option Addr) (c1 : Nat) (l1 : List S41) (A2 : Option Addr) (c2 : Nat) (l2 : List S41) (w : World) (g1 : Kd.C k41 w A1 l1.length l1) (n1 : l1.length ≤ c1) (g2 : Kd.C k41 w A2 l2.length l2) (n2 : l2.length ≤ c2) (h60 : l1.length ≤ 60) (h61 : l2.length ≤ 60) (h63 : l1.length + l2.length ≤ 63) (hA : (l1.length : Int) ≤ p) (hB : p < (l1.length : Int) + (l2.length : Int)) :
    Calls Tryz.prog 7 #[.int .i64 q, .slice A1 l1.length c1, .slice A2 l2.length c2] w fun e w' => e = .returned (.bool true) ∧ Below w.heap.size w w' := by
  have HC1 := Aside0.mk (fun X (hX : Fr w.heap.size w X) => Kd.C_below g1 hX.lo)
  have HC2 := Aside0.mk (fun X (hX : Fr w.heap.size w X) => Kd.C_below g2 hX.lo)
  have HN := Aside0.mk (And.intro n1 n2)
  obtain ⟨L, hL⟩ : ∃ L, L = l1 ++ l2 := ⟨_, rfl⟩
  have hLl : L.length = l1.length + l2.length := by rw [hL]; exact List.length_append
  have HL := Aside0.mk hL
  have HLl := Aside0.mk hLl
  clear g1 g2 n1 n2 hL hLl
  go_enter Tryz.func7, Tryz.ntmps7
  go_wp2_with fail
  refine (works_calls _).mono ?_
  rintro e w1 ⟨rfl, hb⟩
  have HF1 := Aside0.mk (Fr.below (n := w.heap.size) hb (Nat.le_refl _))
  clear hb
  go_wp2_with fail
  refine (pick_calls2 q 60 (by decide) (by decide) _).mono ?_
  rintro e _ ⟨rfl, rfl⟩
  rw [hqp]
  have d1 : decide ((60 : Int) < (l1.length : Int)) = false := by simp; omega
  have d2 : decide ((60 : Int) < (l2.length : Int)) = false := by simp; omega
  have hwr : IntKind.i64.wrap ((l1.length : Int) + (l2.length : Int)) = (l1.length : Int) + (l2.length : Int) := IntWalk.i64_in _ (by omega)
  have d3 : decide ((63 : Int) < (l1.length : Int) + (l2.length : Int)) = false := by simp; omega
  go_wp2_with fail
  repeat (go_quiet (fail); try go_wp2_with fail)
  refine (made_b p (w1.heap.size + 1) w.heap.size _ (heap_alloc2_new w1 _ _) (by have := HF1.out.lo.size; simp; omega)).mono ?_
  rintro e w2 ⟨pw, hp, fb, cc, rfl, hB2, hb⟩
  have HF2 := Aside0.mk (HF1.out.trans (Fr.below (((below_alloc1 w1 _).alloc (by simp) _).trans (hb.mono (by simp; omega))) HF1.out.lo.size))
  have HB3 := Aside0.mk (hB2.below (below_alloc1 w2 (.cells #[.int .i64 5, .int .i64 0] 41)))
  have HF3 := Aside0.mk (HF2.out.trans (Fr.below (below_alloc1 w2 (.cells #[.int .i64 5, .int .i64 0] 41)) HF2.out.lo.size))
  have HR3 := Aside0.mk (heap_alloc_last w2 (.cells #[.int .i64 5, .int .i64 0] 41))
  clear hB2 hb
  go_wp2_with fail
  refine (show Calls Tryz.prog 19 #[.pointer (some ⟨pw, 0, none⟩), .agg #[.int .i64 5, .int .i64 0], .slice A1 l1.length c1] _ (fun e w' => e = .returned (.tuple #[.agg #[.int .i64 8, .int .i64 0], .int .i64 0, .bool true]) ∧ Ab w.heap.size pw hp fb cc p [l1] (fun _ => True) _ w') from boundF HB3.out A1 c1 l1 (HC1.out _ HF3.out) (by omega) (by simp) (by simp [cost]) hA).mono ?_
  rintro e w3 ⟨rfl, ha⟩
  have HB4 := Aside0.mk (ha.1.mono (ok' := fun _ => True) (fun _ _ _ => trivial) |>.below (below_alloc1 w3 (.cells #[.int .i64 8, .int .i64 0] 41)))
  have HF4 := Aside0.mk ((HF3.out.trans ha.2).trans (Fr.below (below_alloc1 w3 (.cells #[.int .i64 8, .int .i64 0] 41)) (HF3.out.trans ha.2).lo.size))
  have HR4 := Aside0.mk ((Fr.below (below_alloc1 w3 (.cells #[.int .i64 8, .int .i64 0] 41)) (Nat.zero_le _)).ty _ _ _ (ha.2.ty _ _ _ HR3.out (by decide) (by decide)) (by decide) (by decide))
  clear ha
  go_wp2_with fail
  refine (show Calls Tryz.prog 19 #[.pointer (some ⟨pw, 0, none⟩), .agg #[.int .i64 8, .int .i64 0], .slice A2 l2.length c2] _ (fun e w' => e = .returned (.tuple #[.agg #[.int .i64 0, .int .i64 0], .int .i64 5, .bool true]) ∧ Ab w.heap.size pw hp fb cc p [l1] (fun _ => True) _ w') from boundBM HB4.out A2 c2 l2 (HC2.out _ HF4.out) (by omega) (by simp) 0 l1 rfl (by omega) (by rw [List.length_append]; omega)).mono ?_
  rintro e w4 ⟨rfl, ha⟩
  have HB5 := Aside0.mk (ha.1.mono (ok' := fun _ => True) (fun _ _ _ => trivial) |>.below (below_alloc1 w4 (.cells #[.int .i64 0, .int .i64 0] 41)))
  have HF5 := Aside0.mk ((HF4.out.trans ha.2).trans (Fr.below (below_alloc1 w4 (.cells #[.int .i64 0, .int .i64 0] 41)) (HF4.out.trans ha.2).lo.size))
  have HR5 := Aside0.mk ((Fr.below (below_alloc1 w4 (.cells #[.int .i64 0, .int .i64 0] 41)) (Nat.zero_le _)).ty _ _ _ (ha.2.ty _ _ _ HR4.out (by decide) (by decide)) (by decide) (by decide))
  have HY5 := Aside0.mk (heap_alloc_last w4 (.cells #[.int .i64 0, .int .i64 0] 41))
  clear ha
  go_wp2_with fail
  refine (portageref0_CopyValues.calls 300 A1 c1 l1 l1 _ (HC1.out _ HF5.out) HN.out.1 (copyV l1 (by omega))).mono ?_
  rintro e w5 ⟨v5, rfl, hv5, hb5⟩
  have HB6 := Aside0.mk (HB5.out.below hb5)
  have HF6 := Aside0.mk (HF5.out.trans (Fr.below hb5 HF5.out.lo.size))
  have HR6 := Aside0.mk ((hb5.block _ (Array.getElem?_eq_some_iff.1 HR5.out).1).trans HR5.out)
  have HY6 := Aside0.mk ((hb5.block _ (Array.getElem?_eq_some_iff.1 HY5.out).1).trans HY5.out)
  have HV5 := Aside0.mk hv5
  have HBB := Aside0.mk hb5
  clear hv5 hb5
  go_wp2_with (first | ((with_reducible refine gate_builtin (b := .append) (xs := #[.tmp 73, .tmp 74]) rfl ?_); at_builtin; refine Kd.R_append_rows k41 (Rr := k41.K w5) (w0 := w5) (w4.alloc (.cells #[.int .i64 0, .int .i64 0] 41)).heap.size rfl (.tmp 73) (.tmp 74) 55 41 (.agg #[.int .i64 0, .int .i64 0]) 16 rfl Tryz.underlying55 info41 rfl (by decide) (by omega) v5 l1 l2 A2 l2.length c2 (fun _ => True) (fun _ => False) rfl rfl ?aO ?aR ?aK (fun _ h => h.elim) (fun _ _ => trivial) (Below.refl _ _) ?aS ?aL ?_; (case aO => exact HV5.out); (case aR => exact HC2.out _ HF6.out); (case aK => intro x cs h; rw [k41_open h]; exact k41_mkM _ _ _ _); (case aS => exact HBB.out.size); (case aL => omega); intro v6 w6 ho hb hg hat; rw [← HL.out] at ho; obtain ⟨A3, c3, rfl⟩ := Kd.R_slice ho; have hbb := HBB.out.trans hb; have HV6 := Aside0.mk (And.intro ho hbb); have h56 := (hbb.block _ (Array.getElem?_eq_some_iff.1 HR5.out).1).trans HR5.out; have g0 : w6.cell? ⟨w2.heap.size, 0, none⟩ = some (.int .i64 5) := (by rw [cell_of_row _ _ 0 _ _ _ h56]; rfl); have g1 : w6.cell? ⟨w2.heap.size, 1, none⟩ = some (.int .i64 0) := (by rw [cell_of_row _ _ 1 _ _ _ h56]; rfl); clear ho hb hg hat hbb h56))
  have HB7 := Aside0.mk (HB5.out.below HV6.out.2)
  have HF7 := Aside0.mk (HF5.out.trans (Fr.below HV6.out.2 HF5.out.lo.size))
  have HY7 := Aside0.mk ((HV6.out.2.block _ (Array.getElem?_eq_some_iff.1 HY5.out).1).trans HY5.out)
  refine (show Calls Tryz.prog 19 #[.pointer (some ⟨pw, 0, none⟩), .agg #[.int .i64 5, .int .i64 0], .slice A3 L.length c3] _ (fun e w' => e = .returned (.tuple #[.agg #[.int .i64 0, .int .i64 0], .int .i64 5, .bool true]) ∧ Ab w.heap.size pw hp fb cc p [l1] (fun _ => True) _ w') from boundM HB7.out A3 c3 L (Kd.R_reads' HV6.out.1).2.2 (by have := HLl.out; omega) (by simp) (by have := HLl.out; omega)).mono ?_
  rintro e w7 ⟨rfl, ha⟩
  have HB8 := Aside0.mk (ha.1.mono (ok' := fun _ => True) (fun _ _ _ => trivial) |>.below (below_alloc1 w7 (.cells #[.int .i64 0, .int .i64 0] 41)))
  have HF8 := Aside0.mk ((HF7.out.trans ha.2).trans (Fr.below (below_alloc1 w7 (.cells #[.int .i64 0, .int .i64 0] 41)) (HF7.out.trans ha.2).lo.size))
  have HY8 := Aside0.mk ((Fr.below (below_alloc1 w7 (.cells #[.int .i64 0, .int .i64 0] 41)) (Nat.zero_le _)).ty _ _ _ (ha.2.ty _ _ _ HY7.out (by decide) (by decide)) (by decide) (by decide))
  have HZ8 := Aside0.mk (heap_alloc_last w7 (.cells #[.int .i64 0, .int .i64 0] 41))
  have HV8 := Aside0.mk (Kd.R_alloc (R41_fr HV6.out.1 ha.2) (.cells #[.int .i64 0, .int .i64 0] 41))
  have HS := Aside0.mk (And.intro (Array.getElem?_eq_some_iff.1 HY7.out).1 ha.2.lo.size)
  clear ha g0 g1
  have d4 : decide (p < (l1.length : Int)) = false := by simp; omega
  have d5 : decide (p < (L.length : Int)) = true := by have := HLl.out; simp; omega
  have g2 := HB8.out.cell
  go_wp2_with fail
  refine (show Calls Tryz.prog 21 #[.pointer (some ⟨hp, 0, none⟩)] _ (fun e w' => e = .returned (.int .i64 1) ∧ _ = w') from len_b HB8.out).mono ?_
  rintro e _ ⟨rfl, rfl⟩
  go_wp2_with fail
  go_ret
  exact ⟨rfl, HF8.out.lo⟩
end Go.Proofs.YtkeneiahhmbojaaGreatDoor
