/-
  The law's own bound: the values are laid behind the function, and Apply binds them.
  bind at a bound function.
  bind at a bound function, of too many values.
  bound, in the world of bound functions.
  The world that the law makes; its objects, and how many they are.
-/
import Derived.Test.YtkeneiahhmbojaaGreatDoorGd
import Derived.Test.YtkeneiahhmbojaaGreatDoorGn
import Derived.Test.YtkeneiahhmbojaaGreatDoorGc
import Derived.Test.YtkeneiahhmbojaaGreatDoorGs
import Derived.Test.YtkeneiahhmbojaaGreatDoorGb
namespace Go.Proofs.YtkeneiahhmbojaaGreatDoor
open Go.RowKit Go.MapKept
open Go.Proofs.YtkeneiahhmbojaaGreatDoorW.PrintWords Go.Proofs.YtkeneiahhmbojaaGreatDoorW.PrintMore
open POpsBinds
set_option linter.unusedVariables false

set_option maxRecDepth 100000 in
theorem apply_bound (W : World) (n0 pw hp fb cc : Nat) (p : Int) (os os' : List (List S41)) (f0 f1 D0 D1 D2 : Int) (hDD : D2 = 0 ∨ (D0 = 0 ∧ D1 = 0)) (g cap : Nat) (l : List S41) (ok : Nat → Prop) (hok : ∀ k, ok k → k < W.heap.size) (hB : Bw n0 pw hp fb cc p os ok W) (hr : Kd.C k41 W (some ⟨g, 0, none⟩) ((⟨f0, f1⟩ : S41) :: l).length ((⟨f0, f1⟩ : S41) :: l)) (hl : l.length ≤ 63) (hcap : l.length + 1 ≤ cap)
    (hR : ∀ ok X B d, Bw n0 pw hp fb cc p os ok X → Kd.C k41 X B l.length l → Calls Tryz.prog 50 #[.pointer (some ⟨pw, 0, none⟩), .agg #[.int .i64 f0, .int .i64 f1], .slice B l.length d] X fun e w' => e = .returned (.agg #[.int .i64 D0, .int .i64 D1, .int .i64 D2, .bool false]) ∧ Ab n0 pw hp fb cc p os' ok X w') :
    Calls Tryz.prog 17 #[.pointer (some ⟨pw, 0, none⟩), .agg #[.int .i64 46, .int .i64 (l.length : Int)], .slice (some ⟨g, 0, none⟩) (l.length + 1) cap] W fun e w' => e = .returned (.tuple #[.agg #[.int .i64 D0, .int .i64 D1], .int .i64 D2, .bool true]) ∧ Ab n0 pw hp fb cc p os' ok W w' := by
  have hcell : W.cell? ⟨g, 0, none⟩ = some (.int .i64 f0) ∧ W.cell? ⟨g, 1, none⟩ = some (.int .i64 f1) := by
    obtain ⟨ad, hA, hc⟩ := hr.2.2 (by simp)
    cases hA
    obtain ⟨cs, _, hK, hcc⟩ := hc 0 _ rfl
    rw [k41_open hK] at hcc
    have h0 := hcc 0 _ rfl
    have h1 := hcc 1 _ rfl
    rw [Nat.zero_mul, add_plain] at h0 h1
    exact ⟨h0, h1⟩
  refine apply_bindv (l.length : Int) W n0 pw hp fb cc p os' ok hok g (l.length + 1) cap 1 D0 D1 D2 hDD hB.n1 (fun w => ?_) (fun w => applies_calls 46 (by omega) w) (fun V hV => ?_)
  · refine (effect_6_yes 46 (l.length : Int) (by decide) (by omega) [98, 105, 110, 100] 1 1 (by decide) (by decide) (by decide +kernel) w).mono ?_
    rintro e w' ⟨rfl, hb⟩
    refine ⟨?_, hb⟩
    have : ((1 : Nat) : Int) + (l.length : Int) = ((l.length + 1 : Nat) : Int) := by omega
    rw [this]
    rfl
  · have hBV : Bw n0 pw hp fb cc p os ok V := hB.below hV
    have hCV := Kd.C_below hr hV
    have hcV := fun (o : Nat) (u : Value) (h : W.cell? ⟨g, o, none⟩ = some u) => pw_cell_below hV h
    obtain ⟨i0, hi, hzz⟩ := Option.map_eq_some_iff.1 info41
    simp only [Prod.mk.injEq] at hzz
    have hT := cut_from (P := Tryz.prog) 55 41 .i64 Tryz.underlying55 hi 2 hzz.2.1 (some ⟨g, 0, none⟩) (l.length + 1) cap 1 (by omega) (by omega)
    refine do_bind V n0 pw hp fb cc p os' _ g (l.length + 1) cap (l.length : Int) f0 f1 D0 D1 D2 _ hBV.n1 (hcV 0 _ hcell.1) (hcV 1 _ hcell.2) (by omega) hT (fun X hX => ?_)
    have hC := Kd.C_drop (m := 1) (c := cap) (Kd.C_below hCV hX) (by simp) (by simpa using hcap)
    exact hR _ X _ _ (hBV.below hX) hC
set_option maxRecDepth 100000 in
set_option maxHeartbeats 4000000 in
theorem bound_calls (W : World) (n0 pw hp fb cc : Nat) (p : Int) (os os' : List (List S41)) (f0 f1 D0 D1 D2 : Int) (hDD : D2 = 0 ∨ (D0 = 0 ∧ D1 = 0)) (A : Option Addr) (c : Nat) (l : List S41) (hB : Bw n0 pw hp fb cc p os (fun _ => True) W) (hr : Kd.C k41 W A l.length l) (hl : l.length ≤ 63)
    (hR : ∀ ok X B d, Bw n0 pw hp fb cc p os ok X → Kd.C k41 X B l.length l → Calls Tryz.prog 50 #[.pointer (some ⟨pw, 0, none⟩), .agg #[.int .i64 f0, .int .i64 f1], .slice B l.length d] X fun e w' => e = .returned (.agg #[.int .i64 D0, .int .i64 D1, .int .i64 D2, .bool false]) ∧ Ab n0 pw hp fb cc p os' ok X w') :
    Calls Tryz.prog 19 #[.pointer (some ⟨pw, 0, none⟩), .agg #[.int .i64 f0, .int .i64 f1], .slice A l.length c] W fun e w' => e = .returned (.tuple #[.agg #[.int .i64 D0, .int .i64 D1], .int .i64 D2, .bool true]) ∧ Ab n0 pw hp fb cc p os' (fun _ => True) W w' := by
  have hlen : (([⟨f0, f1⟩] : List S41) ++ l).length = l.length + 1 := by simp
  have hB3 := below_alloc (below_alloc (below_alloc (Below.refl W.heap.size W) (.cells #[.int .i64 f0, .int .i64 f1] 41)) (.cells #[.int .i64 0, .int .i64 0] 41)) (.cells #[.int .i64 f0, .int .i64 f1] 41)
  have HB := Aside0.mk hB3
  have HW := Aside0.mk (hB.mono (ok' := fun k => k < W.heap.size) fun k _ h => h)
  have HRR := Aside0.mk (ReadsRow.imp_ (R' := k41.K W) hr hB3 (fun _ _ h => h))
  have HL := Aside0.mk (And.intro hl hlen)
  have HR := Aside0.mk hR
  have hone : Kd.R k41 41 (((W.alloc (.cells #[.int .i64 f0, .int .i64 f1] 41)).alloc (.cells #[.int .i64 0, .int .i64 0] 41)).alloc (.cells #[.int .i64 f0, .int .i64 f1] 41)) W.heap.size (fun _ => True) (.slice (some ⟨W.heap.size + 1 + 1, 0, none⟩) 1 1) [⟨f0, f1⟩] :=
    ⟨fun _ _ => trivial, [.int .i64 f0, .int .i64 f1], by have h := World.ownsRow_lit (base := W.heap.size) (e := 41) (size := 2) ((W.alloc (.cells #[.int .i64 f0, .int .i64 f1] 41)).alloc (.cells #[.int .i64 0, .int .i64 0] 41)) #[.int .i64 f0, .int .i64 f1] 1 (by simp; omega) (by simp [maxLen]) (by simp); rw [show W.heap.size + 1 + 1 = ((W.alloc (.cells #[.int .i64 f0, .int .i64 f1] 41)).alloc (.cells #[.int .i64 0, .int .i64 0] 41)).heap.size by simp]; exact h, Reps.snoc (Reps.none _ _) (k41_mkM _ _ _ _) rfl⟩
  have HO := Aside0.mk hone
  clear hr hl hlen hR hB3 hone hB
  go_enter Tryz.func19, Tryz.ntmps19
  go_wp2_with (first | ((with_reducible refine gate_builtin (b := .append) (xs := #[.tmp 12, .tmp 13]) rfl ?_); at_builtin; refine Kd.R_append_rows k41 (Rr := k41.K W) (w0 := W) W.heap.size rfl (.tmp 12) (.tmp 13) 55 41 (.agg #[.int .i64 0, .int .i64 0]) 16 rfl Tryz.underlying55 info41 rfl (by decide) (by omega) (.slice (some ⟨W.heap.size + 1 + 1, 0, none⟩) 1 1) ([⟨f0, f1⟩] : List S41) l A l.length c (fun _ => True) (fun _ => False) rfl rfl ?aO ?aR ?aK (fun _ h => h.elim) (fun _ _ => trivial) ?aB ?aS ?aL ?_; (case aO => exact HO.out); (case aR => exact HRR.out); (case aK => intro x cs h; rw [k41_open h]; exact k41_mkM _ _ _ _); (case aB => exact HB.out); (case aS => simp; omega); (case aL => have := HL.out; simp; omega); intro v1 w1 ho hb hg hat; obtain ⟨g, cap, rfl, _, _, _⟩ := Kd.R_form ho (by simp); have HV := Aside0.mk (And.intro ho (And.intro hb hg)); clear ho hb hg hat))
  have hcp := HV.out.1
  refine (apply_bound w1 n0 pw hp fb cc p os os' f0 f1 D0 D1 D2 hDD g cap l (fun k => k < W.heap.size) (fun k hk => by have := HV.out.2.1.size; omega) (HW.out.below HV.out.2.1) ?_ HL.out.1 ?_ HR.out).mono ?_
  · exact (Kd.R_reads' HV.out.1).2.2
  · exact (Kd.R_reads' HV.out.1).2.1
  rintro e w3 ⟨rfl, ha⟩
  have hrow : w1.heap[W.heap.size + 1]? = some (.cells #[.int .i64 0, .int .i64 0] 41 (0, 0)) :=
    (HV.out.2.2.block (W.heap.size + 1) (by simp) (by simp [Value.ownBlock])).trans ((Below.heap_alloc _ _ (W.heap.size + 1) (by simp)).trans (heap_alloc2_new W (.cells #[.int .i64 f0, .int .i64 f1] 41) (.cells #[.int .i64 0, .int .i64 0] 41)))
  have hrow3 := ha.2.ty _ _ _ hrow (by decide) (by decide)
  have HA := Aside0.mk (And.intro ha hrow3)
  have g0 : w3.cell? ⟨W.heap.size + 1, 0, none⟩ = some (.int .i64 0) := by rw [cell_of_row _ _ 0 _ _ _ hrow3]; rfl
  have g1 : w3.cell? ⟨W.heap.size + 1, 1, none⟩ = some (.int .i64 0) := by rw [cell_of_row _ _ 1 _ _ _ hrow3]; rfl
  have r0 : w3.frozen? ⟨W.heap.size + 1, 0, none⟩ = false := frozen_of_row w3 _ 0 _ _ hrow3
  have r1 : w3.frozen? ⟨W.heap.size + 1, 1, none⟩ = false := frozen_of_row w3 _ 1 _ _ hrow3
  have hlt := (Array.getElem?_eq_some_iff.1 hrow).1
  clear ha hrow hrow3 hcp
  go_wp2_with fail
  exact bodyPost_ret (results_ctt rfl _ _ (W.heap.size + 1) 41 _ (0, 0) _ rfl (two_cells _ _ HA.out.2) Tryz.underlying41 rfl (by kernel_rfl)) rfl ⟨rfl, HA.out.1.only (((Kp.refl w3 (fun k => k = W.heap.size + 1)).setCell (p := ⟨W.heap.size + 1, 0, none⟩) (.inl rfl) _).setCell (p := ⟨W.heap.size + 1, 1, none⟩) (.inl rfl) _) HV.out.2.1 HA.out.2 (by omega) HW.out.n1 (by decide) (by decide) (by decide) (by decide) (by decide) (.inr fun k hk => hk.elim (fun h => by omega) (fun h => by omega)) (fun _ _ => trivial)⟩
end Go.Proofs.YtkeneiahhmbojaaGreatDoor

namespace Go.Proofs.YtkeneiahhmbojaaGreatDoor
open Go.RowKit Go.MapKept
open Go.Proofs.YtkeneiahhmbojaaGreatDoorW.PrintWords Go.Proofs.YtkeneiahhmbojaaGreatDoorW.PrintMore
open POpsBinds
set_option linter.unusedVariables false

set_option maxRecDepth 100000 in
set_option maxHeartbeats 8000000 in
theorem bind_bound (W : World) (n0 pw hp fb cc j t : Nat) (sp p : Int) (v p0 p3 : Value) (bs : List Nat) (A0 : Option Addr) (c0 : Nat) (items : List S41) (A : Option Addr) (c : Nat) (l L : List S41) (hLL : L = items ++ l) (hpw : W.heap[pw]? = some (.cells #[p0, .slice (some ⟨fb, 0, none⟩) 1 cc, .pointer (some ⟨hp, 0, none⟩), p3] 38 (0, 0))) (hh : W.heap[hp]? = some (.cells #[.int .i64 1048576, .int .i64 sp, v] 94 (0, 0))) (hth : kTh.R 96 W n0 (fun _ => True) v bs) (hlen : bs.length ≤ 8) (hf : ∀ X, Below W.heap.size W X → X.cell? ⟨fb, 1, none⟩ = some (.int .i64 p)) (hj : bs[j]? = some t) (ht : W.heap[t]? = some (.cells #[.int .i64 0, .slice A0 items.length c0] 132 (0, 0))) (hr0 : Kd.C k41 W A0 items.length items) (hr : Kd.C k41 W A l.length l) (hl : items.length + l.length ≤ 64) (hn0 : n0 ≤ W.heap.size) (hfit : (L.length : Int) ≤ p) (hsp : 0 ≤ sp) (hb : sp + (2 + (L.length : Int)) ≤ 1048576) :
    Calls Tryz.prog 50 #[.pointer (some ⟨pw, 0, none⟩), .agg #[.int .i64 8, .int .i64 (j : Int)], .slice A l.length c] W fun e w' => e = .returned (.agg #[.int .i64 8, .int .i64 (bs.length : Int), .int .i64 0, .bool false]) ∧ ∃ t v' vi, w'.heap[hp]? = some (.cells #[.int .i64 1048576, .int .i64 (sp + (2 + (L.length : Int))), v'] 94 (0, 0)) ∧ kTh.R 96 w' n0 (fun _ => True) v' (bs ++ [t]) ∧ w'.heap[t]? = some (.cells #[.int .i64 0, vi] 132 (0, 0)) ∧ k41.R 41 w' W.heap.size (fun _ => True) vi L ∧ Kp W w' (fun k => k = hp ∨ some k = v.ownBlock) ∧ W.heap.size ≤ t := by
  have hx : ∀ {X : World} {k : Nat} {o : Obj}, Below W.heap.size W X → W.heap[k]? = some o → X.heap[k]? = some o := fun {X k o} hb hk => (hb.block k (Array.getElem?_eq_some_iff.1 hk).1).trans hk
  have HO := Aside0.mk (fun X (hX : Below W.heap.size W X) => worldObject_calls X n0 pw hp j t sp 0 v p0 (.slice (some ⟨fb, 0, none⟩) 1 cc) p3 bs A0 c0 items (hx hX hpw) (hx hX hh) (Kd.R_below hth hX) hj hlen (hx hX ht) (Kd.C_below hr0 hX) (by omega))
  have HPW := Aside0.mk hpw
  have HLL := Aside0.mk (And.intro hLL (show L.length ≤ 64 by rw [hLL, List.length_append]; exact hl))
  have HH := Aside0.mk (And.intro hh (And.intro hth (And.intro hlen (And.intro hf (And.intro hr hl)))))
  have hplt := (Array.getElem?_eq_some_iff.1 hpw).1
  have z0 : pw < W.heap.size + 1 := by omega
  have z1 : pw ≠ W.heap.size := by omega
  have z2 : pw ≠ W.heap.size + 1 := by omega
  clear hpw hh hth hlen hf hr hl hx ht hr0 hj hLL
  go_enter Tryz.func50, Tryz.ntmps50
  have HB := Aside0.mk (below_alloc (below_alloc (Below.refl W.heap.size W) (.cells #[.int .i64 8, .int .i64 (j : Int)] 41)) (.cells #[.int .i64 0, .int .i64 0, .int .i64 0, .bool false] 90))
  go_wp2_with fail
  refine (HO.out _ HB.out).mono ?_
  rintro e w1 ⟨A', c', rfl, hv, hb1⟩
  have HV := Aside0.mk (And.intro hv hb1)
  clear hv hb1
  go_wp2_with fail
  refine reg_cutC ?A2 (fun X => Below w1.heap.size w1 X) ?_ ?_
  rotate_left 1
  · go_quiet (fail)
    all_goals (try go_simp)
    all_goals (refine CutC.mk ?_ ?_; rotate_left 1; (first | exact below_alloc (Below.refl _ _) _ | exact pw_below_drewN (below_alloc (Below.refl _ _) _) _); exact rfl)
  intro X hX
  have hw1 := HV.out.2
  have B1 : Below W.heap.size W w1 := HB.out.trans (hw1.mono HB.out.size)
  have BX : Below W.heap.size W X := B1.trans (hX.mono B1.size)
  have hr0 := heap_alloc2_new W (.cells #[.int .i64 8, .int .i64 (j : Int)] 41) (.cells #[.int .i64 0, .int .i64 0, .int .i64 0, .bool false] 90)
  have hr1 := (hw1.block _ (Array.getElem?_eq_some_iff.1 hr0).1).trans hr0
  have hrX := (hX.block _ (Array.getElem?_eq_some_iff.1 hr1).1).trans hr1
  have HX := Aside0.mk (And.intro BX (And.intro hrX (Kd.C_below (Kd.R_reads' HV.out.1).2.2 hX)))
  have e1 : X.cell? ⟨pw, 1, none⟩ = some (.slice (some ⟨fb, 0, none⟩) 1 cc) := by rw [cell_of_row _ _ 1 _ _ _ ((BX.block pw hplt).trans HPW.out)]; rfl
  have q3 : ∀ X, (Instr.slice 55 (.slice A' items.length c') none (some (.int .i64 (items.length : Int))) (some (.int .i64 (items.length : Int)))).run Tryz.prog X = .ok (.slice A' items.length items.length) X := cut_full A' items.length c' (Kd.R_reads' HV.out.1).2.1 (by have := HH.out.2.2.2.2.2; omega)
  clear hw1 B1 BX hr0 hr1 hrX hX
  go_wp2_with (first | ((with_reducible refine gate_builtin (b := .append) (xs := #[.tmp 48, .tmp 49]) rfl ?_); at_builtin; refine C_append_full X rfl (.tmp 48) (.tmp 49) rfl rfl A' items l A c rfl rfl ?aX ?aY ?aL ?_; (case aX => exact HX.out.2.2); (case aY => exact Kd.C_below HH.out.2.2.2.2.1 HX.out.1); (case aL => have := HH.out.2.2.2.2.2; omega); intro A1 cc1 w2 hC hb; rw [← HLL.out.1] at hC ⊢; have hB2 := HX.out.1.trans (hb.mono HX.out.1.size); have HO := Aside0.mk (And.intro hC (And.intro hb hB2)); have d0 : w2.cell? ⟨pw, 1, none⟩ = some (.slice (some ⟨fb, 0, none⟩) 1 cc) := (by rw [cell_of_row _ _ 1 _ _ _ ((hB2.block pw hplt).trans HPW.out)]; rfl); have d1 : w2.cell? ⟨pw, 2, none⟩ = some (.pointer (some ⟨hp, 0, none⟩)) := (by rw [cell_of_row _ _ 2 _ _ _ ((hB2.block pw hplt).trans HPW.out)]; rfl); have d2 : w2.cell? ⟨fb, 1, none⟩ = some (.int .i64 p) := HH.out.2.2.2.1 w2 hB2; have d3 : decide (p < (L.length : Int)) = false := (by simp only [decide_eq_false_iff_not]; omega); clear hC hb hB2 e1 q3))
  refine (heapBound_calls w2 n0 hp sp 0 v bs A1 cc1 L ((HO.out.2.2.block hp (Array.getElem?_eq_some_iff.1 HH.out.1).1).trans HH.out.1) (Kd.R_below HH.out.2.1 HO.out.2.2) HO.out.1 HLL.out.2 (by omega) hsp hb HH.out.2.2.1 (Nat.le_trans hn0 HO.out.2.2.size)).mono ?_
  rintro e w2 ⟨rfl, t, v', vi, h1, h2, h3, h4, hk, hge⟩
  have HZ := Aside0.mk (And.intro h1 (And.intro h2 (And.intro h3 (And.intro h4 (And.intro hk hge)))))
  clear h1 h2 h3 h4 hk hge
  go_wp2_with (fail)
  refine (ops_roomy.calls 8 (bs.length : Int) true 8 (bs.length : Int) 0 false w2 rfl).mono ?_
  rintro e w3 ⟨rfl, hb3⟩
  have hv : ∀ k, W.heap.size ≤ k → some k ≠ v.ownBlock := fun k hk he => by have := Kd.R_lt HH.out.2.1 k he.symm; omega
  have hhl := (Array.getElem?_eq_some_iff.1 HH.out.1).1
  have hg1 := (HO.out.2.1.block (W.heap.size + 1) (Array.getElem?_eq_some_iff.1 HX.out.2.1).1).trans HX.out.2.1
  have hg2 := (HZ.out.2.2.2.2.1.block _ (Array.getElem?_eq_some_iff.1 hg1).1 (fun hc => hc.elim (by omega) (hv _ (by omega)))).trans hg1
  have hg3 := (hb3.block _ (Array.getElem?_eq_some_iff.1 hg2).1).trans hg2
  have HG := Aside0.mk (And.intro hg3 hb3)
  have hgl := (Array.getElem?_eq_some_iff.1 hg1).1
  clear hg1 hg2 hg3 hb3 hv
  go_wp2_with (with_reducible refine wpList_store_row rfl 90 _ _ rfl (W.heap.size + 1) #[.int .i64 8, .int .i64 (bs.length : Int), .int .i64 0, .bool false] rfl rfl 90 _ HG.out.1 (by kernel_rfl) (by kernel_rfl) (by kernel_rfl) ?_)
  obtain ⟨h1, h2, h3, h4, hk, hge⟩ := HZ.out
  obtain ⟨hr, hb3⟩ := HG.out
  have k1 : Kp W _ (fun k => k = hp ∨ some k = v.ownBlock) := ⟨HO.out.2.2.os, HO.out.2.2.tape, HO.out.2.2.output, HO.out.2.2.size, fun k h _ => HO.out.2.2.block k h⟩
  have k3 := (k1.trans hk (fun j hj => .inl hj)).trans (S' := fun _ => False) ⟨hb3.os, hb3.tape, hb3.output, hb3.size, fun k h _ => hb3.block k h⟩ (fun j hj => hj.elim)
  have hl1 := (Array.getElem?_eq_some_iff.1 h1).1
  have hl3 := (Array.getElem?_eq_some_iff.1 h3).1
  refine bodyPost_ret (results_cell_row rfl _ _ (W.heap.size + 1) 90 _ (0, 0) _ rfl (setRow_heap _ _ _ _ _ _ hr) Tryz.underlying90 rfl (by kernel_rfl)) rfl ⟨rfl, t, v', vi, ?_, ?_, ?_, ?_, ?_, ?_⟩
  · exact (setRow_other _ _ _ _ (by omega)).trans ((hb3.block hp hl1).trans h1)
  · exact Kd.R_mono (Kd.R_step (Kd.R_types (Kd.R_below h2 hb3) hr (by decide)) (fun k hk' _ => setRow_other _ _ _ _ hk'.2)) (fun _ _ => trivial)
  · exact (setRow_other _ _ _ _ (by omega)).trans ((hb3.block t hl3).trans h3)
  · exact Kd.R_lower (Kd.R_mono (Kd.R_step (Kd.R_types (Kd.R_below h4 hb3) hr (by decide)) (fun k hk' _ => setRow_other _ _ _ _ hk'.2)) (fun _ _ => trivial)) HO.out.2.2.size
  · exact k3.trans (Kp.setRow w3 (W.heap.size + 1) _) (fun j hj => .inr (by omega))
  · have := HO.out.2.2.size; omega
end Go.Proofs.YtkeneiahhmbojaaGreatDoor

namespace Go.Proofs.YtkeneiahhmbojaaGreatDoor
open Go.RowKit Go.MapKept
open Go.Proofs.YtkeneiahhmbojaaGreatDoorW.PrintWords Go.Proofs.YtkeneiahhmbojaaGreatDoorW.PrintMore
open POpsBinds
set_option linter.unusedVariables false

set_option maxRecDepth 100000 in
set_option maxHeartbeats 8000000 in
theorem bind_bound_many (W : World) (n0 pw hp fb cc j t : Nat) (sp p : Int) (v p0 p3 : Value) (bs : List Nat) (A0 : Option Addr) (c0 : Nat) (items : List S41) (A : Option Addr) (c : Nat) (l L : List S41) (hLL : L = items ++ l) (hpw : W.heap[pw]? = some (.cells #[p0, .slice (some ⟨fb, 0, none⟩) 1 cc, .pointer (some ⟨hp, 0, none⟩), p3] 38 (0, 0))) (hh : W.heap[hp]? = some (.cells #[.int .i64 1048576, .int .i64 sp, v] 94 (0, 0))) (hth : kTh.R 96 W n0 (fun _ => True) v bs) (hlen : bs.length ≤ 8) (hf : ∀ X, Below W.heap.size W X → X.cell? ⟨fb, 1, none⟩ = some (.int .i64 p)) (hj : bs[j]? = some t) (ht : W.heap[t]? = some (.cells #[.int .i64 0, .slice A0 items.length c0] 132 (0, 0))) (hr0 : Kd.C k41 W A0 items.length items) (hr : Kd.C k41 W A l.length l) (hl : items.length + l.length ≤ 64) (hfit : p < (L.length : Int)) :
    Calls Tryz.prog 50 #[.pointer (some ⟨pw, 0, none⟩), .agg #[.int .i64 8, .int .i64 (j : Int)], .slice A l.length c] W fun e w' => e = .returned (.agg #[.int .i64 0, .int .i64 0, .int .i64 5, .bool false]) ∧ Below W.heap.size W w' := by
  have hx : ∀ {X : World} {k : Nat} {o : Obj}, Below W.heap.size W X → W.heap[k]? = some o → X.heap[k]? = some o := fun {X k o} hb hk => (hb.block k (Array.getElem?_eq_some_iff.1 hk).1).trans hk
  have HO := Aside0.mk (fun X (hX : Below W.heap.size W X) => worldObject_calls X n0 pw hp j t sp 0 v p0 (.slice (some ⟨fb, 0, none⟩) 1 cc) p3 bs A0 c0 items (hx hX hpw) (hx hX hh) (Kd.R_below hth hX) hj hlen (hx hX ht) (Kd.C_below hr0 hX) (by omega))
  have HPW := Aside0.mk hpw
  have HLL := Aside0.mk (And.intro hLL (show L.length ≤ 64 by rw [hLL, List.length_append]; exact hl))
  have HH := Aside0.mk (And.intro hh (And.intro hth (And.intro hlen (And.intro hf (And.intro hr hl)))))
  have hplt := (Array.getElem?_eq_some_iff.1 hpw).1
  have z0 : pw < W.heap.size + 1 := by omega
  have z1 : pw ≠ W.heap.size := by omega
  have z2 : pw ≠ W.heap.size + 1 := by omega
  clear hpw hh hth hlen hf hr hl hx ht hr0 hj hLL
  go_enter Tryz.func50, Tryz.ntmps50
  have HB := Aside0.mk (below_alloc (below_alloc (Below.refl W.heap.size W) (.cells #[.int .i64 8, .int .i64 (j : Int)] 41)) (.cells #[.int .i64 0, .int .i64 0, .int .i64 0, .bool false] 90))
  go_wp2_with fail
  refine (HO.out _ HB.out).mono ?_
  rintro e w1 ⟨A', c', rfl, hv, hb1⟩
  have HV := Aside0.mk (And.intro hv hb1)
  clear hv hb1
  go_wp2_with fail
  refine reg_cutC ?A2 (fun X => Below w1.heap.size w1 X) ?_ ?_
  rotate_left 1
  · go_quiet (fail)
    all_goals (try go_simp)
    all_goals (refine CutC.mk ?_ ?_; rotate_left 1; (first | exact below_alloc (Below.refl _ _) _ | exact pw_below_drewN (below_alloc (Below.refl _ _) _) _); exact rfl)
  intro X hX
  have hw1 := HV.out.2
  have B1 : Below W.heap.size W w1 := HB.out.trans (hw1.mono HB.out.size)
  have BX : Below W.heap.size W X := B1.trans (hX.mono B1.size)
  have hr0 := heap_alloc2_new W (.cells #[.int .i64 8, .int .i64 (j : Int)] 41) (.cells #[.int .i64 0, .int .i64 0, .int .i64 0, .bool false] 90)
  have hr1 := (hw1.block _ (Array.getElem?_eq_some_iff.1 hr0).1).trans hr0
  have hrX := (hX.block _ (Array.getElem?_eq_some_iff.1 hr1).1).trans hr1
  have HX := Aside0.mk (And.intro BX (And.intro hrX (Kd.C_below (Kd.R_reads' HV.out.1).2.2 hX)))
  have e1 : X.cell? ⟨pw, 1, none⟩ = some (.slice (some ⟨fb, 0, none⟩) 1 cc) := by rw [cell_of_row _ _ 1 _ _ _ ((BX.block pw hplt).trans HPW.out)]; rfl
  have q3 : ∀ X, (Instr.slice 55 (.slice A' items.length c') none (some (.int .i64 (items.length : Int))) (some (.int .i64 (items.length : Int)))).run Tryz.prog X = .ok (.slice A' items.length items.length) X := cut_full A' items.length c' (Kd.R_reads' HV.out.1).2.1 (by have := HH.out.2.2.2.2.2; omega)
  clear hw1 B1 BX hr0 hr1 hrX hX
  go_wp2_with (first | ((with_reducible refine gate_builtin (b := .append) (xs := #[.tmp 48, .tmp 49]) rfl ?_); at_builtin; refine C_append_full X rfl (.tmp 48) (.tmp 49) rfl rfl A' items l A c rfl rfl ?aX ?aY ?aL ?_; (case aX => exact HX.out.2.2); (case aY => exact Kd.C_below HH.out.2.2.2.2.1 HX.out.1); (case aL => have := HH.out.2.2.2.2.2; omega); intro A1 cc1 w2 hC hb; rw [← HLL.out.1] at hC ⊢; have hB2 := HX.out.1.trans (hb.mono HX.out.1.size); have HO := Aside0.mk (And.intro hC (And.intro hb hB2)); have d0 : w2.cell? ⟨pw, 1, none⟩ = some (.slice (some ⟨fb, 0, none⟩) 1 cc) := (by rw [cell_of_row _ _ 1 _ _ _ ((hB2.block pw hplt).trans HPW.out)]; rfl); have d2 : w2.cell? ⟨fb, 1, none⟩ = some (.int .i64 p) := HH.out.2.2.2.1 w2 hB2; have d3 : decide (p < (L.length : Int)) = true := (by simp only [decide_eq_true_iff]; omega); clear hC hb hB2 e1 q3))
  refine (trap_calls 5 _).mono ?_
  rintro e w3 ⟨rfl, hb3⟩
  have hg1 := (HO.out.2.1.block (W.heap.size + 1) (Array.getElem?_eq_some_iff.1 HX.out.2.1).1).trans HX.out.2.1
  have hg3 := (hb3.block _ (Array.getElem?_eq_some_iff.1 hg1).1).trans hg1
  have HG := Aside0.mk (And.intro hg3 hb3)
  clear hg1 hg3 hb3
  go_wp2_with (with_reducible refine wpList_store_row rfl 90 _ _ rfl (W.heap.size + 1) #[.int .i64 0, .int .i64 0, .int .i64 5, .bool false] rfl rfl 90 _ HG.out.1 (by kernel_rfl) (by kernel_rfl) (by kernel_rfl) ?_)
  obtain ⟨hr, hb3⟩ := HG.out
  refine bodyPost_ret (results_cell_row rfl _ _ (W.heap.size + 1) 90 _ (0, 0) _ rfl (setRow_heap _ _ _ _ _ _ hr) Tryz.underlying90 rfl (by kernel_rfl)) rfl ⟨rfl, ?_⟩
  exact below_setRow (HO.out.2.2.trans (hb3.mono HO.out.2.2.size)) (by omega) _
end Go.Proofs.YtkeneiahhmbojaaGreatDoor

namespace Go.Proofs.YtkeneiahhmbojaaGreatDoor
open Go.RowKit Go.MapKept
open Go.Proofs.YtkeneiahhmbojaaGreatDoorW.PrintWords Go.Proofs.YtkeneiahhmbojaaGreatDoorW.PrintMore
open POpsBinds
set_option linter.unusedVariables false

theorem bindB {n0 pw hp fb cc : Nat} {p : Int} {os : List (List S41)} {ok : Nat → Prop} {W : World} (h : Bw n0 pw hp fb cc p os ok W) (ho : os.length ≤ 3) (hc : cost os ≤ 1000) (j : Nat) (items : List S41) (hj : os[j]? = some items) (A : Option Addr) (c : Nat) (l : List S41) (hr : Kd.C k41 W A l.length l) (hl : items.length + l.length ≤ 64) (hfit : (((items ++ l).length : Nat) : Int) ≤ p) :
    Calls Tryz.prog 50 #[.pointer (some ⟨pw, 0, none⟩), .agg #[.int .i64 8, .int .i64 (j : Int)], .slice A l.length c] W fun e w' => e = .returned (.agg #[.int .i64 8, .int .i64 (os.length : Int), .int .i64 0, .bool false]) ∧ Ab n0 pw hp fb cc p (os ++ [items ++ l]) ok W w' := by
  have hB := h
  obtain ⟨⟨p0, p3, h1⟩, ⟨c2, h2, h3⟩, ⟨v, bs, h4, h5, h6, h7⟩, h8, h9⟩ := h
  obtain ⟨t, ht⟩ : ∃ t, bs[j]? = some t := ⟨_, List.getElem?_eq_getElem (by have := (List.getElem?_eq_some_iff.1 hj).1; omega)⟩
  obtain ⟨vi, h10, h11⟩ := h7 j t items ht hj
  obtain ⟨A0, c0, rfl⟩ := Kd.R_slice h11
  have hlen : (items ++ l).length = items.length + l.length := List.length_append
  refine (bind_bound W n0 pw hp fb cc j t (cost os) p v p0 p3 bs A0 c0 items A c l (items ++ l) rfl h1 h4 h5 (by omega) (fun X hX => ?_) ht h10 (Kd.R_reads' h11).2.2 hr hl h8 hfit (cost_pos os) (by omega)).mono ?_
  · rw [cell_of_row _ _ 1 _ _ _ ((hX.block fb (Array.getElem?_eq_some_iff.1 h2).1).trans h2)]
    exact h3
  · rintro e w' ⟨rfl, hw⟩
    rw [← h6]
    exact ⟨rfl, hB.put h4 h5 h6 h7 hw⟩
theorem bindBM {n0 pw hp fb cc : Nat} {p : Int} {os : List (List S41)} {ok : Nat → Prop} {W : World} (h : Bw n0 pw hp fb cc p os ok W) (ho : os.length ≤ 3) (j : Nat) (items : List S41) (hj : os[j]? = some items) (A : Option Addr) (c : Nat) (l : List S41) (hr : Kd.C k41 W A l.length l) (hl : items.length + l.length ≤ 64) (hfit : p < (((items ++ l).length : Nat) : Int)) :
    Calls Tryz.prog 50 #[.pointer (some ⟨pw, 0, none⟩), .agg #[.int .i64 8, .int .i64 (j : Int)], .slice A l.length c] W fun e w' => e = .returned (.agg #[.int .i64 0, .int .i64 0, .int .i64 5, .bool false]) ∧ Ab n0 pw hp fb cc p os ok W w' := by
  have hB := h
  obtain ⟨⟨p0, p3, h1⟩, ⟨c2, h2, h3⟩, ⟨v, bs, h4, h5, h6, h7⟩, h8, h9⟩ := h
  obtain ⟨t, ht⟩ : ∃ t, bs[j]? = some t := ⟨_, List.getElem?_eq_getElem (by have := (List.getElem?_eq_some_iff.1 hj).1; omega)⟩
  obtain ⟨vi, h10, h11⟩ := h7 j t items ht hj
  obtain ⟨A0, c0, rfl⟩ := Kd.R_slice h11
  refine (bind_bound_many W n0 pw hp fb cc j t (cost os) p v p0 p3 bs A0 c0 items A c l (items ++ l) rfl h1 h4 h5 (by omega) (fun X hX => ?_) ht h10 (Kd.R_reads' h11).2.2 hr hl hfit).mono ?_
  · rw [cell_of_row _ _ 1 _ _ _ ((hX.block fb (Array.getElem?_eq_some_iff.1 h2).1).trans h2)]
    exact h3
  · rintro e w' ⟨rfl, hw⟩
    exact ⟨rfl, Ab.same hB hw⟩

theorem boundF {n0 pw hp fb cc : Nat} {p : Int} {os : List (List S41)} {W : World} (h : Bw n0 pw hp fb cc p os (fun _ => True) W) (A : Option Addr) (c : Nat) (l : List S41) (hr : Kd.C k41 W A l.length l) (hl : l.length ≤ 63) (ho : os.length ≤ 3) (hc : cost os ≤ 1000) (hfit : (l.length : Int) ≤ p) :
    Calls Tryz.prog 19 #[.pointer (some ⟨pw, 0, none⟩), .agg #[.int .i64 5, .int .i64 0], .slice A l.length c] W fun e w' => e = .returned (.tuple #[.agg #[.int .i64 8, .int .i64 (os.length : Int)], .int .i64 0, .bool true]) ∧ Ab n0 pw hp fb cc p (os ++ [l]) (fun _ => True) W w' :=
  bound_calls W n0 pw hp fb cc p os (os ++ [l]) 5 0 8 (os.length : Int) 0 (.inl rfl) A c l h hr hl fun _ _ B d hX hC => bindF hX ho hc B d l hC (by omega) hfit
theorem boundM {n0 pw hp fb cc : Nat} {p : Int} {os : List (List S41)} {W : World} (h : Bw n0 pw hp fb cc p os (fun _ => True) W) (A : Option Addr) (c : Nat) (l : List S41) (hr : Kd.C k41 W A l.length l) (hl : l.length ≤ 63) (ho : os.length ≤ 3) (hfit : p < (l.length : Int)) :
    Calls Tryz.prog 19 #[.pointer (some ⟨pw, 0, none⟩), .agg #[.int .i64 5, .int .i64 0], .slice A l.length c] W fun e w' => e = .returned (.tuple #[.agg #[.int .i64 0, .int .i64 0], .int .i64 5, .bool true]) ∧ Ab n0 pw hp fb cc p os (fun _ => True) W w' :=
  bound_calls W n0 pw hp fb cc p os os 5 0 0 0 5 (.inr ⟨rfl, rfl⟩) A c l h hr hl fun _ _ B d hX hC => bindM hX ho B d l hC (by omega) hfit
theorem boundN {n0 pw hp fb cc : Nat} {p : Int} {os : List (List S41)} {W : World} (h : Bw n0 pw hp fb cc p os (fun _ => True) W) (A : Option Addr) (c : Nat) (l : List S41) (hr : Kd.C k41 W A l.length l) (hl : l.length ≤ 63) :
    Calls Tryz.prog 19 #[.pointer (some ⟨pw, 0, none⟩), .agg #[.int .i64 0, .int .i64 0], .slice A l.length c] W fun e w' => e = .returned (.tuple #[.agg #[.int .i64 0, .int .i64 0], .int .i64 1, .bool true]) ∧ Ab n0 pw hp fb cc p os (fun _ => True) W w' :=
  bound_calls W n0 pw hp fb cc p os os 0 0 0 0 1 (.inr ⟨rfl, rfl⟩) A c l h hr hl fun _ X B d hX _ => (bind_none X pw l.length d B).mono fun _ _ ⟨he, hb⟩ => ⟨he, Ab.same hX hb⟩
theorem boundB {n0 pw hp fb cc : Nat} {p : Int} {os : List (List S41)} {W : World} (h : Bw n0 pw hp fb cc p os (fun _ => True) W) (A : Option Addr) (c : Nat) (l : List S41) (hr : Kd.C k41 W A l.length l) (hl : l.length ≤ 63) (ho : os.length ≤ 3) (hc : cost os ≤ 1000) (j : Nat) (items : List S41) (hj : os[j]? = some items) (hl2 : items.length + l.length ≤ 64) (hfit : (((items ++ l).length : Nat) : Int) ≤ p) :
    Calls Tryz.prog 19 #[.pointer (some ⟨pw, 0, none⟩), .agg #[.int .i64 8, .int .i64 (j : Int)], .slice A l.length c] W fun e w' => e = .returned (.tuple #[.agg #[.int .i64 8, .int .i64 (os.length : Int)], .int .i64 0, .bool true]) ∧ Ab n0 pw hp fb cc p (os ++ [items ++ l]) (fun _ => True) W w' :=
  bound_calls W n0 pw hp fb cc p os (os ++ [items ++ l]) 8 (j : Int) 8 (os.length : Int) 0 (.inl rfl) A c l h hr hl fun _ _ B d hX hC => bindB hX ho hc j items hj B d l hC hl2 hfit
theorem boundBM {n0 pw hp fb cc : Nat} {p : Int} {os : List (List S41)} {W : World} (h : Bw n0 pw hp fb cc p os (fun _ => True) W) (A : Option Addr) (c : Nat) (l : List S41) (hr : Kd.C k41 W A l.length l) (hl : l.length ≤ 63) (ho : os.length ≤ 3) (j : Nat) (items : List S41) (hj : os[j]? = some items) (hl2 : items.length + l.length ≤ 64) (hfit : p < (((items ++ l).length : Nat) : Int)) :
    Calls Tryz.prog 19 #[.pointer (some ⟨pw, 0, none⟩), .agg #[.int .i64 8, .int .i64 (j : Int)], .slice A l.length c] W fun e w' => e = .returned (.tuple #[.agg #[.int .i64 0, .int .i64 0], .int .i64 5, .bool true]) ∧ Ab n0 pw hp fb cc p os (fun _ => True) W w' :=
  bound_calls W n0 pw hp fb cc p os os 8 (j : Int) 0 0 5 (.inr ⟨rfl, rfl⟩) A c l h hr hl fun _ _ B d hX hC => bindBM hX ho j items hj B d l hC hl2 hfit
end Go.Proofs.YtkeneiahhmbojaaGreatDoor

namespace Go.Proofs.YtkeneiahhmbojaaGreatDoor
open Go.RowKit Go.MapKept
open Go.Proofs.YtkeneiahhmbojaaGreatDoorW.PrintWords Go.Proofs.YtkeneiahhmbojaaGreatDoorW.PrintMore
open POpsBinds
set_option linter.unusedVariables false

theorem made_b (p : Int) (g n0 : Nat) (W : World) (hg : W.heap[g]? = some (.cells #[.string ⟨#[102]⟩, .int .i64 p, .int .i64 p, .slice none 0 0, .slice none 0 0] 61 (0, 0))) (hn : n0 ≤ W.heap.size) :
    Calls Tryz.prog 16 #[.agg #[.slice none 0 0, .slice (some ⟨g, 0, none⟩) 1 1, .slice none 0 0, .slice none 0 0, .int .i64 1048576, .int .i64 0]] W fun e w' => ∃ pw hp fb cc, e = .returned (.pointer (some ⟨pw, 0, none⟩)) ∧ Bw n0 pw hp fb cc p [] (fun _ => True) w' ∧ Below W.heap.size W w' := by
  refine (made_f p g W hg).mono ?_
  rintro e w' ⟨pw, hp, b, S, q0, q1, w2, w3, rfl, h1, h2, _, h4, h5, h6, h7, h8, _, _⟩
  obtain ⟨fb, cap, rfl, _, f1, cs, f2⟩ := Kd.S_form h7 (by simp)
  obtain ⟨_, _, hC⟩ := Kd.S_reads' h7
  obtain ⟨ad, hA, hc⟩ := hC.2.2 (by simp)
  cases hA
  obtain ⟨c0, _, hK, hcc⟩ := hc 0 _ rfl
  obtain ⟨A3, c3, A4, c4, rfl, _⟩ := k61_open hK
  have hcell := hcc 1 _ rfl
  rw [Nat.zero_mul, add_plain, Nat.zero_add] at hcell
  rw [cell_of_row w3 fb 1 cs 61 (0, 0) f2] at hcell
  refine ⟨pw, hp, fb, cap, rfl, ⟨⟨q0, _, h1⟩, ⟨cs, (h8.block fb f1).trans f2, hcell⟩, ⟨.slice none 0 0, [], h2.hs, Kd.R_nil _ _ _ _ _, rfl, fun j t l g1 => by simp at g1⟩, Nat.le_trans hn h6.size, Nat.le_trans hn h5⟩, h6⟩
/-- how many objects there are -/
theorem len_b {n0 pw hp fb cc : Nat} {p : Int} {os : List (List S41)} {ok : Nat → Prop} {W : World} (h : Bw n0 pw hp fb cc p os ok W) :
    Calls Tryz.prog 21 #[.pointer (some ⟨hp, 0, none⟩)] W fun e w' => e = .returned (.int .i64 (os.length : Int)) ∧ W = w' := by
  obtain ⟨_, _, ⟨v, bs, h4, h5, h6, h7⟩, _, _⟩ := h
  rw [← h6]
  exact heapLen_calls W n0 hp _ v bs h4 h5
/-- an object -/
theorem obj_b {n0 pw hp fb cc : Nat} {p : Int} {os : List (List S41)} {ok : Nat → Prop} {W : World} (h : Bw n0 pw hp fb cc p os ok W) (ho : os.length ≤ 8) (j : Nat) (l : List S41) (hj : os[j]? = some l) (hl : l.length ≤ 64) :
    Calls Tryz.prog 22 #[.pointer (some ⟨hp, 0, none⟩), .int .i64 (j : Int)] W fun e w' => ∃ A' c', e = .returned (.tuple #[.agg #[.int .i64 8, .slice A' l.length c', .slice none 0 0, .int .i64 0, .int .i64 0, .bool false], .bool true]) ∧ k41.R 41 w' W.heap.size (fun _ => True) (.slice A' l.length c') l ∧ Below W.heap.size W w' := by
  obtain ⟨_, _, ⟨v, bs, h4, h5, h6, h7⟩, _, _⟩ := h
  obtain ⟨t, ht⟩ : ∃ t, bs[j]? = some t := ⟨_, List.getElem?_eq_getElem (by have := (List.getElem?_eq_some_iff.1 hj).1; omega)⟩
  obtain ⟨vi, h8, h9⟩ := h7 j t l ht hj
  obtain ⟨A, c, rfl⟩ := Kd.R_slice h9
  exact heapObject_calls W n0 hp j t _ 0 v bs A c l h4 h5 ht (by omega) h8 (Kd.R_reads' h9).2.2 hl
/-- the heap, as the world's struct names it -/
theorem Bw.cell {n0 pw hp fb cc : Nat} {p : Int} {os : List (List S41)} {ok : Nat → Prop} {W : World} (h : Bw n0 pw hp fb cc p os ok W) : W.cell? ⟨pw, 2, none⟩ = some (.pointer (some ⟨hp, 0, none⟩)) := by
  obtain ⟨⟨p0, p3, h1⟩, _⟩ := h
  rw [cell_of_row _ _ 2 _ _ _ h1]
  rfl
theorem Bw.lt {n0 pw hp fb cc : Nat} {p : Int} {os : List (List S41)} {ok : Nat → Prop} {W : World} (h : Bw n0 pw hp fb cc p os ok W) : pw < W.heap.size := by
  obtain ⟨⟨p0, p3, h1⟩, _⟩ := h
  exact (Array.getElem?_eq_some_iff.1 h1).1
end Go.Proofs.YtkeneiahhmbojaaGreatDoor
