/-
  What an operation takes and puts. (Printed by wip/tools/ops_Ro.py.)
-/
import Derived.Test.YtpallcggmaheoaaDoorRo
namespace Go.Proofs.YtpallcggmaheoaaDoor
open Go.RowKit Go.MapKept
set_option linter.unusedVariables false
open Go.Proofs.YtpallcggmaheoaaDoorW.PrintWords Go.Proofs.YtpallcggmaheoaaDoorW.PrintMore

set_option maxHeartbeats 4000000 in
set_option maxRecDepth 100000 in
theorem effect_0_yes (n : Nat) (A : Int) (hn : n < 67) (hA : 0 ≤ A ∧ A < 1) (nm : List UInt8) (tk pt : Nat) (htk : tk < 256) (hpt : pt < 256) (hr : opRow n = (nm, 0, tk, pt, false)) (w : World) :
    Calls Tryd.prog 27 #[.agg #[.int .i64 (n : Int), .int .i64 A]] w fun e w' => e = .returned (.tuple #[.int .i64 (tk : Int), .int .i64 (pt : Int), .bool true]) ∧ Below w.heap.size w w' := by
  have HR := Aside0.mk hr
  have HA := Aside0.mk hA
  clear hr hA
  have hfld := field68
  go_enter Tryd.func27, Tryd.ntmps27
  go_wp2_with fail
  refine (rowOf_calls n hn _ HR.out _).mono ?_
  rintro e w1 ⟨rfl, hb⟩
  obtain ⟨hc1, hf1⟩ := bcell hb
  have hz : w.heap.size < w1.heap.size := by have := hb.size; simp at this; omega
  go_wp2_with fail
  go_region_with (first | (go_at_call 31; (with_reducible refine (form_0 _).mono ?_); rintro e w2 ⟨x, y, b, rfl, hc2, hb2⟩; obtain ⟨hcl, hfl⟩ := bcell hb2) | (go_at_call 54; (with_reducible refine (below1_yes _ _ _ _ hc2 HA.out).mono ?_); rintro e w3 ⟨rfl, rfl⟩))
  all_goals
    have HE := Aside0.mk (below_two hb hb2 ((below_alloc1 _ _).drew))
    go_wp2_with fail
    repeat (go_quiet (fail); try go_wp2_with fail)
    go_ret3
    exact ⟨rfl, pw_below_drewN HE.out _⟩
set_option maxHeartbeats 4000000 in
set_option maxRecDepth 100000 in
theorem effect_0_no (n : Nat) (A : Int) (hn : n < 67) (hA : ¬ (0 ≤ A ∧ A < 1)) (nm : List UInt8) (tk pt : Nat) (htk : tk < 256) (hpt : pt < 256) (hr : opRow n = (nm, 0, tk, pt, false)) (w : World) :
    Calls Tryd.prog 27 #[.agg #[.int .i64 (n : Int), .int .i64 A]] w fun e w' => e = .returned (.tuple #[.int .i64 0, .int .i64 0, .bool false]) ∧ Below w.heap.size w w' := by
  have HR := Aside0.mk hr
  have HA := Aside0.mk hA
  clear hr hA
  have hfld := field68
  go_enter Tryd.func27, Tryd.ntmps27
  go_wp2_with fail
  refine (rowOf_calls n hn _ HR.out _).mono ?_
  rintro e w1 ⟨rfl, hb⟩
  obtain ⟨hc1, hf1⟩ := bcell hb
  have hz : w.heap.size < w1.heap.size := by have := hb.size; simp at this; omega
  go_wp2_with fail
  go_region_with (first | (go_at_call 31; (with_reducible refine (form_0 _).mono ?_); rintro e w2 ⟨x, y, b, rfl, hc2, hb2⟩; obtain ⟨hcl, hfl⟩ := bcell hb2) | (go_at_call 54; (with_reducible refine (below1_no _ _ _ _ hc2 HA.out).mono ?_); rintro e w3 ⟨rfl, rfl⟩))
  all_goals
    have HE := Aside0.mk (below_two hb hb2 ((below_alloc1 _ _).drew))
    go_wp2_with fail
    go_ret3
    exact ⟨rfl, HE.out⟩
set_option maxHeartbeats 4000000 in
set_option maxRecDepth 100000 in
theorem effect_1_yes (n : Nat) (A : Int) (hn : n < 67) (hA : True) (nm : List UInt8) (tk pt : Nat) (htk : tk < 256) (hpt : pt < 256) (hr : opRow n = (nm, 1, tk, pt, false)) (w : World) :
    Calls Tryd.prog 27 #[.agg #[.int .i64 (n : Int), .int .i64 A]] w fun e w' => e = .returned (.tuple #[.int .i64 (tk : Int), .int .i64 (pt : Int), .bool true]) ∧ Below w.heap.size w w' := by
  have HR := Aside0.mk hr
  have HA := Aside0.mk hA
  clear hr hA
  have hfld := field68
  go_enter Tryd.func27, Tryd.ntmps27
  go_wp2_with fail
  refine (rowOf_calls n hn _ HR.out _).mono ?_
  rintro e w1 ⟨rfl, hb⟩
  obtain ⟨hc1, hf1⟩ := bcell hb
  have hz : w.heap.size < w1.heap.size := by have := hb.size; simp at this; omega
  go_wp2_with fail
  go_region_with (first | (go_at_call 31; (with_reducible refine (form_1 _).mono ?_); rintro e w2 ⟨x, y, rfl, hb2⟩; obtain ⟨hcl, hfl⟩ := bcell hb2) | (go_at_call 41; (with_reducible refine (number_yes _ _).mono ?_); rintro e w3 ⟨rfl, rfl⟩))
  all_goals
    have HE := Aside0.mk (below_two hb hb2 ((below_alloc1 _ _).drew))
    go_wp2_with fail
    repeat (go_quiet (fail); try go_wp2_with fail)
    go_ret3
    exact ⟨rfl, pw_below_drewN HE.out _⟩
set_option maxHeartbeats 4000000 in
set_option maxRecDepth 100000 in
theorem effect_2_yes (n : Nat) (A : Int) (hn : n < 67) (hA : 0 ≤ A ∧ A < 2000) (nm : List UInt8) (tk pt : Nat) (htk : tk < 256) (hpt : pt < 256) (hr : opRow n = (nm, 2, tk, pt, false)) (w : World) :
    Calls Tryd.prog 27 #[.agg #[.int .i64 (n : Int), .int .i64 A]] w fun e w' => e = .returned (.tuple #[.int .i64 (tk : Int), .int .i64 (pt : Int), .bool true]) ∧ Below w.heap.size w w' := by
  have HR := Aside0.mk hr
  have HA := Aside0.mk hA
  clear hr hA
  have hfld := field68
  go_enter Tryd.func27, Tryd.ntmps27
  go_wp2_with fail
  refine (rowOf_calls n hn _ HR.out _).mono ?_
  rintro e w1 ⟨rfl, hb⟩
  obtain ⟨hc1, hf1⟩ := bcell hb
  have hz : w.heap.size < w1.heap.size := by have := hb.size; simp at this; omega
  go_wp2_with fail
  go_region_with (first | (go_at_call 31; (with_reducible refine (form_2 _).mono ?_); rintro e w2 ⟨x, y, b, rfl, hc2, hb2⟩; obtain ⟨hcl, hfl⟩ := bcell hb2) | (go_at_call 54; (with_reducible refine (below1_yes _ _ _ _ hc2 HA.out).mono ?_); rintro e w3 ⟨rfl, rfl⟩))
  all_goals
    have HE := Aside0.mk (below_two hb hb2 ((below_alloc1 _ _).drew))
    go_wp2_with fail
    repeat (go_quiet (fail); try go_wp2_with fail)
    go_ret3
    exact ⟨rfl, pw_below_drewN HE.out _⟩
set_option maxHeartbeats 4000000 in
set_option maxRecDepth 100000 in
theorem effect_2_no (n : Nat) (A : Int) (hn : n < 67) (hA : ¬ (0 ≤ A ∧ A < 2000)) (nm : List UInt8) (tk pt : Nat) (htk : tk < 256) (hpt : pt < 256) (hr : opRow n = (nm, 2, tk, pt, false)) (w : World) :
    Calls Tryd.prog 27 #[.agg #[.int .i64 (n : Int), .int .i64 A]] w fun e w' => e = .returned (.tuple #[.int .i64 0, .int .i64 0, .bool false]) ∧ Below w.heap.size w w' := by
  have HR := Aside0.mk hr
  have HA := Aside0.mk hA
  clear hr hA
  have hfld := field68
  go_enter Tryd.func27, Tryd.ntmps27
  go_wp2_with fail
  refine (rowOf_calls n hn _ HR.out _).mono ?_
  rintro e w1 ⟨rfl, hb⟩
  obtain ⟨hc1, hf1⟩ := bcell hb
  have hz : w.heap.size < w1.heap.size := by have := hb.size; simp at this; omega
  go_wp2_with fail
  go_region_with (first | (go_at_call 31; (with_reducible refine (form_2 _).mono ?_); rintro e w2 ⟨x, y, b, rfl, hc2, hb2⟩; obtain ⟨hcl, hfl⟩ := bcell hb2) | (go_at_call 54; (with_reducible refine (below1_no _ _ _ _ hc2 HA.out).mono ?_); rintro e w3 ⟨rfl, rfl⟩))
  all_goals
    have HE := Aside0.mk (below_two hb hb2 ((below_alloc1 _ _).drew))
    go_wp2_with fail
    go_ret3
    exact ⟨rfl, HE.out⟩
set_option maxHeartbeats 4000000 in
set_option maxRecDepth 100000 in
theorem effect_3_yes (n : Nat) (A : Int) (hn : n < 67) (hA : 0 ≤ A ∧ A < 64) (nm : List UInt8) (tk pt : Nat) (htk : tk < 256) (hpt : pt < 256) (hr : opRow n = (nm, 3, tk, pt, false)) (w : World) :
    Calls Tryd.prog 27 #[.agg #[.int .i64 (n : Int), .int .i64 A]] w fun e w' => e = .returned (.tuple #[.int .i64 (tk : Int), .int .i64 (pt : Int), .bool true]) ∧ Below w.heap.size w w' := by
  have HR := Aside0.mk hr
  have HA := Aside0.mk hA
  clear hr hA
  have hfld := field68
  go_enter Tryd.func27, Tryd.ntmps27
  go_wp2_with fail
  refine (rowOf_calls n hn _ HR.out _).mono ?_
  rintro e w1 ⟨rfl, hb⟩
  obtain ⟨hc1, hf1⟩ := bcell hb
  have hz : w.heap.size < w1.heap.size := by have := hb.size; simp at this; omega
  go_wp2_with fail
  go_region_with (first | (go_at_call 31; (with_reducible refine (form_3 _).mono ?_); rintro e w2 ⟨x, y, b, rfl, hc2, hb2⟩; obtain ⟨hcl, hfl⟩ := bcell hb2) | (go_at_call 54; (with_reducible refine (below1_yes _ _ _ _ hc2 HA.out).mono ?_); rintro e w3 ⟨rfl, rfl⟩))
  all_goals
    have HE := Aside0.mk (below_two hb hb2 ((below_alloc1 _ _).drew))
    go_wp2_with fail
    repeat (go_quiet (fail); try go_wp2_with fail)
    go_ret3
    exact ⟨rfl, pw_below_drewN HE.out _⟩
set_option maxHeartbeats 4000000 in
set_option maxRecDepth 100000 in
theorem effect_3_no (n : Nat) (A : Int) (hn : n < 67) (hA : ¬ (0 ≤ A ∧ A < 64)) (nm : List UInt8) (tk pt : Nat) (htk : tk < 256) (hpt : pt < 256) (hr : opRow n = (nm, 3, tk, pt, false)) (w : World) :
    Calls Tryd.prog 27 #[.agg #[.int .i64 (n : Int), .int .i64 A]] w fun e w' => e = .returned (.tuple #[.int .i64 0, .int .i64 0, .bool false]) ∧ Below w.heap.size w w' := by
  have HR := Aside0.mk hr
  have HA := Aside0.mk hA
  clear hr hA
  have hfld := field68
  go_enter Tryd.func27, Tryd.ntmps27
  go_wp2_with fail
  refine (rowOf_calls n hn _ HR.out _).mono ?_
  rintro e w1 ⟨rfl, hb⟩
  obtain ⟨hc1, hf1⟩ := bcell hb
  have hz : w.heap.size < w1.heap.size := by have := hb.size; simp at this; omega
  go_wp2_with fail
  go_region_with (first | (go_at_call 31; (with_reducible refine (form_3 _).mono ?_); rintro e w2 ⟨x, y, b, rfl, hc2, hb2⟩; obtain ⟨hcl, hfl⟩ := bcell hb2) | (go_at_call 54; (with_reducible refine (below1_no _ _ _ _ hc2 HA.out).mono ?_); rintro e w3 ⟨rfl, rfl⟩))
  all_goals
    have HE := Aside0.mk (below_two hb hb2 ((below_alloc1 _ _).drew))
    go_wp2_with fail
    go_ret3
    exact ⟨rfl, HE.out⟩
set_option maxHeartbeats 4000000 in
set_option maxRecDepth 100000 in
theorem effect_4_yes (n : Nat) (A : Int) (hn : n < 67) (hA : 0 ≤ A ∧ A < 512) (nm : List UInt8) (tk pt : Nat) (htk : tk < 256) (hpt : pt < 256) (hr : opRow n = (nm, 4, tk, pt, false)) (w : World) :
    Calls Tryd.prog 27 #[.agg #[.int .i64 (n : Int), .int .i64 A]] w fun e w' => e = .returned (.tuple #[.int .i64 (tk : Int), .int .i64 (pt : Int), .bool true]) ∧ Below w.heap.size w w' := by
  have HR := Aside0.mk hr
  have HA := Aside0.mk hA
  clear hr hA
  have hfld := field68
  go_enter Tryd.func27, Tryd.ntmps27
  go_wp2_with fail
  refine (rowOf_calls n hn _ HR.out _).mono ?_
  rintro e w1 ⟨rfl, hb⟩
  obtain ⟨hc1, hf1⟩ := bcell hb
  have hz : w.heap.size < w1.heap.size := by have := hb.size; simp at this; omega
  go_wp2_with fail
  go_region_with (first | (go_at_call 31; (with_reducible refine (form_4 _).mono ?_); rintro e w2 ⟨x, y, b, rfl, hc2, hb2⟩; obtain ⟨hcl, hfl⟩ := bcell hb2) | (go_at_call 54; (with_reducible refine (below1_yes _ _ _ _ hc2 HA.out).mono ?_); rintro e w3 ⟨rfl, rfl⟩))
  all_goals
    have HE := Aside0.mk (below_two hb hb2 ((below_alloc1 _ _).drew))
    go_wp2_with fail
    repeat (go_quiet (fail); try go_wp2_with fail)
    go_ret3
    exact ⟨rfl, pw_below_drewN HE.out _⟩
set_option maxHeartbeats 4000000 in
set_option maxRecDepth 100000 in
theorem effect_4_no (n : Nat) (A : Int) (hn : n < 67) (hA : ¬ (0 ≤ A ∧ A < 512)) (nm : List UInt8) (tk pt : Nat) (htk : tk < 256) (hpt : pt < 256) (hr : opRow n = (nm, 4, tk, pt, false)) (w : World) :
    Calls Tryd.prog 27 #[.agg #[.int .i64 (n : Int), .int .i64 A]] w fun e w' => e = .returned (.tuple #[.int .i64 0, .int .i64 0, .bool false]) ∧ Below w.heap.size w w' := by
  have HR := Aside0.mk hr
  have HA := Aside0.mk hA
  clear hr hA
  have hfld := field68
  go_enter Tryd.func27, Tryd.ntmps27
  go_wp2_with fail
  refine (rowOf_calls n hn _ HR.out _).mono ?_
  rintro e w1 ⟨rfl, hb⟩
  obtain ⟨hc1, hf1⟩ := bcell hb
  have hz : w.heap.size < w1.heap.size := by have := hb.size; simp at this; omega
  go_wp2_with fail
  go_region_with (first | (go_at_call 31; (with_reducible refine (form_4 _).mono ?_); rintro e w2 ⟨x, y, b, rfl, hc2, hb2⟩; obtain ⟨hcl, hfl⟩ := bcell hb2) | (go_at_call 54; (with_reducible refine (below1_no _ _ _ _ hc2 HA.out).mono ?_); rintro e w3 ⟨rfl, rfl⟩))
  all_goals
    have HE := Aside0.mk (below_two hb hb2 ((below_alloc1 _ _).drew))
    go_wp2_with fail
    go_ret3
    exact ⟨rfl, HE.out⟩
end Go.Proofs.YtpallcggmaheoaaDoor
