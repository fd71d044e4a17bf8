/-
  The law's on and alone.
-/
import Derived.Test.YtkeneiahhmbojaaGreatDoorAp
namespace Go.Proofs.YtkeneiahhmbojaaGreatDoor
open Go.RowKit Go.MapKept
open Go.Proofs.YtkeneiahhmbojaaGreatDoorW.PrintWords Go.Proofs.YtkeneiahhmbojaaGreatDoorW.PrintMore

theorem whole_calls (n : Int) (w : World) : Calls Tryz.prog 14 #[.int .i64 n] w fun e w' => e = .returned (.agg #[.int .i64 2, .int .i64 n]) ∧ Below w.heap.size w w' := by
  go_enter Tryz.func14, Tryz.ntmps14
  go_wp2_with fail
  exact bodyPost_ret (results_cell_row rfl _ _ w.heap.size 41 _ (0, 0) _ rfl (heap_alloc_last w _) Tryz.underlying41 rfl (by kernel_rfl)) rfl ⟨rfl, below_alloc1 w _⟩
theorem heapNew_calls (w : World) : Calls Tryz.prog 25 #[.int .i64 0, .int .i64 0] w fun e w' => e = .returned (.pointer (some ⟨w.heap.size, 0, none⟩)) ∧ w.alloc (.cells #[.int .i64 0, .int .i64 0, .slice none 0 0] 94) = w' := by
  go_enter Tryz.func25, Tryz.ntmps25
  go_wp2_with fail
  go_ret
  exact ⟨rfl, rfl⟩
theorem indexNew_calls (w : World) : Calls Tryz.prog 26 #[] w fun e w' => e = .returned (.pointer (some ⟨w.heap.size + 1, 0, none⟩)) ∧ (w.alloc (.map #[] 0)).alloc (.cells #[.map (some w.heap.size), .slice none 0 0] 77) = w' := by
  have hmm := @run_makeMap Tryz.prog
  go_enter Tryz.func26, Tryz.ntmps26
  go_wp2_with fail
  go_ret
  exact ⟨rfl, rfl⟩
theorem empty_calls (w : World) : Calls Tryz.prog 11 #[] w fun e w' => (∃ b, e = .returned (.pointer (some b))) ∧ Below w.heap.size w w' := by
  go_enter Tryz.func11, Tryz.ntmps11
  go_wp2_with fail
  refine (heapNew_calls _).mono ?_
  rintro e w1 ⟨rfl, rfl⟩
  go_wp2_with fail
  refine (indexNew_calls _).mono ?_
  rintro e w1 ⟨rfl, rfl⟩
  go_wp2_with fail
  go_ret
  exact ⟨⟨_, rfl⟩, ((((Below.refl _ _).alloc (Nat.le_refl _) _).alloc (by simp) _).alloc (by simp; omega) _).alloc (by simp; omega) _⟩
/-- what Apply comes to on two whole numbers, on one -/
def App2 (k a b D0 D1 D2 : Int) (D3 : Bool) : Prop := ∀ W g p, W.heap[g]? = some (.cells #[.int .i64 2, .int .i64 a, .int .i64 2, .int .i64 b] 41 (0, 0)) →
  Calls Tryz.prog 17 #[p, .agg #[.int .i64 k, .int .i64 0], .slice (some ⟨g, 0, none⟩) 2 2] W fun e w' => e = .returned (.tuple #[.agg #[.int .i64 D0, .int .i64 D1], .int .i64 D2, .bool D3]) ∧ Below W.heap.size W w'
def App1 (k A a D0 D1 D2 : Int) (D3 : Bool) : Prop := ∀ W g p, W.heap[g]? = some (.cells #[.int .i64 2, .int .i64 a] 41 (0, 0)) →
  Calls Tryz.prog 17 #[p, .agg #[.int .i64 k, .int .i64 A], .slice (some ⟨g, 0, none⟩) 1 1] W fun e w' => e = .returned (.tuple #[.agg #[.int .i64 D0, .int .i64 D1], .int .i64 D2, .bool D3]) ∧ Below W.heap.size W w'
set_option maxRecDepth 100000 in
theorem on_val (k a b R : Int) (hAp : App2 k a b 2 R 0 true) (w : World) :
    Calls Tryz.prog 8 #[.int .i64 k, .int .i64 a, .int .i64 b] w fun e w' => e = .returned (.tuple #[.int .i64 R, .bool true]) ∧ Below w.heap.size w w' := by
  have HA := Aside0.mk hAp
  clear hAp
  go_enter Tryz.func8, Tryz.ntmps8
  go_wp2_with fail
  refine (empty_calls _).mono ?_
  rintro e w1 ⟨⟨p, rfl⟩, hb⟩
  have HB1 := Aside0.mk hb
  clear hb
  go_wp2_with fail
  refine (whole_calls _ _).mono ?_
  rintro e w2 ⟨rfl, hb⟩
  have HB2 := Aside0.mk (HB1.out.trans (hb.mono HB1.out.size))
  clear hb
  go_wp2_with fail
  refine (whole_calls _ _).mono ?_
  rintro e w3 ⟨rfl, hb⟩
  have HB3 := Aside0.mk (HB2.out.trans (hb.mono HB2.out.size))
  clear hb
  go_wp2_with fail
  refine (HA.out _ _ _ (heap_alloc_last w3 _)).mono ?_
  rintro e w4 ⟨rfl, hb⟩
  have HB4 := Aside0.mk ((HB3.out.alloc HB3.out.size (.cells #[.int .i64 2, .int .i64 a, .int .i64 2, .int .i64 b] 41)).trans (hb.mono (by have := HB3.out.size; simp; omega)))
  clear hb
  go_wp2_with fail
  repeat (go_quiet (fail); try go_wp2_with fail)
  go_ret2
  first
    | exact ⟨rfl, HB4.out.alloc HB4.out.size _⟩
    | exact ⟨rfl, pw_below_drewN (HB4.out.alloc HB4.out.size _) _⟩
set_option maxRecDepth 100000 in
theorem on_trap (k a b T : Int) (hAp : App2 k a b 0 0 T true) (w : World) :
    Calls Tryz.prog 8 #[.int .i64 k, .int .i64 a, .int .i64 b] w fun e w' => e = .returned (.tuple #[.int .i64 0, .bool false]) ∧ Below w.heap.size w w' := by
  have HA := Aside0.mk hAp
  clear hAp
  go_enter Tryz.func8, Tryz.ntmps8
  go_wp2_with fail
  refine (empty_calls _).mono ?_
  rintro e w1 ⟨⟨p, rfl⟩, hb⟩
  have HB1 := Aside0.mk hb
  clear hb
  go_wp2_with fail
  refine (whole_calls _ _).mono ?_
  rintro e w2 ⟨rfl, hb⟩
  have HB2 := Aside0.mk (HB1.out.trans (hb.mono HB1.out.size))
  clear hb
  go_wp2_with fail
  refine (whole_calls _ _).mono ?_
  rintro e w3 ⟨rfl, hb⟩
  have HB3 := Aside0.mk (HB2.out.trans (hb.mono HB2.out.size))
  clear hb
  go_wp2_with fail
  refine (HA.out _ _ _ (heap_alloc_last w3 _)).mono ?_
  rintro e w4 ⟨rfl, hb⟩
  have HB4 := Aside0.mk ((HB3.out.alloc HB3.out.size (.cells #[.int .i64 2, .int .i64 a, .int .i64 2, .int .i64 b] 41)).trans (hb.mono (by have := HB3.out.size; simp; omega)))
  clear hb
  go_wp2_with fail
  repeat (go_quiet (fail); try go_wp2_with fail)
  go_ret2
  first
    | exact ⟨rfl, HB4.out.alloc HB4.out.size _⟩
    | exact ⟨rfl, pw_below_drewN (HB4.out.alloc HB4.out.size _) _⟩
set_option maxRecDepth 100000 in
theorem alone_val (k A a R : Int) (hAp : App1 k A a 2 R 0 true) (w : World) :
    Calls Tryz.prog 9 #[.int .i64 k, .int .i64 a, .int .i64 A] w fun e w' => e = .returned (.tuple #[.int .i64 R, .bool true]) ∧ Below w.heap.size w w' := by
  have HA := Aside0.mk hAp
  clear hAp
  go_enter Tryz.func9, Tryz.ntmps9
  go_wp2_with fail
  refine (empty_calls _).mono ?_
  rintro e w1 ⟨⟨p, rfl⟩, hb⟩
  have HB1 := Aside0.mk hb
  clear hb
  go_wp2_with fail
  refine (whole_calls _ _).mono ?_
  rintro e w2 ⟨rfl, hb⟩
  have HB2 := Aside0.mk (HB1.out.trans (hb.mono HB1.out.size))
  clear hb
  go_wp2_with fail
  refine (HA.out _ _ _ (heap_alloc_last w2 _)).mono ?_
  rintro e w4 ⟨rfl, hb⟩
  have HB4 := Aside0.mk ((HB2.out.alloc HB2.out.size (.cells #[.int .i64 2, .int .i64 a] 41)).trans (hb.mono (by have := HB2.out.size; simp; omega)))
  clear hb
  go_wp2_with fail
  repeat (go_quiet (fail); try go_wp2_with fail)
  go_ret2
  first
    | exact ⟨rfl, HB4.out.alloc HB4.out.size _⟩
    | exact ⟨rfl, pw_below_drewN (HB4.out.alloc HB4.out.size _) _⟩
end Go.Proofs.YtkeneiahhmbojaaGreatDoor
