/-
  Comparisons through Apply; the law's answers and ordered. (Printed by wip/tools/ops_Od.py.)
-/
import Derived.Test.YtkeneiahhmbojaaGreatDoorCt
import Derived.Test.YtkeneiahhmbojaaGreatDoorApp
namespace Go.Proofs.YtkeneiahhmbojaaGreatDoor
open Go.RowKit Go.MapKept
open Go.Proofs.YtkeneiahhmbojaaGreatDoorW.PrintWords Go.Proofs.YtkeneiahhmbojaaGreatDoorW.PrintMore

set_option maxRecDepth 100000 in
theorem apply_val2 (k A : Int) (p : Value) (g m : Nat) (pt D0 D1 : Int) (w : World)
    (hE : ∀ w, Calls Tryz.prog 32 #[.agg #[.int .i64 k, .int .i64 A]] w fun e w' => e = .returned (.tuple #[.int .i64 (m : Int), .int .i64 pt, .bool true]) ∧ Below w.heap.size w w')
    (hA : ∀ w, Calls Tryz.prog 33 #[.int .i64 k] w fun e w' => e = .returned (.bool true) ∧ w = w')
    (hD : ∀ W, Below w.heap.size w W → Calls Tryz.prog 34 #[p, .agg #[.int .i64 k, .int .i64 A], .slice (some ⟨g, 0, none⟩) m m] W fun e w' => e = .returned (.agg #[.int .i64 D0, .int .i64 D1, .int .i64 0, .bool false]) ∧ Below W.heap.size W w') :
    Calls Tryz.prog 17 #[p, .agg #[.int .i64 k, .int .i64 A], .slice (some ⟨g, 0, none⟩) m m] w fun e w' => e = .returned (.tuple #[.agg #[.int .i64 D0, .int .i64 D1], .int .i64 0, .bool true]) ∧ Below w.heap.size w w' := by
  have HE := Aside0.mk hE
  have HA := Aside0.mk hA
  have HD := Aside0.mk hD
  clear hE hA hD
  go_enter Tryz.func17, Tryz.ntmps17
  go_wp2_with fail
  refine (HE.out _).mono ?_
  rintro e w1 ⟨rfl, hb⟩
  obtain ⟨hc1, hf1⟩ := bcell hb
  have hz : w.heap.size + 1 < w1.heap.size := by have := hb.size; simp at this; omega
  have HG1 := Aside0.mk ((hb.block _ (by simp)).trans (heap_alloc2_new w (.cells #[.int .i64 k, .int .i64 A] 54) (.cells #[.int .i64 0, .int .i64 0] 41)))
  have HB1 := Aside0.mk ((((below_alloc1 w (.cells #[.int .i64 k, .int .i64 A] 54)).alloc (by simp) (.cells #[.int .i64 0, .int .i64 0] 41))).trans (hb.mono (by simp; omega)))
  clear hb
  go_wp2_with fail
  refine (HA.out _).mono ?_
  rintro e w2 ⟨rfl, rfl⟩
  have hmm : ((m : Int) != (m : Int)) = false := by simp
  go_wp2_with fail
  refine (HD.out w1 HB1.out).mono ?_
  rintro e w3 ⟨rfl, hb3⟩
  have HG3 := Aside0.mk ((hb3.block _ (Array.getElem?_eq_some_iff.1 HG1.out).1).trans HG1.out)
  have HB3 := Aside0.mk (HB1.out.trans (hb3.mono HB1.out.size))
  clear hb3 hc1 hf1
  have HG4 := Aside0.mk (fun o => (Below.heap_alloc w3 o _ (Array.getElem?_eq_some_iff.1 HG3.out).1).trans HG3.out)
  go_wp2_with (with_reducible refine wpList_store_row rfl 41 _ _ rfl (w.heap.size + 1) #[.int .i64 D0, .int .i64 D1] rfl rfl 41 _ (HG4.out _) (by kernel_rfl) (by kernel_rfl) (by kernel_rfl) ?_)
  exact bodyPost_ret (results_ctt rfl _ _ (w.heap.size + 1) 41 _ (0, 0) _ rfl (setRow_heap _ _ _ _ _ _ (HG4.out _)) Tryz.underlying41 rfl (by kernel_rfl)) rfl ⟨rfl, below_setRow (HB3.out.alloc HB3.out.size _) (by omega) _⟩
set_option maxRecDepth 100000 in
theorem do_cmp25 (p : Value) (A : Int) (g : Nat) (D0 D1 D2 : Int) (D3 : Bool) (w : World)
    (hR : ∀ W, Below w.heap.size w W → Calls Tryz.prog 42 #[p, .int .i64 25, .slice (some ⟨g, 0, none⟩) 2 2] W fun e w' => e = .returned (.agg #[.int .i64 D0, .int .i64 D1, .int .i64 D2, .bool D3]) ∧ Below W.heap.size W w') :
    Calls Tryz.prog 34 #[p, .agg #[.int .i64 25, .int .i64 A], .slice (some ⟨g, 0, none⟩) 2 2] w fun e w' => e = .returned (.agg #[.int .i64 D0, .int .i64 D1, .int .i64 D2, .bool D3]) ∧ Below w.heap.size w w' := by
  have HF := Aside0.mk hR
  clear hR
  go_enter Tryz.func34, Tryz.ntmps34
  go_wp2_with fail
  refine (HF.out _ ((below_alloc1 w _).alloc (by simp) _)).mono ?_
  rintro e w3 ⟨rfl, hb3⟩
  have HG3 := Aside0.mk ((hb3.block _ (by simp)).trans (heap_alloc2_new w (.cells #[.int .i64 25, .int .i64 A] 54) (.cells #[.int .i64 0, .int .i64 0, .int .i64 0, .bool false] 90)))
  have HB3 := Aside0.mk (((below_alloc1 w (.cells #[.int .i64 25, .int .i64 A] 54)).alloc (by simp) (.cells #[.int .i64 0, .int .i64 0, .int .i64 0, .bool false] 90)).trans (hb3.mono (by simp; omega)))
  clear hb3
  go_wp2_with (with_reducible refine wpList_store_row rfl 90 _ _ rfl (w.heap.size + 1) #[.int .i64 D0, .int .i64 D1, .int .i64 D2, .bool D3] rfl rfl 90 _ HG3.out (by kernel_rfl) (by kernel_rfl) (by kernel_rfl) ?_)
  exact bodyPost_ret (results_cell_row rfl _ _ (w.heap.size + 1) 90 _ (0, 0) _ rfl (setRow_heap _ _ _ _ _ _ HG3.out) Tryz.underlying90 rfl (by kernel_rfl)) rfl ⟨rfl, below_setRow HB3.out (by omega) _⟩
set_option maxRecDepth 100000 in
theorem do_cmp26 (p : Value) (A : Int) (g : Nat) (D0 D1 D2 : Int) (D3 : Bool) (w : World)
    (hR : ∀ W, Below w.heap.size w W → Calls Tryz.prog 42 #[p, .int .i64 26, .slice (some ⟨g, 0, none⟩) 2 2] W fun e w' => e = .returned (.agg #[.int .i64 D0, .int .i64 D1, .int .i64 D2, .bool D3]) ∧ Below W.heap.size W w') :
    Calls Tryz.prog 34 #[p, .agg #[.int .i64 26, .int .i64 A], .slice (some ⟨g, 0, none⟩) 2 2] w fun e w' => e = .returned (.agg #[.int .i64 D0, .int .i64 D1, .int .i64 D2, .bool D3]) ∧ Below w.heap.size w w' := by
  have HF := Aside0.mk hR
  clear hR
  go_enter Tryz.func34, Tryz.ntmps34
  go_wp2_with fail
  refine (HF.out _ ((below_alloc1 w _).alloc (by simp) _)).mono ?_
  rintro e w3 ⟨rfl, hb3⟩
  have HG3 := Aside0.mk ((hb3.block _ (by simp)).trans (heap_alloc2_new w (.cells #[.int .i64 26, .int .i64 A] 54) (.cells #[.int .i64 0, .int .i64 0, .int .i64 0, .bool false] 90)))
  have HB3 := Aside0.mk (((below_alloc1 w (.cells #[.int .i64 26, .int .i64 A] 54)).alloc (by simp) (.cells #[.int .i64 0, .int .i64 0, .int .i64 0, .bool false] 90)).trans (hb3.mono (by simp; omega)))
  clear hb3
  go_wp2_with (with_reducible refine wpList_store_row rfl 90 _ _ rfl (w.heap.size + 1) #[.int .i64 D0, .int .i64 D1, .int .i64 D2, .bool D3] rfl rfl 90 _ HG3.out (by kernel_rfl) (by kernel_rfl) (by kernel_rfl) ?_)
  exact bodyPost_ret (results_cell_row rfl _ _ (w.heap.size + 1) 90 _ (0, 0) _ rfl (setRow_heap _ _ _ _ _ _ HG3.out) Tryz.underlying90 rfl (by kernel_rfl)) rfl ⟨rfl, below_setRow HB3.out (by omega) _⟩
set_option maxRecDepth 100000 in
theorem do_cmp27 (p : Value) (A : Int) (g : Nat) (D0 D1 D2 : Int) (D3 : Bool) (w : World)
    (hR : ∀ W, Below w.heap.size w W → Calls Tryz.prog 42 #[p, .int .i64 27, .slice (some ⟨g, 0, none⟩) 2 2] W fun e w' => e = .returned (.agg #[.int .i64 D0, .int .i64 D1, .int .i64 D2, .bool D3]) ∧ Below W.heap.size W w') :
    Calls Tryz.prog 34 #[p, .agg #[.int .i64 27, .int .i64 A], .slice (some ⟨g, 0, none⟩) 2 2] w fun e w' => e = .returned (.agg #[.int .i64 D0, .int .i64 D1, .int .i64 D2, .bool D3]) ∧ Below w.heap.size w w' := by
  have HF := Aside0.mk hR
  clear hR
  go_enter Tryz.func34, Tryz.ntmps34
  go_wp2_with fail
  refine (HF.out _ ((below_alloc1 w _).alloc (by simp) _)).mono ?_
  rintro e w3 ⟨rfl, hb3⟩
  have HG3 := Aside0.mk ((hb3.block _ (by simp)).trans (heap_alloc2_new w (.cells #[.int .i64 27, .int .i64 A] 54) (.cells #[.int .i64 0, .int .i64 0, .int .i64 0, .bool false] 90)))
  have HB3 := Aside0.mk (((below_alloc1 w (.cells #[.int .i64 27, .int .i64 A] 54)).alloc (by simp) (.cells #[.int .i64 0, .int .i64 0, .int .i64 0, .bool false] 90)).trans (hb3.mono (by simp; omega)))
  clear hb3
  go_wp2_with (with_reducible refine wpList_store_row rfl 90 _ _ rfl (w.heap.size + 1) #[.int .i64 D0, .int .i64 D1, .int .i64 D2, .bool D3] rfl rfl 90 _ HG3.out (by kernel_rfl) (by kernel_rfl) (by kernel_rfl) ?_)
  exact bodyPost_ret (results_cell_row rfl _ _ (w.heap.size + 1) 90 _ (0, 0) _ rfl (setRow_heap _ _ _ _ _ _ HG3.out) Tryz.underlying90 rfl (by kernel_rfl)) rfl ⟨rfl, below_setRow HB3.out (by omega) _⟩
set_option maxRecDepth 100000 in
theorem do_cmp28 (p : Value) (A : Int) (g : Nat) (D0 D1 D2 : Int) (D3 : Bool) (w : World)
    (hR : ∀ W, Below w.heap.size w W → Calls Tryz.prog 42 #[p, .int .i64 28, .slice (some ⟨g, 0, none⟩) 2 2] W fun e w' => e = .returned (.agg #[.int .i64 D0, .int .i64 D1, .int .i64 D2, .bool D3]) ∧ Below W.heap.size W w') :
    Calls Tryz.prog 34 #[p, .agg #[.int .i64 28, .int .i64 A], .slice (some ⟨g, 0, none⟩) 2 2] w fun e w' => e = .returned (.agg #[.int .i64 D0, .int .i64 D1, .int .i64 D2, .bool D3]) ∧ Below w.heap.size w w' := by
  have HF := Aside0.mk hR
  clear hR
  go_enter Tryz.func34, Tryz.ntmps34
  go_wp2_with fail
  refine (HF.out _ ((below_alloc1 w _).alloc (by simp) _)).mono ?_
  rintro e w3 ⟨rfl, hb3⟩
  have HG3 := Aside0.mk ((hb3.block _ (by simp)).trans (heap_alloc2_new w (.cells #[.int .i64 28, .int .i64 A] 54) (.cells #[.int .i64 0, .int .i64 0, .int .i64 0, .bool false] 90)))
  have HB3 := Aside0.mk (((below_alloc1 w (.cells #[.int .i64 28, .int .i64 A] 54)).alloc (by simp) (.cells #[.int .i64 0, .int .i64 0, .int .i64 0, .bool false] 90)).trans (hb3.mono (by simp; omega)))
  clear hb3
  go_wp2_with (with_reducible refine wpList_store_row rfl 90 _ _ rfl (w.heap.size + 1) #[.int .i64 D0, .int .i64 D1, .int .i64 D2, .bool D3] rfl rfl 90 _ HG3.out (by kernel_rfl) (by kernel_rfl) (by kernel_rfl) ?_)
  exact bodyPost_ret (results_cell_row rfl _ _ (w.heap.size + 1) 90 _ (0, 0) _ rfl (setRow_heap _ _ _ _ _ _ HG3.out) Tryz.underlying90 rfl (by kernel_rfl)) rfl ⟨rfl, below_setRow HB3.out (by omega) _⟩
/-- Apply at a comparison -/
def AppC (p : Value) (w : World) (k ka a kb b : Int) (x : Bool) : Prop := ∀ W g, Below w.heap.size w W → W.heap[g]? = some (.cells #[.int .i64 ka, .int .i64 a, .int .i64 kb, .int .i64 b] 41 (0, 0)) →
  Calls Tryz.prog 17 #[p, .agg #[.int .i64 k, .int .i64 0], .slice (some ⟨g, 0, none⟩) 2 2] W fun e w' => e = .returned (.tuple #[.agg #[.int .i64 1, .int .i64 (b01 x)], .int .i64 0, .bool true]) ∧ Below W.heap.size W w'
theorem appc_eq (p : Value) (w : World) (ka a kb b : Int) (x : Bool)
    (hR : ∀ W g, Below w.heap.size w W → W.heap[g]? = some (.cells #[.int .i64 ka, .int .i64 a, .int .i64 kb, .int .i64 b] 41 (0, 0)) → Calls Tryz.prog 42 #[p, .int .i64 25, .slice (some ⟨g, 0, none⟩) 2 2] W fun e w' => e = .returned (.agg #[.int .i64 1, .int .i64 (b01 x), .int .i64 0, .bool false]) ∧ Below W.heap.size W w') :
    AppC p w 25 ka a kb b x := by
  intro W g hW hg
  have hlt := (Array.getElem?_eq_some_iff.1 hg).1
  refine apply_val2 25 0 p g 2 1 1 (b01 x) W (fun w => ?_) (fun w => applies_calls 25 (by omega) w) (fun W1 h1 => do_cmp25 p 0 g 1 (b01 x) 0 false W1 (fun W2 h2 => ?_))
  · exact effect_0_yes 25 0 (by decide) (by decide) [101, 113] 2 1 (by decide) (by decide) (by decide +kernel) w
  · have h3 := h1.trans (h2.mono h1.size)
    exact hR W2 g (hW.trans (h3.mono hW.size)) ((h3.block _ hlt).trans hg)
theorem appc_ne (p : Value) (w : World) (ka a kb b : Int) (x : Bool)
    (hR : ∀ W g, Below w.heap.size w W → W.heap[g]? = some (.cells #[.int .i64 ka, .int .i64 a, .int .i64 kb, .int .i64 b] 41 (0, 0)) → Calls Tryz.prog 42 #[p, .int .i64 26, .slice (some ⟨g, 0, none⟩) 2 2] W fun e w' => e = .returned (.agg #[.int .i64 1, .int .i64 (b01 x), .int .i64 0, .bool false]) ∧ Below W.heap.size W w') :
    AppC p w 26 ka a kb b x := by
  intro W g hW hg
  have hlt := (Array.getElem?_eq_some_iff.1 hg).1
  refine apply_val2 26 0 p g 2 1 1 (b01 x) W (fun w => ?_) (fun w => applies_calls 26 (by omega) w) (fun W1 h1 => do_cmp26 p 0 g 1 (b01 x) 0 false W1 (fun W2 h2 => ?_))
  · exact effect_0_yes 26 0 (by decide) (by decide) [110, 101] 2 1 (by decide) (by decide) (by decide +kernel) w
  · have h3 := h1.trans (h2.mono h1.size)
    exact hR W2 g (hW.trans (h3.mono hW.size)) ((h3.block _ hlt).trans hg)
theorem appc_lt (p : Value) (w : World) (ka a kb b : Int) (x : Bool)
    (hR : ∀ W g, Below w.heap.size w W → W.heap[g]? = some (.cells #[.int .i64 ka, .int .i64 a, .int .i64 kb, .int .i64 b] 41 (0, 0)) → Calls Tryz.prog 42 #[p, .int .i64 27, .slice (some ⟨g, 0, none⟩) 2 2] W fun e w' => e = .returned (.agg #[.int .i64 1, .int .i64 (b01 x), .int .i64 0, .bool false]) ∧ Below W.heap.size W w') :
    AppC p w 27 ka a kb b x := by
  intro W g hW hg
  have hlt := (Array.getElem?_eq_some_iff.1 hg).1
  refine apply_val2 27 0 p g 2 1 1 (b01 x) W (fun w => ?_) (fun w => applies_calls 27 (by omega) w) (fun W1 h1 => do_cmp27 p 0 g 1 (b01 x) 0 false W1 (fun W2 h2 => ?_))
  · exact effect_0_yes 27 0 (by decide) (by decide) [108, 116] 2 1 (by decide) (by decide) (by decide +kernel) w
  · have h3 := h1.trans (h2.mono h1.size)
    exact hR W2 g (hW.trans (h3.mono hW.size)) ((h3.block _ hlt).trans hg)
theorem appc_le (p : Value) (w : World) (ka a kb b : Int) (x : Bool)
    (hR : ∀ W g, Below w.heap.size w W → W.heap[g]? = some (.cells #[.int .i64 ka, .int .i64 a, .int .i64 kb, .int .i64 b] 41 (0, 0)) → Calls Tryz.prog 42 #[p, .int .i64 28, .slice (some ⟨g, 0, none⟩) 2 2] W fun e w' => e = .returned (.agg #[.int .i64 1, .int .i64 (b01 x), .int .i64 0, .bool false]) ∧ Below W.heap.size W w') :
    AppC p w 28 ka a kb b x := by
  intro W g hW hg
  have hlt := (Array.getElem?_eq_some_iff.1 hg).1
  refine apply_val2 28 0 p g 2 1 1 (b01 x) W (fun w => ?_) (fun w => applies_calls 28 (by omega) w) (fun W1 h1 => do_cmp28 p 0 g 1 (b01 x) 0 false W1 (fun W2 h2 => ?_))
  · exact effect_0_yes 28 0 (by decide) (by decide) [108, 101] 2 1 (by decide) (by decide) (by decide +kernel) w
  · have h3 := h1.trans (h2.mono h1.size)
    exact hR W2 g (hW.trans (h3.mono hW.size)) ((h3.block _ hlt).trans hg)
theorem below_step {w1 w2 X : World} (hb2 : Below X.heap.size X w2) (hX : Below w1.heap.size w1 X) : Below w1.heap.size w1 w2 := hX.trans (hb2.mono hX.size)
def Ans (p : Value) (w : World) (k : Int) (X Y : Value) (r : Bool) : Prop := ∀ W, Below w.heap.size w W → Calls Tryz.prog 27 #[p, .int .i64 k, X, Y, .bool r] W fun e w' => e = .returned (.bool true) ∧ Below W.heap.size W w'
set_option maxRecDepth 100000 in
set_option maxHeartbeats 4000000 in
theorem ans_true (p : Value) (w : World) (k ka a kb b : Int) (hA : AppC p w k ka a kb b true) : Ans p w k (.agg #[.int .i64 ka, .int .i64 a]) (.agg #[.int .i64 kb, .int .i64 b]) true := by
  intro W hW
  have HA := Aside0.mk hA
  have HW := Aside0.mk hW
  clear hA hW
  go_enter Tryz.func27, Tryz.ntmps27
  go_wp2_with fail
  refine (HA.out _ _ (HW.out.trans ((below3 W _ _ _).mono HW.out.size)) (heap3_last W _ _ _)).mono ?_
  rintro e w1 ⟨rfl, hb⟩
  have HB1 := Aside0.mk ((below3 W _ _ _).trans (hb.mono (by simp; omega)))
  clear hb
  go_wp2_with fail
  have hz : w1.heap.size < (w1.alloc (.cells #[.int .i64 1, .int .i64 (b01 true)] 41)).heap.size := by simp
  have HC1 := Aside0.mk (heap_alloc_last w1 (.cells #[.int .i64 1, .int .i64 (b01 true)] 41))
  go_region_with (first | (go_at_call 36; (with_reducible refine (ltruth_t _).mono ?_); rintro e w2 ⟨rfl, hb2⟩; obtain ⟨hc2, hf2⟩ := bcell hb2; have hk2 := hc2))
  all_goals
    have HE := Aside0.mk (HB1.out.trans ((below_step hb2 (by first | exact below_alloc1 _ _ | exact (below_alloc1 _ _).drew | exact pw_below_drewN (below_alloc1 _ _) _)).mono HB1.out.size))
    clear hc2 hf2 hb2
    go_wp2_with fail
    go_simp
    go_ret
    first
      | exact ⟨rfl, HE.out⟩
      | exact ⟨rfl, HE.out.drew⟩
      | exact ⟨rfl, pw_below_drewN HE.out _⟩
set_option maxRecDepth 100000 in
set_option maxHeartbeats 4000000 in
theorem ans_false (p : Value) (w : World) (k ka a kb b : Int) (hA : AppC p w k ka a kb b false) : Ans p w k (.agg #[.int .i64 ka, .int .i64 a]) (.agg #[.int .i64 kb, .int .i64 b]) false := by
  intro W hW
  have HA := Aside0.mk hA
  have HW := Aside0.mk hW
  clear hA hW
  go_enter Tryz.func27, Tryz.ntmps27
  go_wp2_with fail
  refine (HA.out _ _ (HW.out.trans ((below3 W _ _ _).mono HW.out.size)) (heap3_last W _ _ _)).mono ?_
  rintro e w1 ⟨rfl, hb⟩
  have HB1 := Aside0.mk ((below3 W _ _ _).trans (hb.mono (by simp; omega)))
  clear hb
  go_wp2_with fail
  have hz : w1.heap.size < (w1.alloc (.cells #[.int .i64 1, .int .i64 (b01 false)] 41)).heap.size := by simp
  have HC1 := Aside0.mk (heap_alloc_last w1 (.cells #[.int .i64 1, .int .i64 (b01 false)] 41))
  go_region_with (first | (go_at_call 36; (with_reducible refine (ltruth_f _).mono ?_); rintro e w2 ⟨rfl, hb2⟩; obtain ⟨hc2, hf2⟩ := bcell hb2; have hk2 := hc2))
  all_goals
    have HE := Aside0.mk (HB1.out.trans ((below_step hb2 (by first | exact below_alloc1 _ _ | exact (below_alloc1 _ _).drew | exact pw_below_drewN (below_alloc1 _ _) _)).mono HB1.out.size))
    clear hc2 hf2 hb2
    go_wp2_with fail
    go_simp
    go_ret
    first
      | exact ⟨rfl, HE.out⟩
      | exact ⟨rfl, HE.out.drew⟩
      | exact ⟨rfl, pw_below_drewN HE.out _⟩
end Go.Proofs.YtkeneiahhmbojaaGreatDoor
