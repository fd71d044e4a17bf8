/-
  What the code knows of operations: a row by its number; effects. (Printed by wip/tools/ops_Ro.py.)
-/
import Derived.Test.YtpallcggmaheoaaDoorFo
import Derived.Deep.RegionWith
import Derived.Laws.CopyOwn
namespace Go.Proofs.YtpallcggmaheoaaDoor
open Go.RowKit Go.MapKept
open Go.Proofs.YtpallcggmaheoaaDoorW.PrintWords Go.Proofs.YtpallcggmaheoaaDoorW.PrintMore

theorem bcell {W w1 : World} (hb : Below W.heap.size W w1) : (∀ b o, b < W.heap.size → w1.cell? ⟨b, o, none⟩ = W.cell? ⟨b, o, none⟩) ∧ (∀ b o, b < W.heap.size → w1.frozen? ⟨b, o, none⟩ = W.frozen? ⟨b, o, none⟩) :=
  ⟨fun b o h => hb.cell (p := ⟨b, o, none⟩) h, fun b o h => hb.frozen (p := ⟨b, o, none⟩) h⟩
/-- what lies in a block of an elder world -/
theorem old_block {w w1 : World} {o : Obj} (hb : Below (w.alloc o).heap.size (w.alloc o) w1) : w1.heap[w.heap.size]? = some o := (hb.block _ (by simp)).trans (heap_alloc_last w o)
theorem below_alloc1 (w : World) (o : Obj) : Below w.heap.size w (w.alloc o) := (Below.refl _ _).alloc (Nat.le_refl _) _
theorem below_after {w w1 : World} {o : Obj} (hb : Below (w.alloc o).heap.size (w.alloc o) w1) : Below w.heap.size w w1 := (below_alloc1 w o).trans (hb.mono (by simp))
theorem below_two {w w1 w2 X : World} {o : Obj} (hb : Below (w.alloc o).heap.size (w.alloc o) w1) (hb2 : Below X.heap.size X w2) (hX : Below w1.heap.size w1 X) : Below w.heap.size w w2 := by
  have h1 := below_after hb
  have a1 := h1.size
  have a2 := hX.size
  exact (h1.trans (hX.mono a1)).trans (hb2.mono (by omega))

theorem rowOf_e (n : Nat) (h : n < 38) (r : List UInt8 × Nat × Nat × Nat × Bool) (hr : opRow n = r) (w : World) :
    Calls Tryd.prog 28 #[.int .i64 (n : Int)] w fun e w' => e = .returned (.tuple #[.agg #[.string ⟨r.1.toArray⟩, .int .u8 (r.2.1 : Int), .int .u8 (r.2.2.1 : Int), .int .u8 (r.2.2.2.1 : Int), .bool r.2.2.2.2], .bool true]) ∧ Below w.heap.size w w' := by
    obtain ⟨nm, kd, tk, pt, mn⟩ := r
    have HR := Aside0.mk hr
    clear hr
    have p0 : decide ((n : Int) < 0) = false := decide_eq_false (by omega)
    have p1 : decide ((67 : Int) ≤ (n : Int)) = false := decide_eq_false (by omega)
    have p2 : decide ((n : Int) < 38) = true := decide_eq_true (by omega)
    have p4 : decide (67 ≤ n) = false := decide_eq_false (by omega)
    have p5 : decide (n < 38) = true := decide_eq_true (by omega)
    go_enter Tryd.func28, Tryd.ntmps28
    go_wp2_with fail
    refine (early_calls n h _).mono ?_
    rintro e w1 ⟨he, hb⟩
    rw [HR.out] at he
    have he : e = .returned (.agg #[.string ⟨nm.toArray⟩, .int .u8 (kd : Int), .int .u8 (tk : Int), .int .u8 (pt : Int), .bool mn]) := he
    subst he
    have HG := Aside0.mk (old_block hb)
    have HB := Aside0.mk (below_after hb)
    clear hb
    go_wp2_with (with_reducible refine wpList_store_row rfl 59 _ _ rfl w.heap.size #[.string ⟨nm.toArray⟩, .int .u8 (kd : Int), .int .u8 (tk : Int), .int .u8 (pt : Int), .bool mn] rfl rfl 59 _ HG.out (by kernel_rfl) (by kernel_rfl) (by kernel_rfl) ?_)
    exact bodyPost_ret (results_ct rfl _ _ w.heap.size 59 #[.string ⟨nm.toArray⟩, .int .u8 (kd : Int), .int .u8 (tk : Int), .int .u8 (pt : Int), .bool mn] (0, 0) _ rfl (setRow_heap _ _ _ _ _ _ HG.out) Tryd.underlying59 rfl (by kernel_rfl)) rfl ⟨rfl, below_setRow HB.out (Nat.le_refl _) _⟩

theorem rowOf_l (n : Nat) (h : n < 29) (r : List UInt8 × Nat × Nat × Nat × Bool) (hr : opRow (38 + n) = r) (w : World) :
    Calls Tryd.prog 28 #[.int .i64 ((38 + n : Nat) : Int)] w fun e w' => e = .returned (.tuple #[.agg #[.string ⟨r.1.toArray⟩, .int .u8 (r.2.1 : Int), .int .u8 (r.2.2.1 : Int), .int .u8 (r.2.2.2.1 : Int), .bool r.2.2.2.2], .bool true]) ∧ Below w.heap.size w w' := by
    obtain ⟨nm, kd, tk, pt, mn⟩ := r
    have HR := Aside0.mk hr
    clear hr
    obtain ⟨N, hN⟩ : ∃ N : Int, N = ((38 + n : Nat) : Int) := ⟨_, rfl⟩
    have p0 : decide (N < 0) = false := decide_eq_false (by omega)
    have p1 : decide (67 ≤ N) = false := decide_eq_false (by omega)
    have p2 : decide (N < 38) = false := decide_eq_false (by omega)
    have HN := Aside0.mk hN
    rw [← hN]
    clear hN
    go_enter Tryd.func28, Tryd.ntmps28
    go_wp2_with fail
    rw [HN.out]
    refine (later_calls n h _).mono ?_
    rintro e w1 ⟨he, hb⟩
    rw [HR.out] at he
    have he : e = .returned (.agg #[.string ⟨nm.toArray⟩, .int .u8 (kd : Int), .int .u8 (tk : Int), .int .u8 (pt : Int), .bool mn]) := he
    subst he
    have HG := Aside0.mk (old_block hb)
    have HB := Aside0.mk (below_after hb)
    clear hb
    go_wp2_with (with_reducible refine wpList_store_row rfl 59 _ _ rfl w.heap.size #[.string ⟨nm.toArray⟩, .int .u8 (kd : Int), .int .u8 (tk : Int), .int .u8 (pt : Int), .bool mn] rfl rfl 59 _ HG.out (by kernel_rfl) (by kernel_rfl) (by kernel_rfl) ?_)
    exact bodyPost_ret (results_ct rfl _ _ w.heap.size 59 #[.string ⟨nm.toArray⟩, .int .u8 (kd : Int), .int .u8 (tk : Int), .int .u8 (pt : Int), .bool mn] (0, 0) _ rfl (setRow_heap _ _ _ _ _ _ HG.out) Tryd.underlying59 rfl (by kernel_rfl)) rfl ⟨rfl, below_setRow HB.out (Nat.le_refl _) _⟩

theorem rowOf_calls (n : Nat) (hn : n < 67) (r : List UInt8 × Nat × Nat × Nat × Bool) (hr : opRow n = r) (w : World) :
    Calls Tryd.prog 28 #[.int .i64 (n : Int)] w fun e w' => e = .returned (.tuple #[.agg #[.string ⟨r.1.toArray⟩, .int .u8 (r.2.1 : Int), .int .u8 (r.2.2.1 : Int), .int .u8 (r.2.2.2.1 : Int), .bool r.2.2.2.2], .bool true]) ∧ Below w.heap.size w w' := by
  by_cases h : n < 38
  · exact rowOf_e n h r hr w
  · obtain ⟨m, rfl⟩ : ∃ m, n = 38 + m := ⟨n - 38, by omega⟩
    exact rowOf_l m (by omega) r hr w
theorem rowOf_none (n : Int) (hn : n < 0 ∨ 67 ≤ n) (w : World) :
    Calls Tryd.prog 28 #[.int .i64 n] w fun e w' => e = .returned (.tuple #[.agg #[.string ⟨#[]⟩, .int .u8 0, .int .u8 0, .int .u8 0, .bool false], .bool false]) ∧ Below w.heap.size w w' := by
  rcases hn with h | h
  · have p0 : decide (n < 0) = true := decide_eq_true h
    go_enter Tryd.func28, Tryd.ntmps28
    go_wp2_with fail
    exact bodyPost_ret (results_ct rfl _ _ w.heap.size 59 _ (0, 0) _ rfl (heap_alloc_last w _) Tryd.underlying59 rfl (by kernel_rfl)) rfl ⟨rfl, below_alloc1 w _⟩
  · have p0 : decide (n < 0) = false := decide_eq_false (by omega)
    have p1 : decide (67 ≤ n) = true := decide_eq_true h
    go_enter Tryd.func28, Tryd.ntmps28
    go_wp2_with fail
    exact bodyPost_ret (results_ct rfl _ _ w.heap.size 59 _ (0, 0) _ rfl (heap_alloc_last w _) Tryd.underlying59 rfl (by kernel_rfl)) rfl ⟨rfl, below_alloc1 w _⟩
theorem below1_yes (n a : Int) (b : Nat) (w : World) (hc : w.cell? ⟨b, 0, none⟩ = some (.int .i64 n)) (h : 0 ≤ a ∧ a < n) : Calls Tryd.prog 54 #[.int .i64 a, .pointer (some ⟨b, 0, none⟩)] w fun e w' => e = .returned (.bool true) ∧ w = w' := by
  have := below1_calls n a b w hc
  rwa [decide_eq_true h] at this
theorem below1_no (n a : Int) (b : Nat) (w : World) (hc : w.cell? ⟨b, 0, none⟩ = some (.int .i64 n)) (h : ¬ (0 ≤ a ∧ a < n)) : Calls Tryd.prog 54 #[.int .i64 a, .pointer (some ⟨b, 0, none⟩)] w fun e w' => e = .returned (.bool false) ∧ w = w' := by
  have := below1_calls n a b w hc
  rwa [decide_eq_false h] at this
theorem number_yes (a : Int) (w : World) : Calls Tryd.prog 41 #[.int .i64 a] w fun e w' => e = .returned (.bool true) ∧ w = w' := by
  go_enter Tryd.func41, Tryd.ntmps41
  go_wp2_with fail
  go_ret
  exact ⟨rfl, rfl⟩
theorem width_yes (a : Int) (w : World) (h : a = 8 ∨ a = 16 ∨ a = 32) : Calls Tryd.prog 43 #[.int .i64 a] w fun e w' => e = .returned (.bool true) ∧ w = w' := by
  rcases h with rfl | rfl | rfl
  all_goals
    go_enter Tryd.func43, Tryd.ntmps43
    go_wp2_with fail
    go_ret
    exact ⟨rfl, rfl⟩
theorem width_no (a : Int) (w : World) (h : ¬ (a = 8 ∨ a = 16 ∨ a = 32)) : Calls Tryd.prog 43 #[.int .i64 a] w fun e w' => e = .returned (.bool false) ∧ w = w' := by
  have p0 : (a == 8) = false := by simp; omega
  have p1 : (a == 16) = false := by simp; omega
  have p2 : (a == 32) = false := by simp; omega
  clear h
  go_enter Tryd.func43, Tryd.ntmps43
  go_wp2_with fail
  go_ret
  exact ⟨rfl, rfl⟩
theorem room_yes (a : Int) (w : World) (h : 1 ≤ a ∧ a ≤ 64) : Calls Tryd.prog 44 #[.int .i64 a] w fun e w' => e = .returned (.bool true) ∧ w = w' := by
  have p0 : decide (1 ≤ a) = true := decide_eq_true h.1
  have p1 : decide (a ≤ 64) = true := decide_eq_true h.2
  clear h
  go_enter Tryd.func44, Tryd.ntmps44
  go_wp2_with fail
  go_ret
  exact ⟨rfl, rfl⟩
theorem room_no (a : Int) (w : World) (h : ¬ (1 ≤ a ∧ a ≤ 64)) : Calls Tryd.prog 44 #[.int .i64 a] w fun e w' => e = .returned (.bool false) ∧ w = w' := by
  by_cases h0 : 1 ≤ a
  · have p0 : decide (1 ≤ a) = true := decide_eq_true h0
    have p1 : decide (a ≤ 64) = false := decide_eq_false (fun h1 => h ⟨h0, h1⟩)
    clear h
    go_enter Tryd.func44, Tryd.ntmps44
    go_wp2_with fail
    go_ret
    exact ⟨rfl, rfl⟩
  · have p0 : decide (1 ≤ a) = false := decide_eq_false h0
    clear h
    go_enter Tryd.func44, Tryd.ntmps44
    go_wp2_with fail
    go_ret
    exact ⟨rfl, rfl⟩
theorem field68 (x y f : Value) (W : World) : (Instr.field 68 (.agg #[x, y, f]) 2).run Tryd.prog W = .ok f W := by kernel_rfl
end Go.Proofs.YtpallcggmaheoaaDoor
