/-
  What the code knows of operations: the rows.
-/
import Derived.Test.YtpallcggmaheoaaDoorMp
import Derived.Deep.DeepCutAuto
import Derived.Deep.WholeRow
namespace Go.Proofs.YtpallcggmaheoaaDoor
open Go.RowKit Go.MapKept
open Go.Proofs.YtpallcggmaheoaaDoorW.PrintWords Go.Proofs.YtpallcggmaheoaaDoorW.PrintMore

/-- the table of the operations: name, kind, takes, puts, many -/
def opTab : List (List UInt8 × Nat × Nat × Nat × Bool) := [([110, 111, 112], 0, 0, 0, false), ([110, 105, 108], 0, 0, 1, false), ([116, 114, 117, 101], 0, 0, 1, false), ([102, 97, 108, 115, 101], 0, 0, 1, false), ([105, 110, 116], 1, 0, 1, false), ([99, 111, 110, 115, 116], 4, 0, 1, false), ([102, 117, 110, 99], 5, 0, 1, false), ([112, 111, 112], 0, 1, 0, false), ([100, 117, 112], 0, 1, 2, false), ([115, 119, 97, 112], 0, 2, 2, false), ([108, 111, 97, 100], 3, 0, 1, false), ([115, 116, 111, 114, 101], 3, 1, 0, false), ([97, 100, 100], 0, 2, 1, false), ([115, 117, 98], 0, 2, 1, false), ([109, 117, 108], 0, 2, 1, false), ([100, 105, 118], 0, 2, 1, false), ([114, 101, 109], 0, 2, 1, false), ([110, 101, 103], 0, 1, 1, false), ([97, 110, 100], 0, 2, 1, false), ([111, 114], 0, 2, 1, false), ([120, 111, 114], 0, 2, 1, false), ([110, 111, 116], 0, 1, 1, false), ([115, 104, 108], 0, 2, 1, false), ([115, 104, 114], 0, 2, 1, false), ([101, 120, 116], 7, 1, 1, false), ([101, 113], 0, 2, 1, false), ([110, 101], 0, 2, 1, false), ([108, 116], 0, 2, 1, false), ([108, 101], 0, 2, 1, false), ([116, 101, 115, 116], 0, 1, 1, false), ([102, 108, 105, 112], 0, 1, 1, false), ([116, 111, 105, 110, 116], 0, 1, 1, false), ([116, 111, 114, 101, 97, 108], 0, 1, 1, false), ([115, 105, 110, 103, 108, 101], 0, 1, 1, false), ([116, 111, 116, 101, 120, 116], 0, 1, 1, false), ([107, 105, 110, 100], 0, 1, 1, false), ([102, 108, 111, 111, 114], 0, 1, 1, false), ([115, 113, 114, 116], 0, 1, 1, false), ([99, 97, 116], 0, 2, 1, false), ([99, 117, 116], 0, 3, 1, false), ([106, 117, 109, 112], 2, 0, 0, false), ([106, 122], 2, 1, 0, false), ([106, 110, 122], 2, 1, 0, false), ([99, 97, 108, 108], 6, 1, 1, true), ([114, 101, 116], 0, 1, 0, false), ([116, 104, 114, 111, 119], 0, 1, 0, false), ([98, 105, 110, 100], 6, 1, 1, true), ([97, 114, 114, 97, 121], 6, 0, 1, true), ([114, 101, 99, 111, 114, 100], 0, 0, 1, false), ([103, 101, 116], 0, 2, 1, false), ([115, 101, 116], 0, 3, 0, false), ([112, 117, 115, 104], 0, 2, 0, false), ([108, 101, 110], 0, 1, 1, false), ([103, 101, 116, 102], 4, 1, 1, false), ([115, 101, 116, 102], 4, 2, 0, false), ([104, 97, 115, 102], 4, 1, 1, false), ([100, 101, 108, 102], 4, 1, 0, false), ([107, 101, 121, 115], 0, 1, 1, false), ([112, 114, 105, 110, 116], 0, 1, 0, false), ([114, 101, 97, 100], 0, 0, 1, false), ([115, 112, 97, 119, 110], 6, 1, 0, true), ([121, 105, 101, 108, 100], 0, 0, 0, false), ([99, 104, 97, 110], 8, 0, 1, false), ([115, 101, 110, 100], 0, 2, 0, false), ([114, 101, 99, 118], 0, 1, 1, false), ([115, 104, 117, 116], 0, 1, 0, false), ([98, 105, 99], 0, 2, 1, false)]
def opRow (k : Nat) : List UInt8 × Nat × Nat × Nat × Bool := opTab.getD k ([], 0, 0, 0, false)
/-- a row's cells -/
def opCells (r : List UInt8 × Nat × Nat × Nat × Bool) : List Value := [.string ⟨r.1.toArray⟩, .int .u8 (r.2.1 : Int), .int .u8 (r.2.2.1 : Int), .int .u8 (r.2.2.2.1 : Int), .bool r.2.2.2.2]
def tabE : Array Value := ((opTab.take 38).flatMap opCells).toArray
def tabL : Array Value := ((opTab.drop 38).flatMap opCells).toArray
theorem wpList_built {P : Program} {ops : Array Oper} {rest : List Oper} {o : Oper} {a : Act} {w : World} {Q : Exit → Act → World → Prop} (hg : o.guard = none) (t : TypeId) (parts : Array (Nat × Operand)) (ho : o.op = .build t parts) (cells : Array Value)
    (hf : P.built t (parts.map fun (i, x) => (i, a.eval x)).toList = some cells) (h : wpList P ops Q rest (a.put o.dst (.agg cells)) w) : wpList P ops Q (o :: rest) a w :=
  wpList_build hg t parts ho (by rw [hf]; rfl) (by rw [hf]; exact h)

theorem flat_get {α : Type} (f : α → List Value) (m : Nat) (hf : ∀ x, (f x).length = m) (l : List α) (i j : Nat) (x : α) (hi : l[i]? = some x) (hj : j < m) : (l.flatMap f)[i * m + j]? = (f x)[j]? := by
  induction l generalizing i with
  | nil => simp at hi
  | cons a r ih =>
    rw [List.flatMap_cons]
    cases i with
    | zero =>
      simp at hi
      subst hi
      rw [Nat.zero_mul, Nat.zero_add, List.getElem?_append_left (by rw [hf]; exact hj)]
    | succ i =>
      rw [List.getElem?_append_right (by rw [hf, Nat.succ_mul]; omega), hf, show (i + 1) * m + j - m = i * m + j by rw [Nat.succ_mul]; omega]
      exact ih i (by simpa using hi)
theorem opRow_get (k : Nat) (h : k < 67) : opTab[k]? = some (opRow k) := by
  unfold opRow
  have hl : opTab.length = 67 := by decide +kernel
  rw [List.getD_eq_getElem?_getD, List.getElem?_eq_getElem (by omega)]
  rfl
theorem tabE_cell (n j : Nat) (hn : n < 38) (hj : j < 5) : tabE[n * 5 + j]? = (opCells (opRow n))[j]? := by
  unfold tabE
  rw [List.getElem?_toArray]
  exact flat_get opCells 5 (fun _ => rfl) _ n j _ (by rw [List.getElem?_take_of_lt hn]; exact opRow_get n (by omega)) hj
theorem tabL_cell (n j : Nat) (hn : n < 29) (hj : j < 5) : tabL[n * 5 + j]? = (opCells (opRow (38 + n)))[j]? := by
  unfold tabL
  rw [List.getElem?_toArray]
  exact flat_get opCells 5 (fun _ => rfl) _ n j _ (by rw [List.getElem?_drop]; exact opRow_get _ (by omega)) hj
set_option maxRecDepth 100000 in
set_option maxHeartbeats 4000000 in
theorem early_calls (n : Nat) (hn : n < 38) (w : World) : Calls Tryd.prog 32 #[.int .i64 (n : Int)] w fun e w' => e = .returned (.agg (opCells (opRow n)).toArray) ∧ Below w.heap.size w w' := by
  have t0 : tabE[n * 5]? = some (.string ⟨(opRow n).1.toArray⟩) := tabE_cell n 0 hn (by decide)
  have t1 : tabE[n * 5 + 1]? = some (.int .u8 ((opRow n).2.1 : Int)) := tabE_cell n 1 hn (by decide)
  have t2 : tabE[n * 5 + 2]? = some (.int .u8 ((opRow n).2.2.1 : Int)) := tabE_cell n 2 hn (by decide)
  have t3 : tabE[n * 5 + 3]? = some (.int .u8 ((opRow n).2.2.2.1 : Int)) := tabE_cell n 3 hn (by decide)
  have t4 : tabE[n * 5 + 4]? = some (.bool (opRow n).2.2.2.2) := tabE_cell n 4 hn (by decide)
  show Calls Tryd.prog 32 #[.int .i64 (n : Int)] w fun e w' => e = .returned (.agg #[.string ⟨(opRow n).1.toArray⟩, .int .u8 ((opRow n).2.1 : Int), .int .u8 ((opRow n).2.2.1 : Int), .int .u8 ((opRow n).2.2.2.1 : Int), .bool (opRow n).2.2.2.2]) ∧ Below w.heap.size w w'
  generalize opRow n = r at *
  obtain ⟨nm, kd, tk, pt, mn⟩ := r
  have T0 := Aside0.mk t0
  have T1 := Aside0.mk t1
  have T2 := Aside0.mk t2
  have T3 := Aside0.mk t3
  have T4 := Aside0.mk t4
  clear t0 t1 t2 t3 t4
  have HC := Aside0.mk (show ((w.alloc (.cells #[.string ⟨#[]⟩, .int .u8 0, .int .u8 0, .int .u8 0, .bool false] 59)).alloc (.cells Tryd.zeroCells78 78)).heap[w.heap.size + 1]? = some (.cells Tryd.zeroCells78 78) from heap_alloc2_new w _ _)
  go_enter Tryd.func32, Tryd.ntmps32
  go_upto_region 2 with (first | ((with_reducible refine wpList_built rfl 78 _ rfl tabE (by kernel_rfl) ?_)) | (with_reducible refine wpList_store_row rfl 78 _ _ rfl (w.heap.size + 1) tabE rfl rfl 78 Tryd.zeroCells78 HC.out (by kernel_rfl) (by kernel_rfl) (by kernel_rfl) ?_))
  have hz : (w.alloc (.cells #[.string ⟨#[]⟩, .int .u8 0, .int .u8 0, .int .u8 0, .bool false] 59)).heap.size = w.heap.size + 1 := by simp
  rw [← hz, World.setRow_alloc_new]
  clear hz
  have t0 := T0.out
  have t1 := T1.out
  have t2 := T2.out
  have t3 := T3.out
  have t4 := T4.out
  go_wp2_with fail
  exact bodyPost_ret (results_cell_row rfl _ _ w.heap.size 59 _ (0, 0) _ rfl (heap_alloc2_old w _ _) Tryd.underlying59 rfl (by kernel_rfl)) rfl ⟨rfl, ((Below.refl _ _).alloc (Nat.le_refl _) _).alloc (by simp) _⟩
set_option maxRecDepth 100000 in
set_option maxHeartbeats 4000000 in
theorem later_calls (n : Nat) (hn : n < 29) (w : World) : Calls Tryd.prog 33 #[.int .i64 ((38 + n : Nat) : Int)] w fun e w' => e = .returned (.agg (opCells (opRow (38 + n))).toArray) ∧ Below w.heap.size w w' := by
  have t0 : tabL[n * 5]? = some (.string ⟨(opRow (38 + n)).1.toArray⟩) := tabL_cell n 0 hn (by decide)
  have t1 : tabL[n * 5 + 1]? = some (.int .u8 ((opRow (38 + n)).2.1 : Int)) := tabL_cell n 1 hn (by decide)
  have t2 : tabL[n * 5 + 2]? = some (.int .u8 ((opRow (38 + n)).2.2.1 : Int)) := tabL_cell n 2 hn (by decide)
  have t3 : tabL[n * 5 + 3]? = some (.int .u8 ((opRow (38 + n)).2.2.2.1 : Int)) := tabL_cell n 3 hn (by decide)
  have t4 : tabL[n * 5 + 4]? = some (.bool (opRow (38 + n)).2.2.2.2) := tabL_cell n 4 hn (by decide)
  show Calls Tryd.prog 33 #[.int .i64 ((38 + n : Nat) : Int)] w fun e w' => e = .returned (.agg #[.string ⟨(opRow (38 + n)).1.toArray⟩, .int .u8 ((opRow (38 + n)).2.1 : Int), .int .u8 ((opRow (38 + n)).2.2.1 : Int), .int .u8 ((opRow (38 + n)).2.2.2.1 : Int), .bool (opRow (38 + n)).2.2.2.2]) ∧ Below w.heap.size w w'
  generalize opRow (38 + n) = r at *
  obtain ⟨nm, kd, tk, pt, mn⟩ := r
  have T0 := Aside0.mk t0
  have T1 := Aside0.mk t1
  have T2 := Aside0.mk t2
  have T3 := Aside0.mk t3
  have T4 := Aside0.mk t4
  clear t0 t1 t2 t3 t4
  have HC := Aside0.mk (show ((w.alloc (.cells #[.string ⟨#[]⟩, .int .u8 0, .int .u8 0, .int .u8 0, .bool false] 59)).alloc (.cells Tryd.zeroCells79 79)).heap[w.heap.size + 1]? = some (.cells Tryd.zeroCells79 79) from heap_alloc2_new w _ _)
  go_enter Tryd.func33, Tryd.ntmps33
  go_upto_region 2 with (first | ((with_reducible refine wpList_built rfl 79 _ rfl tabL (by kernel_rfl) ?_)) | (with_reducible refine wpList_store_row rfl 79 _ _ rfl (w.heap.size + 1) tabL rfl rfl 79 Tryd.zeroCells79 HC.out (by kernel_rfl) (by kernel_rfl) (by kernel_rfl) ?_))
  have hz : (w.alloc (.cells #[.string ⟨#[]⟩, .int .u8 0, .int .u8 0, .int .u8 0, .bool false] 59)).heap.size = w.heap.size + 1 := by simp
  rw [← hz, World.setRow_alloc_new]
  clear hz
  have t0 := T0.out
  have t1 := T1.out
  have t2 := T2.out
  have t3 := T3.out
  have t4 := T4.out
  go_wp2_with fail
  exact bodyPost_ret (results_cell_row rfl _ _ w.heap.size 59 _ (0, 0) _ rfl (heap_alloc2_old w _ _) Tryd.underlying59 rfl (by kernel_rfl)) rfl ⟨rfl, ((Below.refl _ _).alloc (Nat.le_refl _) _).alloc (by simp) _⟩
end Go.Proofs.YtpallcggmaheoaaDoor
