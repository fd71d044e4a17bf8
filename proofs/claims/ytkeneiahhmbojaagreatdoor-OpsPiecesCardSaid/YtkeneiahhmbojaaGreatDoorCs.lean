/-
  The order of texts, as the library's compare has it; plain.
-/
import Derived.Test.YtkeneiahhmbojaaGreatDoorCc
import Derived.Test.YtkeneiahhmbojaaGreatDoorIw
namespace Go.Proofs.YtkeneiahhmbojaaGreatDoor
open Go.RowKit Go.MapKept
open Go.Proofs.YtkeneiahhmbojaaGreatDoorW.PrintWords Go.Proofs.YtkeneiahhmbojaaGreatDoorW.PrintMore

def cl (x y : List UInt8) : Int :=
  match (List.range (min x.length y.length)).find? (fun i => x[i]! != y[i]!) with
  | some i => if x[i]! < y[i]! then -1 else 1
  | none => if x.length < y.length then -1 else if x.length > y.length then 1 else 0
theorem cl_cons (a b : UInt8) (x y : List UInt8) : cl (a :: x) (b :: y) = if a = b then cl x y else if a < b then -1 else 1 := by
  unfold cl
  rw [show min (a :: x).length (b :: y).length = min x.length y.length + 1 by simp, List.range_succ_eq_map, List.find?_cons, List.find?_map]
  have hf : ((fun i => (a :: x)[i]! != (b :: y)[i]!) ∘ Nat.succ) = fun i => x[i]! != y[i]! := by
    funext i
    simp
  rw [hf]
  by_cases h : a = b
  · subst h
    have h0 : ((a :: x)[0]! != (a :: y)[0]!) = false := by simp
    rw [h0, if_pos rfl]
    cases hq : (List.find? (fun i => x[i]! != y[i]!) (List.range (min x.length y.length))) with
    | none => simp
    | some i => simp
  · have h0 : ((a :: x)[0]! != (b :: y)[0]!) = true := by simp [h]
    rw [h0, if_neg h]
    simp
theorem cl_spec : ∀ x y : List UInt8, cl x y = if Op.bytesLess x y then -1 else if x == y then 0 else 1 := by
  intro x
  induction x with
  | nil =>
    intro y
    cases y with
    | nil => simp [cl, Op.bytesLess]
    | cons b y => simp [cl, Op.bytesLess]
  | cons a x ih =>
    intro y
    cases y with
    | nil => simp [cl, Op.bytesLess]
    | cons b y =>
      rw [cl_cons, ih]
      by_cases h : a = b
      · subst h
        simp [Op.bytesLess]
      · simp [h, Op.bytesLess]
theorem cmp_cl (s t : ByteArray) : Extern.BytealgCompare.cmp s t = cl s.toList t.toList := by
  unfold Extern.BytealgCompare.cmp cl
  have e : ∀ (u : ByteArray) (i : Nat), u[i]! = u.toList[i]! := by
    intro u i
    rw [ByteArray.toList_eq]
    by_cases h : i < u.size
    · rw [getElem!_pos u i h, getElem!_pos u.data.toList i (by simpa using h)]
      rfl
    · rw [getElem!_neg u i h, getElem!_neg u.data.toList i (by simpa using h)]
  have l : ∀ u : ByteArray, u.size = u.toList.length := by
    intro u
    rw [ByteArray.toList_eq]
    rfl
  simp only [e, l]
  cases (List.find? (fun i => s.toList[i]! != t.toList[i]!) (List.range (min s.toList.length t.toList.length))) <;> rfl
/-- below, alike -/
def tl (s t : ByteArray) : Bool := Op.bytesLess s.toList t.toList
def te (s t : ByteArray) : Bool := s.toList == t.toList
theorem cmp_is (s t : ByteArray) : Extern.BytealgCompare.cmp s t = if tl s t then -1 else if te s t then 0 else 1 := by rw [cmp_cl, cl_spec]; rfl
theorem cmp_ext (s t : ByteArray) (w : World) : (callFunc 159 #[.string s, .string t]).run Tryz.prog w = .ok (.value (.int .i64 (Extern.BytealgCompare.cmp s t))) w := by kernel_rfl
theorem compare_calls (s t : ByteArray) (c : Int) (hc : Extern.BytealgCompare.cmp s t = c) (w : World) : Calls Tryz.prog 81 #[.string s, .string t] w fun e w' => e = .returned (.int .i64 c) ∧ w = w' := by
  have h1 : ∀ w : World, Calls Tryz.prog 116 #[.string s, .string t] w fun e w' => e = .returned (.int .i64 c) ∧ w = w' := by
    intro w
    have hx := cmp_ext s t w
    rw [hc] at hx
    clear hc
    go_enter Tryz.func116, Tryz.ntmps116
    go_wp2_with fail
    go_ret
    exact ⟨rfl, rfl⟩
  have H1 := Aside0.mk h1
  clear h1 hc
  go_enter Tryz.func81, Tryz.ntmps81
  go_wp2_with fail
  refine (H1.out _).mono ?_
  rintro e w1 ⟨rfl, rfl⟩
  go_wp2_with fail
  go_ret
  exact ⟨rfl, rfl⟩
theorem quiet_same {P : Program} {f : FuncId} {args : Array Value} {w : World} {m n : Nat} {v : Value}
    (h : Calls P f args (w.drewN (m + n)) fun e w' => e = .returned v ∧ w' = w.drewN (m + n)) : Calls P f args (w.drewN (m + n)) fun e w'' => e = .returned v ∧ ∃ q, w'' = w.drewN (m + q) :=
  h.mono fun _ _ ⟨he, hm⟩ => ⟨he, n, hm⟩

set_option maxRecDepth 100000 in
theorem text_calls (w : World) (pw b base : Nat) (c0 c1 c2 : Value) (row : List ByteArray) (i : Nat) (t : ByteArray) (hp : w.heap[pw]? = some (.cells #[c0, c1, c2, .pointer (some ⟨b, 0, none⟩)] 38 (0, 0))) (hA : At w base b row) (hi : row[i]? = some t) :
    Calls Tryz.prog 79 #[.pointer (some ⟨pw, 0, none⟩), .agg #[.int .i64 4, .int .i64 (i : Int)]] w fun e w' => e = .returned (.tuple #[.string t, .bool true]) ∧ Below w.heap.size w w' := by
  obtain ⟨W, hW⟩ : ∃ W, W = w.alloc (.cells #[.int .i64 4, .int .i64 (i : Int)] 41) := ⟨_, rfl⟩
  have hlt : pw < w.heap.size := (Array.getElem?_eq_some_iff.1 hp).1
  have HB := Aside0.mk (show Below w.heap.size w W by rw [hW]; exact below_alloc1 w _)
  have HA := Aside0.mk (hA.below HB.out)
  have e0 : W.cell? ⟨w.heap.size, 0, none⟩ = some (.int .i64 4) := by rw [cell_of_row _ _ 0 _ _ _ (by rw [hW]; exact heap_alloc_last w _)]; rfl
  have e1 : W.cell? ⟨w.heap.size, 1, none⟩ = some (.int .i64 (i : Int)) := by rw [cell_of_row _ _ 1 _ _ _ (by rw [hW]; exact heap_alloc_last w _)]; rfl
  have e2 : W.cell? ⟨pw, 3, none⟩ = some (.pointer (some ⟨b, 0, none⟩)) := by rw [cell_of_row _ _ 3 _ _ _ ((HB.out.block _ hlt).trans hp)]; rfl
  have HI := Aside0.mk hi
  have HT : ∀ n, Calls Tryz.prog 28 #[.pointer (some ⟨b, 0, none⟩), .int .i64 (i : Int)] (W.drewN n) fun e w' => e = .returned (.tuple #[.string t, .bool true]) ∧ W.drewN n = w' := by
    intro n
    have := at_at (W.drewN n) base b row (i : Int) (HA.out.drewN n)
    rwa [aT_get hi, aB_get hi] at this
  have HTT := Aside0.mk HT
  clear hp hA hi hlt HT
  go_enter Tryz.func79, Tryz.ntmps79
  go_wp2_with fail
  rw [← hW]
  clear hW
  go_quiet ((go_at_call 28; exact Calls.quiet_of_same ((HTT.out _).mono fun _ _ ⟨h1, h2⟩ => ⟨h1, h2.symm⟩)))
  go_wp2_with fail
  go_ret2
  exact ⟨rfl, pw_below_drewN HB.out _⟩
end Go.Proofs.YtkeneiahhmbojaaGreatDoor
