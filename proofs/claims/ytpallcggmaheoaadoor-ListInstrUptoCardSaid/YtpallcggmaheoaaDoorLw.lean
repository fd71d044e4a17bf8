/-
  ListInstr: the law's walk.
-/
import Derived.Test.YtpallcggmaheoaaDoorKq
import Derived.Test.YtpallcggmaheoaaDoorLn
namespace Go.Proofs.YtpallcggmaheoaaDoor
open Go.RowKit Go.Proofs.YtpallcggmaheoaaDoorW.PrintWords Go.Proofs.YtpallcggmaheoaaDoorW.PrintMore
open PListInstr
set_option linter.unusedVariables false
set_option linter.unusedSimpArgs false

theorem nm_of_p {w : World} {A : Option Addr} {fs : List S42} (h : Kd.C k42 w A fs.length fs) : NmC w A (fs.map fun f => f.f0) := by
  intro j t hj
  rw [List.getElem?_map] at hj
  obtain ⟨f, hf, rfl⟩ := Option.map_eq_some_iff.1 hj
  have hl := (List.getElem?_eq_some_iff.1 hf).1
  obtain ⟨ad, _, _, _, _, e, c0, _⟩ := at42 h hl hf
  exact ⟨ad, e, c0⟩
theorem nm_of_q {w : World} {cs : List S44} {fs : List S42} {qc qf : Value} (h : Lq w cs fs qc qf) : ∃ (A0 A1 : Option Addr) (c0 c1 : Nat), qc = .slice A0 cs.length c0 ∧ qf = .slice A1 fs.length c1 ∧ NmC w A1 (fs.map fun f => f.f0) := by
  obtain ⟨Ac, Af, cc, cf, F, e1, e2, _, _, _, h2, h3, _⟩ := h
  refine ⟨Ac, Af, cc, cf, e1, e2, fun j t hj => ?_⟩
  rw [List.getElem?_map] at hj
  obtain ⟨f, hf, rfl⟩ := Option.map_eq_some_iff.1 hj
  obtain ⟨x, X, hx, _, ⟨n1, _⟩, _⟩ := h3 j f hf
  obtain ⟨ad, e, c0, _⟩ := atF h2 hx
  exact ⟨ad, e, by rw [n1] at c0; exact c0⟩
/-- what both answer -/
def ansOf (nms : List ByteArray) (n a : Int) : ByteArray × Bool := if 0 ≤ n ∧ n < 67 then lineOf nms n.toNat a else (⟨#[]⟩, false)
theorem ref_any (A0 A1 : Option Addr) (n0 c0 c1 : Nat) (nms : List ByteArray) (n a : Int) (w : World) (h0 : -9223372036854775808 ≤ a) (h1 : a ≤ 9223372036854775807) (hN : NmC w A1 nms) (hs : ∀ t, t ∈ nms → t.size ≤ 1048576) (hm : nms.length ≤ 1048576) :
    Calls Tryd.prog 4 #[.agg #[.slice A0 n0 c0, .slice A1 nms.length c1], .agg #[.int .i64 n, .int .i64 a]] w fun e w' => e = .returned (.tuple #[.string (ansOf nms n a).1, .bool (ansOf nms n a).2]) ∧ Below w.heap.size w w' := by
  unfold ansOf
  by_cases h : 0 ≤ n ∧ n < 67
  · rw [if_pos h]
    obtain ⟨m, rfl⟩ := Int.eq_ofNat_of_zero_le h.1
    exact refInstr_calls A0 A1 n0 c0 c1 nms m a w (by omega) h0 h1 hN hs hm
  · rw [if_neg h]
    exact refInstr_none _ _ ⟨_, _, _, rfl⟩ ⟨_, _, _, rfl⟩ n a w (by omega)
theorem list_any (A0 A1 : Option Addr) (n0 c0 c1 : Nat) (nms : List ByteArray) (n a : Int) (w : World) (htab : Lib.TabIs Tryd.prog w "internal/strconv.uint64pow10" .u64 Lib.pow10Tab) (h0 : -9223372036854775808 ≤ a) (h1 : a ≤ 9223372036854775807) (hN : NmC w A1 nms) (hs : ∀ t, t ∈ nms → t.size ≤ 1048576) (hm : nms.length ≤ 1048576) :
    Calls Tryd.prog 6 #[.agg #[.slice A0 n0 c0, .slice A1 nms.length c1], .agg #[.int .i64 n, .int .i64 a]] w fun e w' => e = .returned (.tuple #[.string (ansOf nms n a).1, .bool (ansOf nms n a).2]) ∧ Below w.heap.size w w' := by
  unfold ansOf
  by_cases h : 0 ≤ n ∧ n < 67
  · rw [if_pos h]
    obtain ⟨m, rfl⟩ := Int.eq_ofNat_of_zero_le h.1
    exact listInstr_calls A0 A1 n0 c0 c1 nms m a w htab (by omega) h0 h1 hN hs hm
  · rw [if_neg h]
    exact listInstr_none _ _ ⟨_, _, _, rfl⟩ ⟨_, _, _, rfl⟩ n a w (by omega)
set_option maxRecDepth 100000 in
set_option maxHeartbeats 4000000 in
theorem law_walk (B0 B1 : Option Addr) (d0 d1 : Nat) (cs : List S44) (fs : List S42) (n a : Int) (w : World) (htab : Lib.TabIs Tryd.prog w "internal/strconv.uint64pow10" .u64 Lib.pow10Tab) (hp0 : Kd.C k44 w B0 cs.length cs) (hp1 : Kd.C k42 w B1 fs.length fs) (hb0 : cs.length ≤ 1048576) (hb1 : fs.length ≤ 1048576) (hb2 : ∀ f, f ∈ fs → f.f3.length ≤ 1048576 ∧ f.f4.length ≤ 1048576 ∧ f.f0.size ≤ 1048576) (h0 : -9223372036854775808 ≤ a) (h1 : a ≤ 9223372036854775807) :
    Calls Tryd.prog 3 #[.agg #[.slice B0 cs.length d0, .slice B1 fs.length d1], .agg #[.int .i64 n, .int .i64 a]] w fun e w' => e = .returned (.bool true) ∧ Below w.heap.size w w' := by
  have hs : ∀ t, t ∈ (fs.map fun f => f.f0) → t.size ≤ 1048576 := fun t ht => by
    obtain ⟨f, hf, rfl⟩ := List.mem_map.1 ht
    exact (hb2 f hf).2.2
  have hm : (fs.map fun f => f.f0).length ≤ 1048576 := by rw [List.length_map]; exact hb1
  have hl : (fs.map fun f => f.f0).length = fs.length := List.length_map _
  obtain ⟨nms, hnms⟩ : ∃ nms, nms = fs.map fun f => f.f0 := ⟨_, rfl⟩
  have H4 := Aside0.mk (fun X (hX : Below w.heap.size w X) => (by have h := ref_any B0 B1 cs.length d0 d1 (fs.map fun f => f.f0) n a X h0 h1 (nm_of_p (Kd.C_below hp1 hX)) hs hm; rw [hl, ← hnms] at h; exact h.mono (R' := fun e w' => e = .returned (.tuple #[.string (ansOf nms n a).1, .bool (ansOf nms n a).2]) ∧ Below w.heap.size w w' ∧ Below X.heap.size X w') (fun e w' ⟨h1, h2⟩ => ⟨h1, hX.trans (h2.mono hX.size), h2⟩)))
  have H5 := Aside0.mk (fun X (hX : Below w.heap.size w X) => (lent_calls B0 B1 d0 d1 cs fs X (Kd.C_below hp0 hX) (Kd.C_below hp1 hX) hb0 hb1 (fun f hf => ⟨(hb2 f hf).1, (hb2 f hf).2.1⟩)).mono (R' := fun e w' => ∃ Ac Af cc cf, e = .returned (.agg #[.slice Ac cs.length cc, .slice Af fs.length cf]) ∧ Lq w' cs fs (.slice Ac cs.length cc) (.slice Af fs.length cf) ∧ Below w.heap.size w w' ∧ Below X.heap.size X w') (fun e w' ⟨qc, qf, h1, h2, h3⟩ => by
    obtain ⟨Ac, Af, cc, cf, rfl, rfl, _⟩ := nm_of_q h2
    exact ⟨Ac, Af, cc, cf, h1, h2, hX.trans (h3.mono hX.size), h3⟩))
  have H6 := Aside0.mk (fun X Ac Af cc cf (hX : Below w.heap.size w X) (hq : Lq X cs fs (.slice Ac cs.length cc) (.slice Af fs.length cf)) => (by
    obtain ⟨A0, A1, c0, c1, e1, e2, hn⟩ := nm_of_q hq
    cases e1
    cases e2
    have h := list_any Ac Af cs.length cc cf (fs.map fun f => f.f0) n a X (tab_below htab hX) h0 h1 hn hs hm
    rw [hl, ← hnms] at h
    exact h.mono (R' := fun e w' => e = .returned (.tuple #[.string (ansOf nms n a).1, .bool (ansOf nms n a).2]) ∧ Below w.heap.size w w' ∧ Lq w' cs fs (.slice Ac cs.length cc) (.slice Af fs.length cf) ∧ Below X.heap.size X w') (fun e w' ⟨h1, h2⟩ => ⟨h1, hX.trans (h2.mono hX.size), hq.below h2, h2⟩)))
  have H7 := Aside0.mk (fun X Ac Af cc cf (hX : Below w.heap.size w X) (hq : Lq X cs fs (.slice Ac cs.length cc) (.slice Af fs.length cf)) => (kept_calls (.slice Ac cs.length cc) (.slice Af fs.length cf) B0 B1 d0 d1 cs fs X hq (Kd.C_below hp0 hX) (Kd.C_below hp1 hX) hb0 hb1 (fun f hf => ⟨(hb2 f hf).1, (hb2 f hf).2.1⟩)).mono (R' := fun e w' => e = .returned (.bool true) ∧ Below w.heap.size w w') (fun e w' ⟨h1, h2⟩ => ⟨h1, hX.trans (h2.mono hX.size)⟩))
  clear hs hm hl hnms hp0 hp1 hb0 hb1 hb2 h0 h1 htab
  generalize ansOf nms n a = r at *
  obtain ⟨rs, rb⟩ := r
  have P0 := Aside0.mk (PF.start w (.slice B0 cs.length d0) (.slice B1 fs.length d1) n a)
  go_enter Tryd.func3, Tryd.ntmps3
  go_wp2_with fail
  (with_reducible refine (H4.out _ ?hb).mono ?_)
  (case hb => exact P0.out.bl)
  rintro e w1 ⟨rfl, hb1, hy1⟩
  have P1 := Aside0.mk (P0.out.next hy1)
  have f0 := P1.out.c0
  have f1 := P1.out.c1
  have f2 := P1.out.i0
  have f3 := P1.out.i1
  clear hb1 hy1
  go_wp2_with fail
  (with_reducible refine (H5.out _ ?hb).mono ?_)
  (case hb => exact P1.out.bl)
  rintro e w2 ⟨Ac, Af, cc, cf, rfl, hq, hb2, hy2⟩
  have P2 := Aside0.mk (And.intro ((P1.out.next hy2).next (below_alloc1 w2 (.cells #[.slice Ac cs.length cc, .slice Af fs.length cf] 25))) (And.intro (hq.below (below_alloc1 w2 (.cells #[.slice Ac cs.length cc, .slice Af fs.length cf] 25))) (heap_alloc_last w2 (.cells #[.slice Ac cs.length cc, .slice Af fs.length cf] 25))))
  have e0 := (P1.out.next hy2).c0
  have e1 := (P1.out.next hy2).c1
  have e2 := (P1.out.next hy2).i0
  have e3 := (P1.out.next hy2).i1
  have j0 := fun o => (World.cell?_alloc_lt w2 o _ (World.block_lt_of_cell? _ _ e0)).trans e0
  have j1 := fun o => (World.cell?_alloc_lt w2 o _ (World.block_lt_of_cell? _ _ e1)).trans e1
  have j2 := fun o => (World.cell?_alloc_lt w2 o _ (World.block_lt_of_cell? _ _ e2)).trans e2
  have j3 := fun o => (World.cell?_alloc_lt w2 o _ (World.block_lt_of_cell? _ _ e3)).trans e3
  clear hb2 hy2 hq
  go_wp2_with fail
  (with_reducible refine (H6.out _ Ac Af cc cf ?hb ?hq).mono ?_)
  (case hb => exact P2.out.1.bl)
  (case hq => exact P2.out.2.1)
  rintro e w3 ⟨rfl, hb3, hq3, hy3⟩
  have P3 := Aside0.mk (And.intro (P2.out.1.next hy3) hq3)
  have hbx := (hy3.block w2.heap.size (by simp)).trans P2.out.2.2
  have k2 : w3.cell? ⟨w2.heap.size, 0, none⟩ = some (.slice Ac cs.length cc) := by rw [cell_of_row _ _ 0 _ _ _ hbx]; rfl
  have k3 : w3.cell? ⟨w2.heap.size, 1, none⟩ = some (.slice Af fs.length cf) := by rw [cell_of_row _ _ 1 _ _ _ hbx]; rfl
  clear hb3 hy3 hq3 hbx
  have k0 := P3.out.1.c0
  have k1 := P3.out.1.c1
  go_wp2_with fail
  (with_reducible refine (H7.out _ Ac Af cc cf ?hb ?hq).mono ?_)
  (case hb => exact P3.out.1.bl)
  (case hq => exact P3.out.2)
  rintro e w4 ⟨rfl, hb4⟩
  have HB := Aside0.mk hb4
  clear hb4
  go_wp2_with fail
  go_ret
  exact ⟨rfl, HB.out⟩
end Go.Proofs.YtpallcggmaheoaaDoor
