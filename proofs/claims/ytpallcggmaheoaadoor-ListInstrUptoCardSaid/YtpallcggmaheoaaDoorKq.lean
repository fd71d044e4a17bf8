/-
  KeptProgram: a program that was lent is as it was.
-/
import Derived.Test.YtpallcggmaheoaaDoorLe
namespace Go.Proofs.YtpallcggmaheoaaDoor
open Go.RowKit Go.Proofs.YtpallcggmaheoaaDoorW.PrintWords Go.Proofs.YtpallcggmaheoaaDoorW.PrintLast Go.Proofs.YtpallcggmaheoaaDoorW.PrintMore
open PListInstr
set_option linter.unusedVariables false
set_option linter.unusedSimpArgs false

theorem eqA44 (d : Nat) (w : World) (x0 y0 : Int) (x1 y1 : Int) (x2 y2 : ByteArray) :
    (Op.equalIn (d + 2) 44 (.agg #[.int .i64 x0, .int .i64 x1, .string x2]) (.agg #[.int .i64 y0, .int .i64 y1, .string y2])).run Tryd.prog w = .ok (x0 == y0 && (x1 == y1 && (x2.toList == y2.toList))) w := by
  refine eqA_of Tryd.underlying44 (by kernel_rfl) ?_
  refine eqf_cons (by rfl) (by go_simp; rfl) (by go_simp; rfl) (by go_simp) ?_
  refine eqf_cons (by rfl) (by go_simp; rfl) (by go_simp; rfl) (by go_simp) ?_
  exact eqf_last (by rfl) (by go_simp; rfl) (by go_simp; rfl) (by go_simp)
attribute [local go_sem high] eqA44
/-- the two programs in blocks of the call's own -/
structure PK (w : World) (qc qf p0 p1 : Value) (W : World) : Prop where
  bl : Below w.heap.size w W
  q : W.heap[w.heap.size]? = some (.cells #[qc, qf] 25 (0, 0))
  p : W.heap[w.heap.size + 1]? = some (.cells #[p0, p1] 25 (0, 0))
theorem PK.start (w : World) (qc qf p0 p1 : Value) : PK w qc qf p0 p1 ((w.alloc (.cells #[qc, qf] 25)).alloc (.cells #[p0, p1] 25)) :=
  ⟨((Below.refl _ _).alloc (Nat.le_refl _) _).alloc (by simp) _, heap_alloc2_old w _ _, heap_alloc2_new w _ _⟩
section
variable {w W X : World} {qc qf p0 p1 : Value}
theorem PK.next (h : PK w qc qf p0 p1 W) (hb : Below W.heap.size W X) : PK w qc qf p0 p1 X :=
  ⟨h.bl.trans (hb.mono h.bl.size), (hb.block _ (Array.getElem?_eq_some_iff.1 h.q).1).trans h.q, (hb.block _ (Array.getElem?_eq_some_iff.1 h.p).1).trans h.p⟩
theorem PK.cq0 (h : PK w qc qf p0 p1 W) : W.cell? ⟨w.heap.size, 0, none⟩ = some qc := by rw [cell_of_row _ _ 0 _ _ _ h.q]; rfl
theorem PK.cq1 (h : PK w qc qf p0 p1 W) : W.cell? ⟨w.heap.size, 1, none⟩ = some qf := by rw [cell_of_row _ _ 1 _ _ _ h.q]; rfl
theorem PK.cp0 (h : PK w qc qf p0 p1 W) : W.cell? ⟨w.heap.size + 1, 0, none⟩ = some p0 := by rw [cell_of_row _ _ 0 _ _ _ h.p]; rfl
theorem PK.cp1 (h : PK w qc qf p0 p1 W) : W.cell? ⟨w.heap.size + 1, 1, none⟩ = some p1 := by rw [cell_of_row _ _ 1 _ _ _ h.p]; rfl
end
theorem mks44_get (k j : Nat) (h : j < k) : (mks44 k)[j]? = some (mk44 j) := by simp [mks44, h]
theorem kq1 (n : Nat) (hn : n ≤ 1048576) : wrap64 ((n : Int) + 64) = (n : Int) + 64 := by
  unfold wrap64
  omega
theorem kq2 (n : Nat) (hn : n ≤ 1048576) : wrap64 (2 * (n : Int)) = 2 * (n : Int) := by
  unfold wrap64
  omega
theorem kq3 (n : Nat) (hn : n ≤ 1048576) : wrap64 (2 * (n : Int) + 64) = 2 * (n : Int) + 64 := by
  unfold wrap64
  omega
theorem kq4 (n i : Nat) (hn : n ≤ 1048576) (hi : i < n + 64) : wrap64 ((i : Int) - (n : Int)) = (i : Int) - (n : Int) := by
  unfold wrap64
  omega
theorem kq5 (n i : Nat) (hn : n ≤ 1048576) (hi : i < n + 64) : wrap64 ((i : Int) + 1) = ((i + 1 : Nat) : Int) := by
  unfold wrap64
  omega
theorem wr_i64 (n i : Nat) (hn : n ≤ 1048576) (hi : i < n) : IntKind.i64.wrap ((n : Int) + (i : Int)) = (n : Int) + (i : Int) := by
  rw [IntKind.wrap_i64]
  omega
theorem wr_add2 (n i : Nat) (hn : n ≤ 1048576) (hi : i < n + 64) : wrap64 ((n : Int) + (i : Int)) = (n : Int) + (i : Int) := by
  unfold wrap64
  omega
theorem gl7 (n i : Nat) (h : i < n) : ¬ (n : Int) ≤ (i : Int) := by omega
theorem gl8 (n i : Nat) (h : ¬ i < n) : (n : Int) ≤ (i : Int) := by omega
theorem gl9 (n i : Nat) (h : i < n) : (n : Int) + (i : Int) < 2 * (n : Int) + 64 := by omega
theorem gl10 (n i : Nat) (h : i < n) : (i : Int) < (n : Int) + 64 := by omega
theorem msr4 (n i : Nat) (h : i < n) : n - (intOf (Value.int .i64 ((i : Int) + 1))).toNat < n - (intOf (Value.int .i64 (i : Int))).toNat := by
  simp [intOf]
  omega
theorem msr2 (n i : Nat) (h : i < n) : n - (intOf (Value.int .i64 ((i + 1 : Nat) : Int))).toNat < n - (intOf (Value.int .i64 (i : Int))).toNat := by
  simp [intOf]
  omega
/-- two functions in blocks of the call's own -/
structure BX (w : World) (a b : Array Value) (X : World) : Prop where
  bl : Below w.heap.size w X
  f : X.heap[w.heap.size]? = some (.cells a 42 (0, 0))
  g : X.heap[w.heap.size + 1]? = some (.cells b 42 (0, 0))
theorem BX.start (w : World) (a b : Array Value) : BX w a b ((w.alloc (.cells a 42)).alloc (.cells b 42)) :=
  ⟨((Below.refl _ _).alloc (Nat.le_refl _) _).alloc (by simp) _, heap_alloc2_old w _ _, heap_alloc2_new w _ _⟩
theorem BX.next {w X Y : World} {a b : Array Value} (h : BX w a b X) (hb : Below X.heap.size X Y) : BX w a b Y :=
  ⟨h.bl.trans (hb.mono h.bl.size), (hb.block _ (Array.getElem?_eq_some_iff.1 h.f).1).trans h.f, (hb.block _ (Array.getElem?_eq_some_iff.1 h.g).1).trans h.g⟩
theorem BX.cf {w X : World} {a b : Array Value} (h : BX w a b X) (k : Nat) {u : Value} (hk : a[k]? = some u) : X.cell? ⟨w.heap.size, k, none⟩ = some u := (cell_of_row _ _ k _ _ _ h.f).trans hk
theorem BX.cg {w X : World} {a b : Array Value} (h : BX w a b X) (k : Nat) {u : Value} (hk : b[k]? = some u) : X.cell? ⟨w.heap.size + 1, k, none⟩ = some u := (cell_of_row _ _ k _ _ _ h.g).trans hk
def T21 : Bool × List (List Nat × List Nat) := (true, [([], []), ([], []), ([], []), ([1, 2], [1, 2]), ([0, 3], [0, 3]), ([4], [4]), ([5], [5]), ([], []), ([7], [7]), ([6, 8], [6, 8]), ([9], [9]), ([10, 9], [10]), ([11], [11]), ([11], [11]), ([11], [11]), ([13, 14, 11], [11, 13, 14]), ([12, 15, 11], [11, 12, 15]), ([16, 11], [11, 16]), ([17, 11], [11, 17]), ([11], [11]), ([19, 11], [11, 19]), ([18, 20, 11, 11], [11, 18, 20]), ([21, 11], [11, 21]), ([11, 22], [11, 22])])
def B21 : List Nat := [0, 0, 0, 6, 15, 31, 63, 0, 128, 511, 1023, 2047, 4095, 4095, 4095, 28671, 65535, 131071, 262143, 4095, 528383, 2097151, 4194303, 8388607]
theorem tab21 : rtab .any (opsOf Tryd.f7 21) = T21 := by kernel_rfl
theorem bits21 : waitsOk T21.2 B21 = true := by kernel_rfl
theorem C_pre27 {w : World} {A : Option Addr} {l m : List S27} {n : Nat} (h : Kd.C k27 w A n (l ++ m)) : Kd.C k27 w A l.length l := by
  have hn := h.1
  rw [List.length_append] at hn
  refine ⟨rfl, by have := h.2.1; omega, fun hp => ?_⟩
  obtain ⟨ad, e, hc⟩ := h.2.2 (by omega)
  exact ⟨ad, e, fun j p hj => hc j p (by rw [List.getElem?_append_left (List.getElem?_eq_some_iff.1 hj).1]; exact hj)⟩
theorem C_pre55 {w : World} {A : Option Addr} {l m : List S55} {n : Nat} (h : Kd.C k55 w A n (l ++ m)) : Kd.C k55 w A l.length l := by
  have hn := h.1
  rw [List.length_append] at hn
  refine ⟨rfl, by have := h.2.1; omega, fun hp => ?_⟩
  obtain ⟨ad, e, hc⟩ := h.2.2 (by omega)
  exact ⟨ad, e, fun j p hj => hc j p (by rw [List.getElem?_append_left (List.getElem?_eq_some_iff.1 hj).1]; exact hj)⟩
set_option maxRecDepth 100000 in
set_option maxHeartbeats 4000000 in
theorem kept_calls (qc qf : Value) (B0 B1 : Option Addr) (d0 d1 : Nat) (cs : List S44) (fs : List S42) (w : World) (hq : Lq w cs fs qc qf) (h0 : Kd.C k44 w B0 cs.length cs) (h1 : Kd.C k42 w B1 fs.length fs) (hb0 : cs.length ≤ 1048576) (hb1 : fs.length ≤ 1048576) (hb2 : ∀ f, f ∈ fs → f.f3.length ≤ 1048576 ∧ f.f4.length ≤ 1048576) :
    Calls Tryd.prog 7 #[.agg #[qc, qf], .agg #[.slice B0 cs.length d0, .slice B1 fs.length d1]] w fun e w' => e = .returned (.bool true) ∧ Below w.heap.size w w' := by
  obtain ⟨Ac, Af, cc, cf, F, rfl, rfl, l1, l2, g1, g2, g3, g4⟩ := hq
  have HC := Aside0.mk (And.intro h0 (And.intro h1 hb2))
  have HQ := Aside0.mk (And.intro g1 (And.intro g2 (And.intro g3 g4)))
  have P0 := Aside0.mk (PK.start w (.slice Ac cs.length cc) (.slice Af fs.length cf) (.slice B0 cs.length d0) (.slice B1 fs.length d1))
  have v1 := kq1 cs.length hb0
  have v2 := kq2 fs.length hb1
  have v3 := kq3 fs.length hb1
  have v4 := kq1 fs.length hb1
  have v5 : (cs.length : Int) + 64 ≤ (cc : Int) := by omega
  have v6 : 2 * (fs.length : Int) + 64 ≤ (cf : Int) := by omega
  clear h0 h1 hb2 g1 g2 g3 g4
  have HV := Aside0.mk v4
  go_enter Tryd.func7, Tryd.ntmps7
  go_wp2_with fail
  clear v1 v2 v3 v4 v5 v6
  go_loopw [8] (fun v W => ∃ i : Nat, v = .int .i64 (i : Int) ∧ i ≤ cs.length + 64 ∧ Aside0 (PK w (.slice Ac cs.length cc) (.slice Af fs.length cf) (.slice B0 cs.length d0) (.slice B1 fs.length d1) W)) (fun v _ => cs.length + 64 - (intOf v).toNat)
  case atStart => exact ⟨0, rfl, Nat.zero_le _, P0⟩
  case round =>
    obtain ⟨i, rfl, hi, HP⟩ := hrel
    have e0 := HP.out.cp0
    by_cases hlt : i < cs.length + 64
    · have hl2 : (i : Int) < (cs.length : Int) + 64 := by omega
      obtain ⟨y, hy⟩ : ∃ y, (cs ++ mks44 64)[i]? = some y := ⟨_, List.getElem?_eq_getElem (by rw [List.length_append, mks44_len]; exact hlt)⟩
      obtain ⟨ad, rfl, a0, a1, a2⟩ := at44 (Kd.C_below HQ.out.1 HP.out.bl) hlt hy
      have hl0 := World.block_lt_of_cell? _ _ a0
      by_cases hil : i < cs.length
      · obtain ⟨ad1, rfl, b0, b1, b2⟩ := at44 (Kd.C_below HC.out.1 HP.out.bl) hil ((full_left hil).symm.trans hy)
        have hl1 := World.block_lt_of_cell? _ _ b0
        have hl3 : (i : Int) < (cs.length : Int) := by omega
        have HP2 := Aside0.mk (HP.out.next (below_alloc1 wr (.cells #[.int .i64 y.f0, .int .i64 y.f1, .string y.f2] 44)))
        have hx1 : ∀ o, (wr.alloc o).cell? ⟨w.heap.size + 1, 0, none⟩ = some (.slice (some ad1) cs.length d0) := fun o => (World.cell?_alloc_lt _ _ _ (World.block_lt_of_cell? _ _ e0)).trans e0
        have v7 := kq4 cs.length i hb0 hlt
        have v8 := kq5 cs.length i hb0 hlt
        go_wp2_with fail
        go_region
        all_goals
          go_wp2_with fail
          exact ⟨⟨i + 1, iv i, hlt, ⟨by first | exact HP2.out | exact HP2.out.next (below_drew (Below.refl _ _))⟩⟩, msr4 _ _ hlt⟩
      · have hl3 : ¬ (i : Int) < (cs.length : Int) := by omega
        have hy2 : y = ⟨-7, (i : Int) - (cs.length : Int), ⟨#[]⟩⟩ := by
          rw [List.getElem?_append_right (by omega), mks44_get 64 _ (by omega)] at hy
          rw [← Option.some.inj hy]
          unfold mk44
          congr 1
          omega
        subst hy2
        have hx1 : ∀ o, (wr.alloc o).cell? ⟨w.heap.size + 1, 0, none⟩ = some (.slice B0 cs.length d0) := fun o => (World.cell?_alloc_lt _ _ _ (World.block_lt_of_cell? _ _ e0)).trans e0
        have HP2 := Aside0.mk (HP.out.next (below_alloc1 wr (.cells #[.int .i64 (-7), .int .i64 ((i : Int) - (cs.length : Int)), .string ⟨#[]⟩] 44)))
        have v7 := kq4 cs.length i hb0 hlt
        have v8 := kq5 cs.length i hb0 hlt
        go_wp2_with fail
        go_region
        all_goals
          go_wp2_with fail
          exact ⟨⟨i + 1, iv i, hlt, ⟨by first | exact HP2.out | exact HP2.out.next (below_drew (Below.refl _ _))⟩⟩, msr4 _ _ hlt⟩
    · obtain rfl : i = cs.length + 64 := by omega
      have hc64 : ((cs.length + 64 : Nat) : Int) = (cs.length : Int) + 64 := by omega
      rw [hc64]
      clear hc64
      obtain ⟨V, hV⟩ : ∃ V, V = wr := ⟨_, rfl⟩
      subst hV
      go_wp2_with fail
      go_loopw [10] (fun v W => ∃ i : Nat, v = .int .i64 (i : Int) ∧ i ≤ fs.length ∧ Aside0 (PK w (.slice Ac cs.length cc) (.slice Af fs.length cf) (.slice B0 cs.length d0) (.slice B1 fs.length d1) W)) (fun v _ => fs.length - (intOf v).toNat)
      case atStart => exact ⟨0, rfl, Nat.zero_le _, HP⟩
      case round =>
        obtain ⟨i, rfl, hi, HR⟩ := hrel
        by_cases hlt : i < fs.length
        · obtain ⟨f, hf⟩ : ∃ f, fs[i]? = some f := ⟨_, List.getElem?_eq_getElem hlt⟩
          obtain ⟨x, X, hx, hX, ⟨n1, n2, n3⟩, hhc, hhh, ⟨m1, m2, m3⟩, ⟨o1, o2⟩, ⟨o3, o4⟩, o5, o6⟩ := HQ.out.2.2.1 i f hf
          obtain ⟨ad, A3, c3, A4, c4, rfl, a0, a1, a2, a3, a4, l3, g3, l4, g4⟩ := at42 (Kd.C_below HC.out.2.1 HR.out.bl) hlt hf
          obtain ⟨bd, rfl, b0, b1, b2, b3, b4⟩ := atF (Kd.C_below HQ.out.2.1 HR.out.bl) hx
          obtain ⟨bd2, e2, t0, t1, t2, t3, t4⟩ := atF (Kd.C_below HQ.out.2.1 HR.out.bl) hX
          cases e2
          have hb4 := HC.out.2.2 f (List.mem_of_getElem? hf)
          obtain ⟨Xn, Xp, Xl, ⟨Gc, lc, kc⟩, ⟨Gh, lh, kh⟩⟩ := X
          have o1' : lc = f.f3.length + 64 := o1
          have o2' : lh = f.f4.length + 64 := o2
          subst o1' o2'
          rw [n1] at b0
          rw [n2] at b1
          rw [n3] at b2
          rw [hhc] at b3
          rw [hhh] at b4
          have b3 : wr.cell? ⟨(bd.add (i * 5)).block, (bd.add (i * 5)).off + 3, none⟩ = some (.slice Gc f.f3.length kc) := b3
          have b4 : wr.cell? ⟨(bd.add (i * 5)).block, (bd.add (i * 5)).off + 4, none⟩ = some (.slice Gh f.f4.length kh) := b4
          have o4 : Kd.C k27 w Gc (f.f3.length + 64) (f.f3 ++ mk27) := o4
          have o6 : Kd.C k55 w Gh (f.f4.length + 64) (f.f4 ++ mk55) := o6
          have o3 : f.f3.length + 64 ≤ kc := o3
          have o5 : f.f4.length + 64 ≤ kh := o5
          have H20 := Aside0.mk (fun Y (hY : Below wr.heap.size wr Y) => (portagekit_sameInstrs.calls (f.f3.length + 1) Gc kc f.f3 A3 c3 f.f3 true Y (C_pre27 (Kd.C_below (Kd.C_below o4 HR.out.bl) hY)) (by omega) (Kd.C_below g3 hY) l3 (isame_f f.f3 hb4.1)).mono (R' := fun e w' => e = .returned (.bool true) ∧ Below wr.heap.size wr w' ∧ Below Y.heap.size Y w') (fun e w' ⟨h1, h2⟩ => ⟨h1, hY.trans (h2.below.mono hY.size), h2.below⟩))
          have H21 := Aside0.mk (fun Y (hY : Below wr.heap.size wr Y) => (portagekit_sameHandlers.calls (f.f4.length + 1) Gh kh f.f4 A4 c4 f.f4 true Y (C_pre55 (Kd.C_below (Kd.C_below o6 HR.out.bl) hY)) (by omega) (Kd.C_below g4 hY) l4 (hsame_f f.f4 hb4.2)).mono (R' := fun e w' => e = .returned (.bool true) ∧ Below wr.heap.size wr w' ∧ Below Y.heap.size Y w') (fun e w' ⟨h1, h2⟩ => ⟨h1, hY.trans (h2.below.mono hY.size), h2.below⟩))
          have H22 := Aside0.mk (fun Y (hY : Below wr.heap.size wr Y) => (keptInstrs_calls Gc A3 kc c3 f.f3 Y (Kd.C_below (Kd.C_below o4 HR.out.bl) hY) (Kd.C_below g3 hY)).mono (R' := fun e w' => e = .returned (.bool true) ∧ Below wr.heap.size wr w' ∧ Below Y.heap.size Y w') (fun e w' ⟨h1, h2⟩ => ⟨h1, hY.trans (h2.mono hY.size), h2⟩))
          have H23 := Aside0.mk (fun Y (hY : Below wr.heap.size wr Y) => (keptHandlers_calls Gh A4 kh c4 f.f4 Y (Kd.C_below (Kd.C_below o6 HR.out.bl) hY) (Kd.C_below g4 hY)).mono (R' := fun e w' => e = .returned (.bool true) ∧ Below wr.heap.size wr w' ∧ Below Y.heap.size Y w') (fun e w' ⟨h1, h2⟩ => ⟨h1, hY.trans (h2.mono hY.size), h2⟩))
          have hl2 : (i : Int) < (fs.length : Int) := by omega
          have hl3 : (i : Int) < 2 * (fs.length : Int) + 64 := by omega
          have e0 := HR.out.cp1
          have hlb := World.block_lt_of_cell? _ _ b0
          have hla := World.block_lt_of_cell? _ _ a0
          have HZ := Aside0.mk (And.intro hf (And.intro hx hX))
          clear hf hx hX n1 n2 n3 hhc hhh m1 m2 m3 o1 o2 o3 o4 o5 o6 l3 g3 l4 g4 hb4 t0 t1 t2
          have HT := Aside0.mk (fun Y (hY : Below wr.heap.size wr Y) => And.intro ((hY.cell (World.block_lt_of_cell? _ _ t3)).trans t3) ((hY.cell (World.block_lt_of_cell? _ _ t4)).trans t4))
          have hl5 := gl5 fs.length i
          have hl6 := gl9 fs.length i hlt
          have hl7 := ix_add fs.length i
          have hl8 := gl10 fs.length i hlt
          clear t3 t4
          go_wp2_with fail
          (with_reducible refine (H20.out _ ?hb).mono ?_)
          (case hb => exact (BX.start wr #[.string f.f0, .int .i64 f.f1, .int .i64 f.f2, .slice A3 f.f3.length c3, .slice A4 f.f4.length c4] #[.string f.f0, .int .i64 f.f1, .int .i64 f.f2, .slice Gc f.f3.length kc, .slice Gh f.f4.length kh]).bl)
          rintro e w3 ⟨rfl, hb3, hy3⟩
          have HB3 := Aside0.mk (And.intro ((BX.start wr #[.string f.f0, .int .i64 f.f1, .int .i64 f.f2, .slice A3 f.f3.length c3, .slice A4 f.f4.length c4] #[.string f.f0, .int .i64 f.f1, .int .i64 f.f2, .slice Gc f.f3.length kc, .slice Gh f.f4.length kh]).next hy3) hb3)
          have u1 : w3.cell? ⟨wr.heap.size, 4, none⟩ = some (.slice A4 f.f4.length c4) := HB3.out.1.cf 4 rfl
          have u2 : w3.cell? ⟨wr.heap.size + 1, 4, none⟩ = some (.slice Gh f.f4.length kh) := HB3.out.1.cg 4 rfl
          clear hb3 hy3
          go_wp2_with fail
          (with_reducible refine (H21.out _ ?hb).mono ?_)
          (case hb => exact HB3.out.2)
          rintro e w4 ⟨rfl, hb4, hy4⟩
          have HB4 := Aside0.mk (And.intro (HB3.out.1.next hy4) hb4)
          have u3 : w4.cell? ⟨wr.heap.size, 3, none⟩ = some (.slice A3 f.f3.length c3) := HB4.out.1.cf 3 rfl
          have u4 : w4.cell? ⟨wr.heap.size, 4, none⟩ = some (.slice A4 f.f4.length c4) := HB4.out.1.cf 4 rfl
          obtain ⟨u5, u6⟩ := HT.out w4 hb4
          clear hb4 hy4
          have v7 := wr_add fs.length i hb1 hlt
          have v8 := wr_i64 fs.length i hb1 hlt
          go_wp2_with fail
          refine start_ (n := 24) (S := fun w' => w'.cell? ⟨wr.heap.size, 3, none⟩ = some (.slice A3 f.f3.length c3) ∧ w'.cell? ⟨wr.heap.size, 4, none⟩ = some (.slice A4 f.f4.length c4) ∧ w'.cell? ⟨(bd.add ((fs.length + i) * 5)).block, (bd.add ((fs.length + i) * 5)).off + 3, none⟩ = some (.slice Gc (f.f3.length + 64) kc) ∧ w'.cell? ⟨(bd.add ((fs.length + i) * 5)).block, (bd.add ((fs.length + i) * 5)).off + 4, none⟩ = some (.slice Gh (f.f4.length + 64) kh)) (ds := []) #[false, false, false, false, false, false, false, false, false, false, false, false, false, false, false, false, false, false, false, false, false, false, false, false] (by kernel_rfl) rfl rfl ⟨u3, u4, u5, u6⟩ (fun hHeld => ?_); refine with_tabW tab21 bits21 (fun HT_ HW_ => ?_)
          refine pure_ (i := 0) (N := some 122) (v := ?_) (a' := ?_) #[true, false, false, false, false, false, false, false, false, false, false, false, false, false, false, false, false, false, false, false, false, false, false, false] rfl rfl (any_of HT_.out (by kernel_rfl)) (fun _ _ _ h => h) (Or.inl ⟨by rfl, ?_⟩) ?_ ?_
          rotate_left
          · intro w'
            go_simp
            with_reducible rfl
          rotate_left
          · simp only [Act.put, List.setIfInBounds_toArray, List.set_cons_zero, List.set_cons_succ, i64_w, i32_w]
            rfl
          refine pure_ (i := 1) (N := some 123) (v := ?_) (a' := ?_) #[true, true, false, false, false, false, false, false, false, false, false, false, false, false, false, false, false, false, false, false, false, false, false, false] rfl rfl (any_of HT_.out (by kernel_rfl)) (fun _ _ _ h => h) (Or.inl ⟨by rfl, ?_⟩) ?_ ?_
          rotate_left
          · intro w'
            go_simp
            with_reducible rfl
          rotate_left
          · simp only [Act.put, List.setIfInBounds_toArray, List.set_cons_zero, List.set_cons_succ, i64_w, i32_w]
            rfl
          refine pure_ (i := 2) (N := some 124) (v := ?_) (a' := ?_) #[true, true, true, false, false, false, false, false, false, false, false, false, false, false, false, false, false, false, false, false, false, false, false, false] rfl rfl (any_of HT_.out (by kernel_rfl)) (fun _ _ _ h => h) (Or.inl ⟨by rfl, ?_⟩) ?_ ?_
          rotate_left
          · intro w'
            go_simp
            with_reducible rfl
          rotate_left
          · simp only [Act.put, List.setIfInBounds_toArray, List.set_cons_zero, List.set_cons_succ, i64_w, i32_w]
            rfl
          refine pure_ (i := 3) (N := some 125) (v := ?_) (a' := ?_) #[true, true, true, true, false, false, false, false, false, false, false, false, false, false, false, false, false, false, false, false, false, false, false, false] rfl rfl (any_of HT_.out (by kernel_rfl)) (fun _ _ _ h => h) (Or.inl ⟨by rfl, ?_⟩) ?_ ?_
          rotate_left
          · intro w'
            go_simp
            with_reducible rfl
          rotate_left
          · simp only [Act.put, List.setIfInBounds_toArray, List.set_cons_zero, List.set_cons_succ, i64_w, i32_w]
            rfl
          refine pure_ (i := 4) (N := some 126) (v := ?_) (a' := ?_) #[true, true, true, true, true, false, false, false, false, false, false, false, false, false, false, false, false, false, false, false, false, false, false, false] rfl rfl (any_of HT_.out (by kernel_rfl)) (fun _ _ _ h => h) (Or.inl ⟨by rfl, ?_⟩) ?_ ?_
          rotate_left
          · intro w'
            go_simp
            with_reducible rfl
          rotate_left
          · simp only [Act.put, List.setIfInBounds_toArray, List.set_cons_zero, List.set_cons_succ, i64_w, i32_w]
            rfl
          refine pure_ (i := 5) (N := some 127) (v := ?_) (a' := ?_) #[true, true, true, true, true, true, false, false, false, false, false, false, false, false, false, false, false, false, false, false, false, false, false, false] rfl rfl (any_of HT_.out (by kernel_rfl)) (fun _ _ _ h => h) (Or.inl ⟨by rfl, ?_⟩) ?_ ?_
          rotate_left
          · intro w'
            go_simp
            with_reducible rfl
          rotate_left
          · simp only [Act.put, List.setIfInBounds_toArray, List.set_cons_zero, List.set_cons_succ, i64_w, i32_w]
            rfl
          refine pure_ (i := 7) (N := some 129) (v := ?_) (a' := ?_) #[true, true, true, true, true, true, false, true, false, false, false, false, false, false, false, false, false, false, false, false, false, false, false, false] rfl rfl (any_of HT_.out (by kernel_rfl)) (fun _ _ _ h => h) (Or.inl ⟨by rfl, ?_⟩) ?_ ?_
          rotate_left
          · intro w'
            go_simp
            with_reducible rfl
          rotate_left
          · simp only [Act.put, List.setIfInBounds_toArray, List.set_cons_zero, List.set_cons_succ, i64_w, i32_w]
            rfl
          refine take_ (i := 6) (N := some 128) (v := ?_) (a' := ?_) #[true, true, true, true, true, true, true, true, false, false, false, false, false, false, false, false, false, false, false, false, false, false, false, false] rfl rfl (take_ofW HT_.out HW_.out (by kernel_rfl)) (fun _ _ _ h => h) (Or.inl ⟨by rfl, ?_⟩) hHeld ?_ ?_
          rotate_left
          · rintro w' ⟨s0, s1, s2, s3⟩
            go_simp
            with_reducible rfl
          rotate_left
          · simp only [Act.put, List.setIfInBounds_toArray, List.set_cons_zero, List.set_cons_succ, i64_w, i32_w]
            rfl
          refine take_ (i := 8) (N := some 130) (v := ?_) (a' := ?_) #[true, true, true, true, true, true, true, true, true, false, false, false, false, false, false, false, false, false, false, false, false, false, false, false] rfl rfl (take_ofW HT_.out HW_.out (by kernel_rfl)) (fun _ _ _ h => h) (Or.inl ⟨by rfl, ?_⟩) hHeld ?_ ?_
          rotate_left
          · rintro w' ⟨s0, s1, s2, s3⟩
            go_simp
            with_reducible rfl
          rotate_left
          · simp only [Act.put, List.setIfInBounds_toArray, List.set_cons_zero, List.set_cons_succ, i64_w, i32_w]
            rfl
          refine one_ (i := 9) (N := some 131) #[true, true, true, true, true, true, true, true, true, true, false, false, false, false, false, false, false, false, false, false, false, false, false, false] rfl rfl (one_of HT_.out (by kernel_rfl)) (by decide) (fun K hK => ?_)
          refine goes_ Tryd.func22 (by kernel_rfl) rfl #[.slice Gc (f.f3.length + 64) kc, .slice A3 f.f3.length c3] (by rfl) rfl rfl (by (try simp only [List.map_toArray, List.map_cons, List.map_nil]); first | done | rfl | (simp only [List.length_drop, List.length_take]; rfl)) ?_
          with_reducible refine (H22.out _ ?hb).mono ?_
          (case hb => exact below_drew HB4.out.2)
          rintro e w5 ⟨rfl, hb5, hy5⟩
          have HB5 := Aside0.mk (And.intro ((HB4.out.1.next (below_drew (Below.refl _ _))).next hy5) hb5)
          have p3 : w5.cell? ⟨wr.heap.size, 3, none⟩ = some (.slice A3 f.f3.length c3) := HB5.out.1.cf 3 rfl
          have p4 : w5.cell? ⟨wr.heap.size, 4, none⟩ = some (.slice A4 f.f4.length c4) := HB5.out.1.cf 4 rfl
          obtain ⟨p5, p6⟩ := HT.out w5 hb5
          clear hb5 hy5
          refine ⟨_, rfl, ?_⟩
          refine hK.out _ _ ⟨p3, p4, p5, p6⟩ (fun hHeld => ?_)
          clear hK K
          refine norm_ (a' := ?_) ?_ ?_
          rotate_left
          · show Act.put _ (some 131) _ = _
            simp only [Act.put, List.setIfInBounds_toArray, List.set_cons_zero, List.set_cons_succ, i64_w, i32_w]
            rfl
          refine pure_ (i := 10) (N := some 132) (v := ?_) (a' := ?_) #[true, true, true, true, true, true, true, true, true, true, true, false, false, false, false, false, false, false, false, false, false, false, false, false] rfl rfl (any_of HT_.out (by kernel_rfl)) (fun _ _ _ h => h) (Or.inl ⟨by rfl, ?_⟩) ?_ ?_
          rotate_left
          · intro w'
            go_simp
            with_reducible rfl
          rotate_left
          · simp only [Act.put, List.setIfInBounds_toArray, List.set_cons_zero, List.set_cons_succ, i64_w, i32_w]
            rfl
          refine pure_ (i := 11) (N := some 133) (v := ?_) (a' := ?_) #[true, true, true, true, true, true, true, true, true, true, true, true, false, false, false, false, false, false, false, false, false, false, false, false] rfl rfl (any_of HT_.out (by kernel_rfl)) (fun _ _ _ h => h) (Or.inl ⟨by rfl, ?_⟩) ?_ ?_
          rotate_left
          · intro w'
            go_simp
            with_reducible rfl
          rotate_left
          · simp only [Act.put, List.setIfInBounds_toArray, List.set_cons_zero, List.set_cons_succ, i64_w, i32_w]
            rfl
          refine pure_ (i := 12) (N := some 134) (v := ?_) (a' := ?_) #[true, true, true, true, true, true, true, true, true, true, true, true, true, false, false, false, false, false, false, false, false, false, false, false] rfl rfl (any_of HT_.out (by kernel_rfl)) (fun _ _ _ h => h) (Or.inl ⟨by rfl, ?_⟩) ?_ ?_
          rotate_left
          · intro w'
            go_simp
            with_reducible rfl
          rotate_left
          · simp only [Act.put, List.setIfInBounds_toArray, List.set_cons_zero, List.set_cons_succ, i64_w, i32_w]
            rfl
          refine pure_ (i := 13) (N := some 135) (v := ?_) (a' := ?_) #[true, true, true, true, true, true, true, true, true, true, true, true, true, true, false, false, false, false, false, false, false, false, false, false] rfl rfl (any_of HT_.out (by kernel_rfl)) (fun _ _ _ h => h) (Or.inl ⟨by rfl, ?_⟩) ?_ ?_
          rotate_left
          · intro w'
            go_simp
            with_reducible rfl
          rotate_left
          · simp only [Act.put, List.setIfInBounds_toArray, List.set_cons_zero, List.set_cons_succ, i64_w, i32_w]
            rfl
          refine pure_ (i := 14) (N := some 136) (v := ?_) (a' := ?_) #[true, true, true, true, true, true, true, true, true, true, true, true, true, true, true, false, false, false, false, false, false, false, false, false] rfl rfl (any_of HT_.out (by kernel_rfl)) (fun _ _ _ h => h) (Or.inl ⟨by rfl, ?_⟩) ?_ ?_
          rotate_left
          · intro w'
            go_simp
            with_reducible rfl
          rotate_left
          · simp only [Act.put, List.setIfInBounds_toArray, List.set_cons_zero, List.set_cons_succ, i64_w, i32_w]
            rfl
          refine pure_ (i := 15) (N := some 137) (v := ?_) (a' := ?_) #[true, true, true, true, true, true, true, true, true, true, true, true, true, true, true, true, false, false, false, false, false, false, false, false] rfl rfl (any_of HT_.out (by kernel_rfl)) (fun _ _ _ h => h) (Or.inl ⟨by rfl, ?_⟩) ?_ ?_
          rotate_left
          · intro w'
            go_simp
            with_reducible rfl
          rotate_left
          · simp only [Act.put, List.setIfInBounds_toArray, List.set_cons_zero, List.set_cons_succ, i64_w, i32_w]
            rfl
          refine pure_ (i := 16) (N := some 138) (v := ?_) (a' := ?_) #[true, true, true, true, true, true, true, true, true, true, true, true, true, true, true, true, true, false, false, false, false, false, false, false] rfl rfl (any_of HT_.out (by kernel_rfl)) (fun _ _ _ h => h) (Or.inl ⟨by rfl, ?_⟩) ?_ ?_
          rotate_left
          · intro w'
            go_simp
            with_reducible rfl
          rotate_left
          · simp only [Act.put, List.setIfInBounds_toArray, List.set_cons_zero, List.set_cons_succ, i64_w, i32_w]
            rfl
          refine pure_ (i := 17) (N := some 139) (v := ?_) (a' := ?_) #[true, true, true, true, true, true, true, true, true, true, true, true, true, true, true, true, true, true, false, false, false, false, false, false] rfl rfl (any_of HT_.out (by kernel_rfl)) (fun _ _ _ h => h) (Or.inl ⟨by rfl, ?_⟩) ?_ ?_
          rotate_left
          · intro w'
            go_simp
            with_reducible rfl
          rotate_left
          · simp only [Act.put, List.setIfInBounds_toArray, List.set_cons_zero, List.set_cons_succ, i64_w, i32_w]
            rfl
          refine pure_ (i := 19) (N := some 141) (v := ?_) (a' := ?_) #[true, true, true, true, true, true, true, true, true, true, true, true, true, true, true, true, true, true, false, true, false, false, false, false] rfl rfl (any_of HT_.out (by kernel_rfl)) (fun _ _ _ h => h) (Or.inl ⟨by rfl, ?_⟩) ?_ ?_
          rotate_left
          · intro w'
            go_simp
            with_reducible rfl
          rotate_left
          · simp only [Act.put, List.setIfInBounds_toArray, List.set_cons_zero, List.set_cons_succ, i64_w, i32_w]
            rfl
          refine take_ (i := 18) (N := some 140) (v := ?_) (a' := ?_) #[true, true, true, true, true, true, true, true, true, true, true, true, true, true, true, true, true, true, true, true, false, false, false, false] rfl rfl (take_ofW HT_.out HW_.out (by kernel_rfl)) (fun _ _ _ h => h) (Or.inl ⟨by rfl, ?_⟩) hHeld ?_ ?_
          rotate_left
          · rintro w' ⟨s0, s1, s2, s3⟩
            go_simp
            with_reducible rfl
          rotate_left
          · simp only [Act.put, List.setIfInBounds_toArray, List.set_cons_zero, List.set_cons_succ, i64_w, i32_w]
            rfl
          refine take_ (i := 20) (N := some 142) (v := ?_) (a' := ?_) #[true, true, true, true, true, true, true, true, true, true, true, true, true, true, true, true, true, true, true, true, true, false, false, false] rfl rfl (take_ofW HT_.out HW_.out (by kernel_rfl)) (fun _ _ _ h => h) (Or.inl ⟨by rfl, ?_⟩) hHeld ?_ ?_
          rotate_left
          · rintro w' ⟨s0, s1, s2, s3⟩
            go_simp
            with_reducible rfl
          rotate_left
          · simp only [Act.put, List.setIfInBounds_toArray, List.set_cons_zero, List.set_cons_succ, i64_w, i32_w]
            rfl
          refine one_ (i := 21) (N := some 143) #[true, true, true, true, true, true, true, true, true, true, true, true, true, true, true, true, true, true, true, true, true, true, false, false] rfl rfl (one_of HT_.out (by kernel_rfl)) (by decide) (fun K hK => ?_)
          refine goes_ Tryd.func23 (by kernel_rfl) rfl #[.slice Gh (f.f4.length + 64) kh, .slice A4 f.f4.length c4] (by rfl) rfl rfl (by (try simp only [List.map_toArray, List.map_cons, List.map_nil]); first | done | rfl | (simp only [List.length_drop, List.length_take]; rfl)) ?_
          with_reducible refine (H23.out _ ?hb).mono ?_
          (case hb => exact HB5.out.2)
          rintro e w6 ⟨rfl, hb6, hy6⟩
          have HB6 := Aside0.mk (HR.out.next hb6)
          have q3 : w6.cell? ⟨wr.heap.size, 3, none⟩ = some (.slice A3 f.f3.length c3) := (HB5.out.1.next hy6).cf 3 rfl
          have q4 : w6.cell? ⟨wr.heap.size, 4, none⟩ = some (.slice A4 f.f4.length c4) := (HB5.out.1.next hy6).cf 4 rfl
          obtain ⟨q5, q6⟩ := HT.out w6 hb6
          clear hb6 hy6
          refine ⟨_, rfl, ?_⟩
          refine hK.out _ _ ⟨q3, q4, q5, q6⟩ (fun hHeld => ?_)
          clear hK K
          refine norm_ (a' := ?_) ?_ ?_
          rotate_left
          · show Act.put _ (some 143) _ = _
            simp only [Act.put, List.setIfInBounds_toArray, List.set_cons_zero, List.set_cons_succ, i64_w, i32_w]
            rfl
          refine pure_ (i := 22) (N := some 144) (v := ?_) (a' := ?_) #[true, true, true, true, true, true, true, true, true, true, true, true, true, true, true, true, true, true, true, true, true, true, true, false] rfl rfl (any_of HT_.out (by kernel_rfl)) (fun _ _ _ h => h) (Or.inl ⟨by rfl, ?_⟩) ?_ ?_
          rotate_left
          · intro w'
            go_simp
            with_reducible rfl
          rotate_left
          · simp only [Act.put, List.setIfInBounds_toArray, List.set_cons_zero, List.set_cons_succ, i64_w, i32_w]
            rfl
          refine pure_ (i := 23) (N := some 145) (v := ?_) (a' := ?_) #[true, true, true, true, true, true, true, true, true, true, true, true, true, true, true, true, true, true, true, true, true, true, true, true] rfl rfl (any_of HT_.out (by kernel_rfl)) (fun _ _ _ h => h) (Or.inl ⟨by rfl, ?_⟩) ?_ ?_
          rotate_left
          · intro w'
            go_simp
            with_reducible rfl
          rotate_left
          · simp only [Act.put, List.setIfInBounds_toArray, List.set_cons_zero, List.set_cons_succ, i64_w, i32_w]
            rfl
          refine done_ (done_of HT_.out (by kernel_rfl)) ?_
          go_wp2_with fail
          rw [ivw fs.length i hb1 hlt]
          exact ⟨⟨i + 1, rfl, hlt, HB6⟩, msr _ _ hlt⟩
        · obtain rfl : i = fs.length := by omega
          obtain ⟨V2, hV⟩ : ∃ V, V = wr := ⟨_, rfl⟩
          subst hV
          go_wp2_with fail
          go_loopw [13] (fun v W => ∃ i : Nat, v = .int .i64 (i : Int) ∧ i ≤ fs.length + 64 ∧ Aside0 (PK w (.slice Ac cs.length cc) (.slice Af fs.length cf) (.slice B0 cs.length d0) (.slice B1 fs.length d1) W)) (fun v _ => fs.length + 64 - (intOf v).toNat)
          case atStart => exact ⟨0, rfl, Nat.zero_le _, HR⟩
          case round =>
            obtain ⟨i, rfl, hi, HS⟩ := hrel
            by_cases hlt : i < fs.length + 64
            · obtain ⟨X, hX, ex1, ex2, ex3, ex4⟩ : ∃ X : Fn, F[fs.length + i]? = some X ∧ X.nm = ⟨#[]⟩ ∧ X.pa = -7 ∧ X.lo = (i : Int) ∧ (fs.length ≤ i → X.hc = (none, 0, 0) ∧ X.hh = (none, 0, 0)) := by
                by_cases hil : i < fs.length
                · obtain ⟨f, hf⟩ : ∃ f, fs[i]? = some f := ⟨_, List.getElem?_eq_getElem hil⟩
                  obtain ⟨x, X, hx, hX, _, _, _, ⟨m1, m2, m3⟩, _⟩ := HQ.out.2.2.1 i f hf
                  exact ⟨X, hX, m1, m2, m3, fun h => absurd hil (by omega)⟩
                · have h4 := HQ.out.2.2.2 (i - fs.length) (by omega)
                  rw [show 2 * fs.length + (i - fs.length) = fs.length + i by omega] at h4
                  exact ⟨_, h4, rfl, rfl, by unfold mkF; simp; omega, fun _ => ⟨rfl, rfl⟩⟩
              obtain ⟨bd, rfl, b0, b1, b2, b3, b4⟩ := atF (Kd.C_below HQ.out.2.1 HS.out.bl) hX
              rw [ex1] at b0
              rw [ex2] at b1
              rw [ex3] at b2
              have hl2 : (i : Int) < (fs.length : Int) + 64 := by omega
              have hl5 := gl5 fs.length i
              have hl6 : (fs.length : Int) + (i : Int) < 2 * (fs.length : Int) + 64 := by omega
              have hl7 := ix_add fs.length i
              have hlb := World.block_lt_of_cell? _ _ b0
              have v9 := wr_add2 fs.length i hb1 hlt
              have HP2 := Aside0.mk (fun o => HS.out.next (below_alloc1 wr o))
              by_cases hil : i < fs.length
              · have hl3 : ¬ (fs.length : Int) ≤ (i : Int) := gl7 _ _ hil
                obtain ⟨Xn, Xp, Xl, ⟨Gc, lc, kc⟩, ⟨Gh, lh, kh⟩⟩ := X
                have b3 : wr.cell? ⟨(bd.add ((fs.length + i) * 5)).block, (bd.add ((fs.length + i) * 5)).off + 3, none⟩ = some (.slice Gc lc kc) := b3
                have b4 : wr.cell? ⟨(bd.add ((fs.length + i) * 5)).block, (bd.add ((fs.length + i) * 5)).off + 4, none⟩ = some (.slice Gh lh kh) := b4
                clear hX ex1 ex2 ex3 ex4
                have v1 := HV.out
                go_wp2_with fail
                exact ⟨⟨i + 1, iv i, hlt, ⟨HP2.out _⟩⟩, msr4 _ _ hlt⟩
              · obtain ⟨ea, eb⟩ := ex4 (Nat.le_of_not_lt hil)
                rw [ea] at b3
                rw [eb] at b4
                have b3 : wr.cell? ⟨(bd.add ((fs.length + i) * 5)).block, (bd.add ((fs.length + i) * 5)).off + 3, none⟩ = some (.slice none 0 0) := b3
                have b4 : wr.cell? ⟨(bd.add ((fs.length + i) * 5)).block, (bd.add ((fs.length + i) * 5)).off + 4, none⟩ = some (.slice none 0 0) := b4
                have hl3 : (fs.length : Int) ≤ (i : Int) := gl8 _ _ hil
                clear hX ex1 ex2 ex3 ex4 ea eb
                have v1 := HV.out
                go_wp2_with fail
                exact ⟨⟨i + 1, iv i, hlt, ⟨HP2.out _⟩⟩, msr4 _ _ hlt⟩
            · obtain rfl : i = fs.length + 64 := by omega
              have hc64 : ((fs.length + 64 : Nat) : Int) = (fs.length : Int) + 64 := by omega
              rw [hc64]
              clear hc64
              have v1 := HV.out
              go_wp2_with fail
              go_ret
              exact ⟨rfl, HS.out.bl⟩
end Go.Proofs.YtpallcggmaheoaaDoor
