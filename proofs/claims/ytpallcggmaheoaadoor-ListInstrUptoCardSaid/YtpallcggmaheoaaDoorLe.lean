/-
  LentProgram: the same program in memory of its own, marks behind each list.
-/
import Derived.Test.YtpallcggmaheoaaDoorFh
import Derived.Test.YtpallcggmaheoaaDoorRo
import Derived.Deep.RegionLaw
import Derived.Test.YtpallcggmaheoaaDoorFl
namespace Go.Proofs.YtpallcggmaheoaaDoor
open Go.RowKit Go.Proofs.YtpallcggmaheoaaDoorW.PrintWords Go.Proofs.YtpallcggmaheoaaDoorW.PrintLast Go.Proofs.YtpallcggmaheoaaDoorW.PrintMore
open PListInstr
set_option linter.unusedVariables false
set_option linter.unusedSimpArgs false

def mk44 (j : Nat) : S44 := ⟨-7, (j : Int), ⟨#[]⟩⟩
def mks44 (k : Nat) : List S44 := (List.range k).map mk44
theorem mks44_snoc (k : Nat) : mks44 (k + 1) = mks44 k ++ [mk44 k] := by simp [mks44, List.range_succ]
theorem mks44_len (k : Nat) : (mks44 k).length = k := by simp [mks44]
theorem rd44 {l : List S44} {i : Nat} {x : S44} (h : l[i]? = some x) : rd_T44 l (i : Int) = x := by
  unfold rd_T44
  rw [List.getD_eq_getElem?_getD, Int.toNat_natCast, h]
  rfl
theorem at44 {w : World} {A : Option Addr} {n : Nat} {l : List S44} (h : Kd.C k44 w A n l) {i : Nat} (hi : i < n) {x : S44} (hx : l[i]? = some x) : ∃ ad, A = some ad ∧ w.cell? (ad.add (i * 3)) = some (.int .i64 x.f0) ∧ w.cell? ⟨(ad.add (i * 3)).block, (ad.add (i * 3)).off + 1, none⟩ = some (.int .i64 x.f1) ∧ w.cell? ⟨(ad.add (i * 3)).block, (ad.add (i * 3)).off + 2, none⟩ = some (.string x.f2) := by
  have := at_T44 h (i : Int) (by omega) (by omega)
  rwa [rd44 hx, Int.toNat_natCast] at this
theorem rd42 {l : List S42} {i : Nat} {x : S42} (h : l[i]? = some x) : rd_T42 l (i : Int) = x := by
  unfold rd_T42
  rw [List.getD_eq_getElem?_getD, Int.toNat_natCast, h]
  rfl
theorem at42 {w : World} {A : Option Addr} {n : Nat} {l : List S42} (h : Kd.C k42 w A n l) {i : Nat} (hi : i < n) {x : S42} (hx : l[i]? = some x) : ∃ ad A3 c3 A4 c4, A = some ad ∧ w.cell? (ad.add (i * 5)) = some (.string x.f0) ∧ w.cell? ⟨(ad.add (i * 5)).block, (ad.add (i * 5)).off + 1, none⟩ = some (.int .i64 x.f1) ∧ w.cell? ⟨(ad.add (i * 5)).block, (ad.add (i * 5)).off + 2, none⟩ = some (.int .i64 x.f2) ∧ w.cell? ⟨(ad.add (i * 5)).block, (ad.add (i * 5)).off + 3, none⟩ = some (.slice A3 x.f3.length c3) ∧ w.cell? ⟨(ad.add (i * 5)).block, (ad.add (i * 5)).off + 4, none⟩ = some (.slice A4 x.f4.length c4) ∧ x.f3.length ≤ c3 ∧ k27.C w A3 x.f3.length x.f3 ∧ x.f4.length ≤ c4 ∧ k55.C w A4 x.f4.length x.f4 := by
  have := at_T42 h (i : Int) (by omega) (by omega)
  rwa [rd42 hx, Int.toNat_natCast] at this
theorem snoc_slice {α : Type} {d : Kd α} {e base : Nat} {ok : Nat → Prop} {W : World} {v : Value} {xs : List α} {x : α} (h : d.R e W base ok v (xs ++ [x])) : ∃ A c, v = .slice A (xs.length + 1) c := by
  obtain ⟨A, c, e⟩ := Kd.R_slice h
  exact ⟨A, c, by rw [e, List.length_append]; rfl⟩
theorem take_snoc' {α : Type} {l : List α} {k : Nat} {x : α} (h : l[k]? = some x) : l.take k ++ [x] = l.take (k + 1) := by
  rw [List.take_add_one, h]
  rfl
section
variable {w W : World} {p0 p1 vc vf : Value} {cl : List S44} {hs : List Fn}
theorem Lt.cp0 (h : Lt w p0 p1 vc vf cl hs W) : W.cell? ⟨w.heap.size, 0, none⟩ = some p0 := by rw [cell_of_row _ _ 0 _ _ _ h.bp]; rfl
theorem Lt.cp1 (h : Lt w p0 p1 vc vf cl hs W) : W.cell? ⟨w.heap.size, 1, none⟩ = some p1 := by rw [cell_of_row _ _ 1 _ _ _ h.bp]; rfl
theorem Lt.cq0 (h : Lt w p0 p1 vc vf cl hs W) : W.cell? ⟨w.heap.size + 2, 0, none⟩ = some vc := by rw [cell_of_row _ _ 0 _ _ _ h.bq]; rfl
theorem Lt.cq1 (h : Lt w p0 p1 vc vf cl hs W) : W.cell? ⟨w.heap.size + 2, 1, none⟩ = some vf := by rw [cell_of_row _ _ 1 _ _ _ h.bq]; rfl
theorem Lt.start (w : World) (p0 p1 : Value) : Lt w p0 p1 (.slice none 0 0) (.slice none 0 0) [] [] (((w.alloc (.cells #[p0, p1] 25)).alloc (.cells #[.slice none 0 0, .slice none 0 0] 25)).alloc (.cells #[.slice none 0 0, .slice none 0 0] 25)) := by
  have b : Below w.heap.size w (((w.alloc (.cells #[p0, p1] 25)).alloc (.cells #[.slice none 0 0, .slice none 0 0] 25)).alloc (.cells #[.slice none 0 0, .slice none 0 0] 25)) := (((Below.refl _ _).alloc (Nat.le_refl _) _).alloc (by simp) _).alloc (by simp; omega) _
  refine ⟨b, ?_, ?_, ?_, Kd.R_nil _ _ _ _ _, Kd.R_nil _ _ _ _ _⟩
  · exact (Below.heap_alloc _ _ _ (by simp; omega)).trans (heap_alloc2_old w _ _)
  · exact (Below.heap_alloc _ _ _ (by simp)).trans (heap_alloc2_new w _ _)
  · have := heap_alloc_last ((w.alloc (.cells #[p0, p1] 25)).alloc (.cells #[.slice none 0 0, .slice none 0 0] 25)) (.cells #[.slice none 0 0, .slice none 0 0] 25)
    rwa [show ((w.alloc (.cells #[p0, p1] 25)).alloc (.cells #[.slice none 0 0, .slice none 0 0] 25)).heap.size = w.heap.size + 2 by simp] at this
end
/-- a function that marks a place -/
def mkF (n j : Nat) : Fn := ⟨⟨#[]⟩, -7, (n : Int) + (j : Int), (none, 0, 0), (none, 0, 0)⟩
def mksF (n k : Nat) : List Fn := (List.range k).map (mkF n)
theorem mksF_snoc (n k : Nat) : mksF n (k + 1) = mksF n k ++ [mkF n k] := by simp [mksF, List.range_succ]
theorem mksF_len (n k : Nat) : (mksF n k).length = k := by simp [mksF]
def T18 : Bool × List (List Nat × List Nat) := (true, [([], []), ([0], [0]), ([], []), ([], []), ([3], [3]), ([], []), ([4, 5], [4, 5]), ([6], [6]), ([7], [7]), ([8], [8]), ([], []), ([10], [10]), ([], []), ([11, 12], [11, 12]), ([13], [13]), ([14], [14]), ([15, 9], [15]), ([2, 9, 16], [2, 9, 16]), ([17], [17]), ([1, 18, 16], [1, 18]), ([0, 1, 2, 3, 4, 5, 6, 7, 8, 9, 10, 11, 12, 13, 14, 15, 16, 17, 18, 19], []), ([20, 19, 19, 0, 1, 2, 3, 4, 5, 6, 7, 8, 9, 10, 11, 12, 13, 14, 15, 16, 17, 18, 19], [19, 20])])
def B18 : List Nat := [0, 1, 0, 0, 8, 0, 56, 120, 248, 504, 0, 1024, 0, 7168, 15360, 31744, 65528, 131068, 262140, 524287, 1048575, 2097151]
theorem tab18 : rtab .any (opsOf Tryd.f5 18) = T18 := by kernel_rfl
theorem bits18 : waitsOk T18.2 B18 = true := by kernel_rfl
def T26 : Bool × List (List Nat × List Nat) := (true, [([], []), ([0], [0]), ([], []), ([], []), ([3], [3]), ([], []), ([], []), ([5, 6], [5, 6]), ([4, 7], [4, 7]), ([8], [8]), ([9], [9]), ([], []), ([11], [11]), ([], []), ([12, 13], [12, 13]), ([14], [14]), ([15], [15]), ([16], [16]), ([10, 17], [10, 17]), ([1, 2, 0, 1, 2, 3, 4, 5, 6, 7, 8, 9, 10, 11, 12, 13, 14, 15, 16, 17, 18], [1, 2]), ([19, 0, 1, 2, 3, 4, 5, 6, 7, 8, 9, 10, 11, 12, 13, 14, 15, 16, 17, 18], [19]), ([20, 18, 0, 1, 2, 3, 4, 5, 6, 7, 8, 9, 10, 11, 12, 13, 14, 15, 16, 17, 18], [18, 20])])
def B26 : List Nat := [0, 1, 0, 0, 8, 0, 0, 96, 248, 504, 1016, 0, 2048, 0, 14336, 30720, 63488, 129024, 262136, 524287, 1048575, 2097151]
theorem tab26 : rtab .any (opsOf Tryd.f5 26) = T26 := by kernel_rfl
theorem bits26 : waitsOk T26.2 B26 = true := by kernel_rfl
def T27 : Bool × List (List Nat × List Nat) := (true, [([], []), ([0], [0]), ([], []), ([], []), ([3], [3]), ([], []), ([], []), ([5, 6], [5, 6]), ([4, 7], [4, 7]), ([8], [8]), ([9], [9]), ([], []), ([11], [11]), ([], []), ([12, 13], [12, 13]), ([14], [14]), ([15], [15]), ([16], [16]), ([10, 17], [10, 17]), ([1, 2, 0, 1, 2, 3, 4, 5, 6, 7, 8, 9, 10, 11, 12, 13, 14, 15, 16, 17, 18], [1, 2]), ([19, 0, 1, 2, 3, 4, 5, 6, 7, 8, 9, 10, 11, 12, 13, 14, 15, 16, 17, 18], [19]), ([20, 18, 0, 1, 2, 3, 4, 5, 6, 7, 8, 9, 10, 11, 12, 13, 14, 15, 16, 17, 18], [18, 20])])
def B27 : List Nat := [0, 1, 0, 0, 8, 0, 0, 96, 248, 504, 1016, 0, 2048, 0, 14336, 30720, 63488, 129024, 262136, 524287, 1048575, 2097151]
theorem tab27 : rtab .any (opsOf Tryd.f5 27) = T27 := by kernel_rfl
theorem bits27 : waitsOk T27.2 B27 = true := by kernel_rfl
/-- the functions' headers on their way: the functions, and behind them the full lists of the first i of them -/
structure I4 (w : World) (fs : List S42) (gs : List Fn) (i : Nat) (W : World) : Prop where
  len : gs.length = fs.length + i
  fst : ∀ (k : Nat) (f : S42) (h : Fn), fs[k]? = some f → gs[k]? = some h → h.nm = f.f0 ∧ h.pa = f.f1 ∧ h.lo = f.f2
  snd : ∀ (k : Nat) (f : S42) (h : Fn), k < i → fs[k]? = some f → gs[fs.length + k]? = some h → h.nm = ⟨#[]⟩ ∧ h.pa = -7 ∧ h.lo = (k : Int) ∧ FL W w.heap.size h f.f3 f.f4
theorem I4.mv {w W W' : World} {fs : List S42} {gs : List Fn} {i : Nat} {Ts : List Nat} (h : I4 w fs gs i W) (hm : Mv Ts W W') (h1 : ¬ 27 ∈ Ts) (h2 : ¬ 55 ∈ Ts) : I4 w fs gs i W' :=
  ⟨h.len, h.fst, fun k f x hk hf hx => by
    obtain ⟨e1, e2, e3, e4⟩ := h.snd k f x hk hf hx
    exact ⟨e1, e2, e3, e4.mv hm h1 h2⟩⟩
theorem I4.snoc {w W : World} {fs : List S42} {gs : List Fn} {i : Nat} {f : S42} {y : Fn} (h : I4 w fs gs i W) (hf : fs[i]? = some f) (e1 : y.nm = ⟨#[]⟩) (e2 : y.pa = -7) (e3 : y.lo = (i : Int)) (e4 : FL W w.heap.size y f.f3 f.f4) : I4 w fs (gs ++ [y]) (i + 1) W := by
  have hlt := (List.getElem?_eq_some_iff.1 hf).1
  refine ⟨by rw [List.length_append, h.len]; rfl, fun k g x hk hx => ?_, fun k g x hk hg hx => ?_⟩
  · have := (List.getElem?_eq_some_iff.1 hk).1
    rw [List.getElem?_append_left (by rw [h.len]; omega)] at hx
    exact h.fst k g x hk hx
  · by_cases hki : k < i
    · rw [List.getElem?_append_left (by rw [h.len]; omega)] at hx
      exact h.snd k g x hki hg hx
    · obtain rfl : k = i := by omega
      rw [hf] at hg
      cases hg
      rw [List.getElem?_append_right (by rw [h.len]; omega), h.len, Nat.sub_self] at hx
      cases hx
      exact ⟨e1, e2, e3, e4⟩
theorem ivw (n i : Nat) (hn : n ≤ 1048576) (h : i < n) : wrap64 ((i : Int) + 1) = ((i + 1 : Nat) : Int) := by
  unfold wrap64
  omega
theorem gl6 (n i : Nat) (h : i < n) : i ≠ n + i := by omega
theorem iv (i : Nat) : Value.int .i64 ((i : Int) + 1) = Value.int .i64 ((i + 1 : Nat) : Int) := rfl
theorem msr (n i : Nat) (h : i < n) : n - (intOf (Value.int .i64 ((i + 1 : Nat) : Int))).toNat < n - (intOf (Value.int .i64 (i : Int))).toNat := by
  simp [intOf]
  omega
theorem gl2 (n i : Nat) (hi : i < n) : (i : Int) < (n : Int) := by omega
theorem gl3 (n i g : Nat) (h : g = 2 * n + 64) (hi : i < n) : (n : Int) + (i : Int) < (g : Int) := by omega
theorem gl4 (n i g : Nat) (h : g = 2 * n + 64) (hi : i < n) : (i : Int) < (g : Int) := by omega
theorem gl5 (n i : Nat) : 0 ≤ (n : Int) + (i : Int) := by omega
theorem wr_add (n i : Nat) (hn : n ≤ 1048576) (hi : i < n) : wrap64 ((n : Int) + (i : Int)) = (n : Int) + (i : Int) := by
  unfold wrap64
  omega
theorem ix_add (n i : Nat) : ((n : Int) + (i : Int)).toNat = n + i := by omega
theorem add0 (g k : Nat) : (⟨g, 0, none⟩ : Addr).add k = ⟨g, k, none⟩ := by
  unfold Addr.add
  split
  · next h => rw [h]
  · simp
/-- one cell of one function is written -/
theorem Lt.put42 {w W : World} {p0 p1 vc : Value} {cl : List S44} {G : List Fn} {g n c i j : Nat} {x y : Fn} {u : Value} (h : Lt w p0 p1 vc (.slice (some ⟨g, 0, none⟩) n c) cl G W) (hx : G[i]? = some x) (hj : j < 5) (hy : cellsF y = (cellsF x).set j u) : Lt w p0 p1 vc (.slice (some ⟨g, 0, none⟩) n c) cl (G.set i y) (W.setCell ⟨g, i * 5 + j, none⟩ u) ∧ Mv [42] W (W.setCell ⟨g, i * 5 + j, none⟩ u) := by
  obtain ⟨cs, hg⟩ := Kd.R_typed h.rf g rfl
  have m : Mv [42] W (W.setCell ⟨g, i * 5 + j, none⟩ u) := Mv.set hg (by simp) _
  exact ⟨⟨h.bl.setCell (p := ⟨g, i * 5 + j, none⟩) (Kd.R_base h.rf g rfl) _, m.st _ _ _ h.bp (by decide), m.st _ _ _ h.br (by decide), m.st _ _ _ h.bq (by decide), R_mv h.rc m (fun q hq => by rw [e44 q hq]; decide), kF_put h.rf hx hj hy⟩, m⟩
/-- the functions that are handed in: the first i of them have their lists -/
structure I6 (fs : List S42) (g2 G : List Fn) (i : Nat) : Prop where
  len : G.length = g2.length
  up : ∀ k, i ≤ k → G[k]? = g2[k]?
  dn : ∀ (k : Nat) (f : S42) (x X : Fn), k < i → fs[k]? = some f → g2[k]? = some x → g2[fs.length + k]? = some X → G[k]? = some ⟨x.nm, x.pa, x.lo, (X.hc.1, f.f3.length, X.hc.2.2), (X.hh.1, f.f4.length, X.hh.2.2)⟩
theorem I6.snoc {fs : List S42} {g2 G : List Fn} {i : Nat} {f : S42} {x X y : Fn} (h : I6 fs g2 G i) (hf : fs[i]? = some f) (hx : g2[i]? = some x) (hX : g2[fs.length + i]? = some X) (hy : y = ⟨x.nm, x.pa, x.lo, (X.hc.1, f.f3.length, X.hc.2.2), (X.hh.1, f.f4.length, X.hh.2.2)⟩) : I6 fs g2 (G.set i y) (i + 1) := by
  have hil := (List.getElem?_eq_some_iff.1 hx).1
  refine ⟨by rw [List.length_set, h.len], fun k hk => ?_, fun k f' x' X' hk hf' hx' hX' => ?_⟩
  · rw [List.getElem?_set_ne (by omega)]
    exact h.up k (by omega)
  · by_cases hki : k = i
    · subst hki
      rw [hf] at hf'
      rw [hx] at hx'
      rw [hX] at hX'
      cases hf'
      cases hx'
      cases hX'
      rw [List.getElem?_set_self (by rw [h.len]; exact hil), hy]
    · rw [List.getElem?_set_ne (fun e => hki e.symm)]
      exact h.dn k f' x' X' (by omega) hf' hx' hX'
/-- a program that was lent, as it is read -/
def Lq (W : World) (cs : List S44) (fs : List S42) (qc qf : Value) : Prop :=
  ∃ (Ac Af : Option Addr) (cc cf : Nat) (F : List Fn), qc = .slice Ac cs.length cc ∧ qf = .slice Af fs.length cf ∧ cs.length + 64 ≤ cc ∧ 2 * fs.length + 64 ≤ cf ∧ Kd.C k44 W Ac (cs.length + 64) (cs ++ mks44 64) ∧ Kd.C kF W Af (2 * fs.length + 64) F ∧
    (∀ (k : Nat) (f : S42), fs[k]? = some f → ∃ x X : Fn, F[k]? = some x ∧ F[fs.length + k]? = some X ∧ (x.nm = f.f0 ∧ x.pa = f.f1 ∧ x.lo = f.f2) ∧ x.hc = (X.hc.1, f.f3.length, X.hc.2.2) ∧ x.hh = (X.hh.1, f.f4.length, X.hh.2.2) ∧ (X.nm = ⟨#[]⟩ ∧ X.pa = -7 ∧ X.lo = (k : Int)) ∧ (X.hc.2.1 = f.f3.length + 64 ∧ X.hh.2.1 = f.f4.length + 64) ∧ (f.f3.length + 64 ≤ X.hc.2.2 ∧ Kd.C k27 W X.hc.1 (f.f3.length + 64) (f.f3 ++ mk27)) ∧ f.f4.length + 64 ≤ X.hh.2.2 ∧ Kd.C k55 W X.hh.1 (f.f4.length + 64) (f.f4 ++ mk55)) ∧
    (∀ j, j < 64 → F[2 * fs.length + j]? = some (mkF fs.length j))
theorem Lq.below {W X : World} {cs : List S44} {fs : List S42} {qc qf : Value} (h : Lq W cs fs qc qf) (hb : Below W.heap.size W X) : Lq X cs fs qc qf := by
  obtain ⟨Ac, Af, cc, cf, F, e1, e2, l1, l2, h1, h2, h3, h4⟩ := h
  refine ⟨Ac, Af, cc, cf, F, e1, e2, l1, l2, Kd.C_below h1 hb, Kd.C_below h2 hb, fun k f hf => ?_, h4⟩
  obtain ⟨x, X, a1, a2, a3, a4, a5, a6, a7, ⟨a8, a9⟩, a10, a11⟩ := h3 k f hf
  exact ⟨x, X, a1, a2, a3, a4, a5, a6, a7, ⟨a8, Kd.C_below a9 hb⟩, a10, Kd.C_below a11 hb⟩
theorem lent_fin {w W : World} {p0 p1 : Value} {Ac Af : Option Addr} {cc cf : Nat} {cs m : List S44} {fs : List S42} {gs g2 G : List Fn} (h : Lt w p0 p1 (.slice Ac m.length cc) (.slice Af G.length cf) m G W) (hm : m = cs ++ mks44 64) (h4 : I4 w fs gs fs.length W) (hg : g2 = gs ++ mksF fs.length 64) (h6 : I6 fs g2 G fs.length) (W' : World) (hW : W' = (((W.setCell ⟨w.heap.size + 1 + 1, 0, none⟩ (.slice Ac cs.length cc)).setCell ⟨w.heap.size + 1 + 1, 1, none⟩ (.slice Af fs.length cf)).setCell ⟨w.heap.size + 1, 0, none⟩ (.slice Ac cs.length cc)).setCell ⟨w.heap.size + 1, 1, none⟩ (.slice Af fs.length cf)) :
    W'.heap[w.heap.size + 1]? = some (.cells #[.slice Ac cs.length cc, .slice Af fs.length cf] 25 (0, 0)) ∧ Lq W' cs fs (.slice Ac cs.length cc) (.slice Af fs.length cf) ∧ Below w.heap.size w W' := by
  have b1 := h.br
  have m1 : Mv [25] W (W.setCell ⟨w.heap.size + 1 + 1, 0, none⟩ (.slice Ac cs.length cc)) := Mv.set h.bq (by simp) _
  have q1 := (set2 W _ _ _ (.slice Ac cs.length cc) _ h.bq).1
  have r1 := (Below.heap_setCell W ⟨w.heap.size + 1 + 1, 0, none⟩ (.slice Ac cs.length cc) (w.heap.size + 1) (by simp)).trans h.br
  have m2 := m1.trans (Mv.set (o := 1) q1 (by simp) (.slice Af fs.length cf))
  have r2 := (Below.heap_setCell (W.setCell ⟨w.heap.size + 1 + 1, 0, none⟩ (.slice Ac cs.length cc)) ⟨w.heap.size + 1 + 1, 1, none⟩ (.slice Af fs.length cf) (w.heap.size + 1) (by simp)).trans r1
  have m3 := m2.trans (Mv.set (o := 0) r2 (by simp) (.slice Ac cs.length cc))
  have r3 := (set2 _ _ _ _ (.slice Ac cs.length cc) _ r2).1
  have m4 := m3.trans (Mv.set (o := 1) r3 (by simp) (.slice Af fs.length cf))
  have r4 := (set2 _ _ _ _ (.slice Af fs.length cf) _ r3).2
  have hB : Below w.heap.size w W' := by
    rw [hW]
    exact (((h.bl.setCell (p := ⟨w.heap.size + 1 + 1, 0, none⟩) (Nat.le_add_right_of_le (Nat.le_add_right _ _)) _).setCell (p := ⟨w.heap.size + 1 + 1, 1, none⟩) (Nat.le_add_right_of_le (Nat.le_add_right _ _)) _).setCell (p := ⟨w.heap.size + 1, 0, none⟩) (Nat.le_add_right _ _) _).setCell (p := ⟨w.heap.size + 1, 1, none⟩) (Nat.le_add_right _ _) _
  have m5 : Mv [25] W W' := by rw [hW]; exact m4
  refine ⟨by rw [hW]; exact r4, ?_, hB⟩
  have hml : m.length = cs.length + 64 := by rw [hm, List.length_append, mks44_len]
  have hgl : gs.length = 2 * fs.length := by rw [h4.len]; omega
  have hG : G.length = 2 * fs.length + 64 := by rw [h6.len, hg, List.length_append, mksF_len, hgl]
  have hrc := R_mv h.rc m5 (fun q hq => by rw [e44 q hq]; decide)
  have hrf := R_mv h.rf m5 (fun q hq => by rw [e42 q hq]; decide)
  have h5 := h4.mv m5 (by decide) (by decide)
  refine ⟨Ac, Af, cc, cf, G, rfl, rfl, by rw [← hml]; exact (Kd.R_reads' hrc).2.1, by rw [← hG]; exact (Kd.R_reads' hrf).2.1, by have := (Kd.R_reads' hrc).2.2; rwa [hml, hm] at this, by have := (Kd.R_reads' hrf).2.2; rwa [hG] at this, fun k f hf => ?_, fun j hj => ?_⟩
  · have hk := (List.getElem?_eq_some_iff.1 hf).1
    obtain ⟨x, hx⟩ : ∃ x, gs[k]? = some x := ⟨_, List.getElem?_eq_getElem (by omega)⟩
    obtain ⟨X, hX⟩ : ∃ X, gs[fs.length + k]? = some X := ⟨_, List.getElem?_eq_getElem (by omega)⟩
    have hx2 : g2[k]? = some x := by rw [hg, List.getElem?_append_left (by omega)]; exact hx
    have hX2 : g2[fs.length + k]? = some X := by rw [hg, List.getElem?_append_left (by omega)]; exact hX
    obtain ⟨e1, e2, e3, hFL⟩ := h5.snd k f X hk hf hX
    have hb := h5.fst k f x hf hx
    have ea := (Kd.R_reads' hFL.2.2.1)
    have eb := (Kd.R_reads' hFL.2.2.2)
    have la : (f.f3 ++ mk27).length = f.f3.length + 64 := by rw [List.length_append, mk27_len]
    have lb : (f.f4 ++ mk55).length = f.f4.length + 64 := by rw [List.length_append, mk55_len]
    rw [la] at ea
    rw [lb] at eb
    exact ⟨_, X, h6.dn k f x X hk hf hx2 hX2, (h6.up _ (Nat.le_add_right _ _)).trans hX2, hb, rfl, rfl, ⟨e1, e2, e3⟩, ⟨hFL.1, hFL.2.1⟩, ⟨by rw [← hFL.1]; exact ea.2.1, ea.2.2⟩, by rw [← hFL.2.1]; exact eb.2.1, eb.2.2⟩
  · rw [h6.up _ (by omega), hg, List.getElem?_append_right (by omega), hgl, Nat.add_sub_cancel_left]
    simp [mksF, hj]
set_option maxRecDepth 100000 in
set_option maxHeartbeats 4000000 in
theorem lent_calls (A0 A1 : Option Addr) (c0 c1 : Nat) (cs : List S44) (fs : List S42) (w : World) (h0 : Kd.C k44 w A0 cs.length cs) (h1 : Kd.C k42 w A1 fs.length fs) (hb0 : cs.length ≤ 1048576) (hb1 : fs.length ≤ 1048576) (hb2 : ∀ f, f ∈ fs → f.f3.length ≤ 1048576 ∧ f.f4.length ≤ 1048576) :
    Calls Tryd.prog 5 #[.agg #[.slice A0 cs.length c0, .slice A1 fs.length c1]] w fun e w' => ∃ qc qf, e = .returned (.agg #[qc, qf]) ∧ Lq w' cs fs qc qf ∧ Below w.heap.size w w' := by
  have HC := Aside0.mk (And.intro h0 (And.intro h1 hb2))
  clear h0 h1 hb2
  have S0 := Aside0.mk (Lt.start w (.slice A0 cs.length c0) (.slice A1 fs.length c1))
  go_enter Tryd.func5, Tryd.ntmps5
  go_wp2_with fail
  go_loopw [5] (fun v W => ∃ (i : Nat) (vc : Value) (cl : List S44), v = .int .i64 (i : Int) ∧ i ≤ cs.length ∧ Aside0 (cl = cs.take i) ∧ Aside0 (Lt w (.slice A0 cs.length c0) (.slice A1 fs.length c1) vc (.slice none 0 0) cl [] W)) (fun v _ => cs.length - (intOf v).toNat)
  case atStart => exact ⟨0, _, [], rfl, Nat.zero_le _, ⟨rfl⟩, S0⟩
  case round =>
    obtain ⟨i, vc, cl, rfl, hi, HE, HL⟩ := hrel
    have d0 := HL.out.cp0
    by_cases hlt : i < cs.length
    · obtain ⟨x, hx⟩ : ∃ x, cs[i]? = some x := ⟨_, List.getElem?_eq_getElem hlt⟩
      obtain ⟨ad, rfl, a0, a1, a2⟩ := at44 (Kd.C_below HC.out.1 HL.out.bl) hlt hx
      obtain ⟨Ac, cc, rfl⟩ := Kd.R_slice HL.out.rc
      have d1 := HL.out.cq0
      have hl2 : (i : Int) < (cs.length : Int) := by omega
      have HX := Aside0.mk hx
      clear hx
      have HD := Aside0.mk (HL.out.below (below_drew (Below.refl wr.heap.size wr)))
      have b1 : ∀ o, (wr.alloc o).cell? ⟨w.heap.size + 2, 0, none⟩ = some (.slice Ac cl.length cc) := fun o => (World.cell?_alloc_lt _ _ _ (World.block_lt_of_cell? _ _ d1)).trans d1
      go_wp2_with fail
      go_region_law (refine Kd.R_append_step k44 (w0 := wr.drew) (W := wr.drew) w.heap.size (by rfl) (.tmp 22) (.tmp 28) 22 44 (.agg #[.int .i64 0, .int .i64 0, .string ⟨#[]⟩]) 32 rfl Tryd.underlying22 info44 rfl (by decide) (by omega) (.slice Ac cl.length cc) cl x [.int .i64 x.f0, .int .i64 x.f1, .string x.f2] (fun _ => True) (fun _ => False) rfl rfl (k44_mkM _ _ _ x) (fun _ h => h.elim) (fun _ _ => trivial) HD.out.rc (Below.refl _ _) HD.out.bl.size (by rw [HE.out, List.length_take]; omega) ?_; intro v1 w1 ho hb hg hat; obtain ⟨Av, cv, rfl⟩ := snoc_slice ho; obtain ⟨T1, M1, B1⟩ := HD.out.push44 ho hb hg; have d3 := (cell_of_row w1 (w.heap.size + 2) 0 _ _ _ B1); have d4 := frozen_of_row w1 (w.heap.size + 2) 0 _ _ B1; have HT1 := Aside0.mk T1; clear T1 M1 B1 ho hb hg hat)
      all_goals go_wp2_with fail
      all_goals refine ⟨⟨i + 1, _, cl ++ [x], by go_num, by omega, ⟨by rw [HE.out, take_snoc' HX.out]⟩, HT1⟩, by simp [intOf]; omega⟩
    · obtain rfl : i = cs.length := by omega
      have hcl : cl = cs := by rw [HE.out, List.take_length]
      subst hcl
      clear HE
      obtain ⟨V, hV⟩ : ∃ V, V = wr := ⟨_, rfl⟩
      subst hV
      obtain ⟨Ac, cc, rfl⟩ := Kd.R_slice HL.out.rc
      go_wp2_with fail
      go_loopw [6] (fun v W => ∃ (i : Nat) (vc : Value) (m : List S44), v = .int .i64 (i : Int) ∧ i ≤ 64 ∧ Aside0 (m = cl ++ mks44 i) ∧ Aside0 (Lt w (.slice A0 cl.length c0) (.slice A1 fs.length c1) vc (.slice none 0 0) m [] W)) (fun v _ => 64 - (intOf v).toNat)
      case atStart => exact ⟨0, _, cl, rfl, Nat.zero_le _, ⟨by simp [mks44]⟩, HL⟩
      case round =>
        obtain ⟨i, vc, m, rfl, hi, HE, HM⟩ := hrel
        by_cases hlt : i < 64
        · obtain ⟨Ad, cd, rfl⟩ := Kd.R_slice HM.out.rc
          have d1 := HM.out.cq0
          have hl2 : (i : Int) < 64 := by omega
          go_wp2_with (first | ((with_reducible refine gate_builtin (b := .append) (xs := #[.tmp 36, .tmp 39]) rfl ?_); at_builtin; refine Kd.R_append k44 (w0 := wr) w.heap.size rfl (.tmp 36) (.tmp 39) 22 44 (.agg #[.int .i64 0, .int .i64 0, .string ⟨#[]⟩]) 32 rfl Tryd.underlying22 info44 rfl (by decide) (by omega) (.slice Ad m.length cd) m (mk44 i) [.int .i64 (-7), .int .i64 (i : Int), .string ⟨#[]⟩] (fun _ => True) (fun _ => False) rfl rfl (k44_mkM _ _ _ (mk44 i)) (fun _ h => h.elim) (fun _ _ => trivial) ?aO (Below.refl _ _) ?aS ?aL ?_; (case aO => exact HM.out.rc); (case aS => exact HM.out.bl.size); (case aL => rw [HE.out, List.length_append, mks44_len]; omega); intro v1 w1 ho hb hg hat; obtain ⟨Av, cv, rfl⟩ := snoc_slice ho; obtain ⟨T1, M1, B1⟩ := HM.out.push44 ho hb hg; have d3 := (cell_of_row w1 (w.heap.size + 2) 0 _ _ _ B1); have d4 := frozen_of_row w1 (w.heap.size + 2) 0 _ _ B1; have HT1 := Aside0.mk T1; clear T1 M1 B1 ho hb hg hat))
          refine ⟨⟨i + 1, _, m ++ [mk44 i], by go_num, by omega, ⟨by rw [HE.out, mks44_snoc, List.append_assoc]⟩, HT1⟩, by simp [intOf]; omega⟩
        · obtain rfl : i = 64 := by omega
          rw [show ((64 : Nat) : Int) = 64 from rfl]
          go_wp2_with fail
          obtain ⟨V2, hV⟩ : ∃ V, V = wr := ⟨_, rfl⟩
          subst hV
          go_loopw [7] (fun v W => ∃ (i : Nat) (vf : Value) (hs : List Fn), v = .int .i64 (i : Int) ∧ i ≤ fs.length ∧ hs.length = i ∧ Aside0 (∀ (k : Nat) (f : S42) (h : Fn), fs[k]? = some f → hs[k]? = some h → h.nm = f.f0 ∧ h.pa = f.f1 ∧ h.lo = f.f2) ∧ Aside0 (Lt w (.slice A0 cl.length c0) (.slice A1 fs.length c1) vc vf m hs W)) (fun v _ => fs.length - (intOf v).toNat)
          case atStart => exact ⟨0, _, [], rfl, Nat.zero_le _, rfl, ⟨fun k f h _ hk => by simp at hk⟩, HM⟩
          case round =>
            obtain ⟨i, vf, hs, rfl, hi, hln, HF, HN⟩ := hrel
            by_cases hlt : i < fs.length
            · obtain ⟨f, hf⟩ : ∃ f, fs[i]? = some f := ⟨_, List.getElem?_eq_getElem hlt⟩
              obtain ⟨ad, A3, c3, A4, c4, rfl, a0, a1, a2, a3, a4, _⟩ := at42 (Kd.C_below HC.out.2.1 HN.out.bl) hlt hf
              obtain ⟨Ad, cd, rfl⟩ := Kd.R_slice HN.out.rf
              have d0 := HN.out.cp1
              have d1 := HN.out.cq1
              have hl2 : (i : Int) < (fs.length : Int) := by omega
              have HX := Aside0.mk (And.intro hf hln)
              clear hf hln
              have HD := Aside0.mk (HN.out.below (below_drew (Below.refl wr.heap.size wr)))
              have b1 : ∀ o, (wr.alloc o).cell? ⟨w.heap.size + 2, 1, none⟩ = some (.slice Ad hs.length cd) := fun o => (World.cell?_alloc_lt _ _ _ (World.block_lt_of_cell? _ _ d1)).trans d1
              obtain ⟨y, hy⟩ : ∃ y : Fn, y = ⟨f.f0, f.f1, f.f2, (A3, f.f3.length, c3), (A4, f.f4.length, c4)⟩ := ⟨_, rfl⟩
              have hcy : [.string f.f0, .int .i64 f.f1, .int .i64 f.f2, .slice A3 f.f3.length c3, .slice A4 f.f4.length c4] = cellsF y := by rw [hy]; rfl
              have HY := Aside0.mk (And.intro hy hcy)
              clear hy hcy
              go_wp2_with fail
              go_region_law (refine Kd.R_append_step kF (w0 := wr.drew) (W := wr.drew) w.heap.size (by rfl) (.tmp 48) (.tmp 54) 23 42 (.agg #[.string ⟨#[]⟩, .int .i64 0, .int .i64 0, .slice none 0 0, .slice none 0 0]) 80 rfl Tryd.underlying23 info42 rfl (by decide) (by omega) (.slice Ad hs.length cd) hs y [.string f.f0, .int .i64 f.f1, .int .i64 f.f2, .slice A3 f.f3.length c3, .slice A4 f.f4.length c4] (fun _ => True) (fun _ => False) rfl rfl (by rw [HY.out.2]; exact kF_mkM _ _ _ _) (fun _ h => h.elim) (fun _ _ => trivial) HD.out.rf (Below.refl _ _) HD.out.bl.size (by have := HX.out.2; omega) ?_; intro v1 w1 ho hb hg hat; obtain ⟨Av, cv, rfl⟩ := snoc_slice ho; obtain ⟨T1, M1, B1⟩ := HD.out.push42 ho hb hg; have d3 := (cell_of_row w1 (w.heap.size + 2) 1 _ _ _ B1); have d4 := frozen_of_row w1 (w.heap.size + 2) 1 _ _ B1; have HT1 := Aside0.mk T1; clear T1 M1 B1 ho hb hg hat)
              all_goals go_wp2_with fail
              all_goals
                refine ⟨⟨i + 1, (.slice Av (hs.length + 1) cv), hs ++ [y], by go_num, by omega, by rw [List.length_append, HX.out.2]; rfl, ⟨?_⟩, HT1⟩, by simp [intOf]; omega⟩
                intro k g h hk hh
                by_cases hkl : k < hs.length
                · rw [List.getElem?_append_left hkl] at hh
                  exact HF.out k g h hk hh
                · have hj := (List.getElem?_eq_some_iff.1 hh).1
                  simp at hj
                  obtain rfl : k = hs.length := by omega
                  rw [HX.out.2, HX.out.1] at hk
                  cases hk
                  simp at hh
                  subst hh
                  rw [HY.out.1]
                  exact ⟨rfl, rfl, rfl⟩
            · obtain rfl : i = fs.length := by omega
              obtain ⟨V3, hV⟩ : ∃ V, V = wr := ⟨_, rfl⟩
              subst hV
              have HI0 := Aside0.mk (I4.mk (w := w) (fs := fs) (gs := hs) (i := 0) (W := V3) (by omega) HF.out (fun k f h hk => absurd hk (by omega)))
              clear hln
              go_wp2_with fail
              go_loopw [8] (fun v W => ∃ (i : Nat) (vf : Value) (gs : List Fn), v = .int .i64 (i : Int) ∧ i ≤ fs.length ∧ Aside0 (I4 w fs gs i W) ∧ Aside0 (Lt w (.slice A0 cl.length c0) (.slice A1 fs.length c1) vc vf m gs W)) (fun v _ => fs.length - (intOf v).toNat)
              case atStart => exact ⟨0, _, hs, rfl, Nat.zero_le _, HI0, HN⟩
              case round =>
                obtain ⟨i, vf, gs, rfl, hi, HI, HP⟩ := hrel
                by_cases hlt : i < fs.length
                · obtain ⟨f, hf⟩ : ∃ f, fs[i]? = some f := ⟨_, List.getElem?_eq_getElem hlt⟩
                  obtain ⟨ad, A3, c3, A4, c4, rfl, _, _, _, a3, a4, l3, g3, l4, g4⟩ := at42 (Kd.C_below HC.out.2.1 HP.out.bl) hlt hf
                  obtain ⟨Ad, cd, rfl⟩ := Kd.R_slice HP.out.rf
                  have d0 := HP.out.cp1
                  have d1 := HP.out.cq1
                  have hl2 : (i : Int) < (fs.length : Int) := by omega
                  have hb4 := HC.out.2.2 f (List.mem_of_getElem? hf)
                  have H13 := Aside0.mk (fun X (hX : Below wr.heap.size wr X) => (full13 A3 c3 f.f3 X (Kd.C_below g3 hX) l3 hb4.1).mono (R' := fun e w' => ∃ g cg, e = .returned (.slice (some ⟨g, 0, none⟩) (f.f3.length + 64) cg) ∧ k27.R 27 w' w.heap.size (fun _ => True) (.slice (some ⟨g, 0, none⟩) (f.f3.length + 64) cg) (f.f3 ++ mk27) ∧ Below wr.heap.size wr w') (fun e w' ⟨g, cg, h1, h2, h3⟩ => ⟨g, cg, h1, Kd.R_lower h2 (Nat.le_trans HP.out.bl.size hX.size), hX.trans (h3.mono hX.size)⟩))
                  have H14 := Aside0.mk (fun X (hX : Below wr.heap.size wr X) => (full14 A4 c4 f.f4 X (Kd.C_below g4 hX) l4 hb4.2).mono (R' := fun e w' => ∃ g cg, e = .returned (.slice (some ⟨g, 0, none⟩) (f.f4.length + 64) cg) ∧ k55.R 55 w' w.heap.size (fun _ => True) (.slice (some ⟨g, 0, none⟩) (f.f4.length + 64) cg) (f.f4 ++ mk55) ∧ Below wr.heap.size wr w' ∧ Below X.heap.size X w') (fun e w' ⟨g, cg, h1, h2, h3⟩ => ⟨g, cg, h1, Kd.R_lower h2 (Nat.le_trans HP.out.bl.size hX.size), hX.trans (h3.mono hX.size), h3⟩))
                  have HFc := Aside0.mk (fun X (hX : Below wr.heap.size wr X) => And.intro ((hX.cell (World.block_lt_of_cell? _ _ d0)).trans d0) (And.intro ((hX.cell (World.block_lt_of_cell? _ _ d1)).trans d1) (And.intro ((hX.cell (World.block_lt_of_cell? _ _ a3)).trans a3) (And.intro ((hX.cell (World.block_lt_of_cell? _ _ a4)).trans a4) (fun o => (World.cell?_alloc_lt X o _ (World.block_lt_of_cell? _ _ ((hX.cell (World.block_lt_of_cell? _ _ d1)).trans d1))).trans ((hX.cell (World.block_lt_of_cell? _ _ d1)).trans d1))))))
                  have HX := Aside0.mk hf
                  clear hf l3 g3 l4 g4 hb4
                  go_wp2_with fail
                  refine start_ (n := 22) (S := fun w' => w'.cell? ⟨w.heap.size, 1, none⟩ = some (.slice (some ad) fs.length c1) ∧ w'.cell? ⟨w.heap.size + 2, 1, none⟩ = some (.slice Ad gs.length cd) ∧ w'.cell? ⟨(ad.add (i * 5)).block, (ad.add (i * 5)).off + 3, none⟩ = some (.slice A3 f.f3.length c3) ∧ w'.cell? ⟨(ad.add (i * 5)).block, (ad.add (i * 5)).off + 4, none⟩ = some (.slice A4 f.f4.length c4)) (ds := [19, 21]) #[false, false, false, false, false, false, false, false, false, false, false, false, false, false, false, false, false, false, false, false, false, false] (by kernel_rfl) rfl rfl ⟨d0, d1, a3, a4⟩ (fun hHeld => ?_); refine with_tabW tab18 bits18 (fun HT_ HW_ => ?_)
                  refine pure_ (i := 0) (N := some 62) (v := ?_) (a' := ?_) #[true, false, false, false, false, false, false, false, false, false, false, false, false, false, false, false, false, false, false, false, false, false] rfl rfl (any_of HT_.out (by kernel_rfl)) (fun _ _ _ h => h) (Or.inl ⟨by rfl, ?_⟩) ?_ ?_
                  rotate_left
                  · intro w'
                    go_simp
                    with_reducible rfl
                  rotate_left
                  · simp only [Act.put, List.setIfInBounds_toArray, List.set_cons_zero, List.set_cons_succ, i64_w, i32_w]
                    rfl
                  refine pure_ (i := 2) (N := some 64) (v := ?_) (a' := ?_) #[true, false, true, false, false, false, false, false, false, false, false, false, false, false, false, false, false, false, false, false, false, false] rfl rfl (any_of HT_.out (by kernel_rfl)) (fun _ _ _ h => h) (Or.inl ⟨by rfl, ?_⟩) ?_ ?_
                  rotate_left
                  · intro w'
                    go_simp
                    with_reducible rfl
                  rotate_left
                  · simp only [Act.put, List.setIfInBounds_toArray, List.set_cons_zero, List.set_cons_succ, i64_w, i32_w]
                    rfl
                  refine pure_ (i := 3) (N := some 65) (v := ?_) (a' := ?_) #[true, false, true, true, false, false, false, false, false, false, false, false, false, false, false, false, false, false, false, false, false, false] rfl rfl (any_of HT_.out (by kernel_rfl)) (fun _ _ _ h => h) (Or.inl ⟨by rfl, ?_⟩) ?_ ?_
                  rotate_left
                  · intro w'
                    go_simp
                    with_reducible rfl
                  rotate_left
                  · simp only [Act.put, List.setIfInBounds_toArray, List.set_cons_zero, List.set_cons_succ, i64_w, i32_w]
                    rfl
                  refine pure_ (i := 5) (N := some 67) (v := ?_) (a' := ?_) #[true, false, true, true, false, true, false, false, false, false, false, false, false, false, false, false, false, false, false, false, false, false] rfl rfl (any_of HT_.out (by kernel_rfl)) (fun _ _ _ h => h) (Or.inl ⟨by rfl, ?_⟩) ?_ ?_
                  rotate_left
                  · intro w'
                    go_simp
                    with_reducible rfl
                  rotate_left
                  · simp only [Act.put, List.setIfInBounds_toArray, List.set_cons_zero, List.set_cons_succ, i64_w, i32_w]
                    rfl
                  refine pure_ (i := 10) (N := some 72) (v := ?_) (a' := ?_) #[true, false, true, true, false, true, false, false, false, false, true, false, false, false, false, false, false, false, false, false, false, false] rfl rfl (any_of HT_.out (by kernel_rfl)) (fun _ _ _ h => h) (Or.inl ⟨by rfl, ?_⟩) ?_ ?_
                  rotate_left
                  · intro w'
                    go_simp
                    with_reducible rfl
                  rotate_left
                  · simp only [Act.put, List.setIfInBounds_toArray, List.set_cons_zero, List.set_cons_succ, i64_w, i32_w]
                    rfl
                  refine pure_ (i := 12) (N := some 74) (v := ?_) (a' := ?_) #[true, false, true, true, false, true, false, false, false, false, true, false, true, false, false, false, false, false, false, false, false, false] rfl rfl (any_of HT_.out (by kernel_rfl)) (fun _ _ _ h => h) (Or.inl ⟨by rfl, ?_⟩) ?_ ?_
                  rotate_left
                  · intro w'
                    go_simp
                    with_reducible rfl
                  rotate_left
                  · simp only [Act.put, List.setIfInBounds_toArray, List.set_cons_zero, List.set_cons_succ, i64_w, i32_w]
                    rfl
                  refine take_ (i := 1) (N := some 63) (v := ?_) (a' := ?_) #[true, true, true, true, false, true, false, false, false, false, true, false, true, false, false, false, false, false, false, false, false, false] rfl rfl (take_ofW HT_.out HW_.out (by kernel_rfl)) (fun _ _ _ h => h) (Or.inl ⟨by rfl, ?_⟩) hHeld ?_ ?_
                  rotate_left
                  · rintro w' ⟨s0, s1, s2, s3⟩
                    go_simp
                    with_reducible rfl
                  rotate_left
                  · simp only [Act.put, List.setIfInBounds_toArray, List.set_cons_zero, List.set_cons_succ, i64_w, i32_w]
                    rfl
                  refine take_ (i := 4) (N := some 66) (v := ?_) (a' := ?_) #[true, true, true, true, true, true, false, false, false, false, true, false, true, false, false, false, false, false, false, false, false, false] rfl rfl (take_ofW HT_.out HW_.out (by kernel_rfl)) (fun _ _ _ h => h) (Or.inl ⟨by rfl, ?_⟩) hHeld ?_ ?_
                  rotate_left
                  · rintro w' ⟨s0, s1, s2, s3⟩
                    go_simp
                    with_reducible rfl
                  rotate_left
                  · simp only [Act.put, List.setIfInBounds_toArray, List.set_cons_zero, List.set_cons_succ, i64_w, i32_w]
                    rfl
                  refine pure_ (i := 6) (N := some 68) (v := ?_) (a' := ?_) #[true, true, true, true, true, true, true, false, false, false, true, false, true, false, false, false, false, false, false, false, false, false] rfl rfl (any_of HT_.out (by kernel_rfl)) (fun _ _ _ h => h) (Or.inl ⟨by rfl, ?_⟩) ?_ ?_
                  rotate_left
                  · intro w'
                    go_simp
                    with_reducible rfl
                  rotate_left
                  · simp only [Act.put, List.setIfInBounds_toArray, List.set_cons_zero, List.set_cons_succ, i64_w, i32_w]
                    rfl
                  refine pure_ (i := 7) (N := some 69) (v := ?_) (a' := ?_) #[true, true, true, true, true, true, true, true, false, false, true, false, true, false, false, false, false, false, false, false, false, false] rfl rfl (any_of HT_.out (by kernel_rfl)) (fun _ _ _ h => h) (Or.inl ⟨by rfl, ?_⟩) ?_ ?_
                  rotate_left
                  · intro w'
                    go_simp
                    with_reducible rfl
                  rotate_left
                  · simp only [Act.put, List.setIfInBounds_toArray, List.set_cons_zero, List.set_cons_succ, i64_w, i32_w]
                    rfl
                  refine take_ (i := 8) (N := some 70) (v := ?_) (a' := ?_) #[true, true, true, true, true, true, true, true, true, false, true, false, true, false, false, false, false, false, false, false, false, false] rfl rfl (take_ofW HT_.out HW_.out (by kernel_rfl)) (fun _ _ _ h => h) (Or.inl ⟨by rfl, ?_⟩) hHeld ?_ ?_
                  rotate_left
                  · rintro w' ⟨s0, s1, s2, s3⟩
                    go_simp
                    with_reducible rfl
                  rotate_left
                  · simp only [Act.put, List.setIfInBounds_toArray, List.set_cons_zero, List.set_cons_succ, i64_w, i32_w]
                    rfl
                  refine take_ (i := 11) (N := some 73) (v := ?_) (a' := ?_) #[true, true, true, true, true, true, true, true, true, false, true, true, true, false, false, false, false, false, false, false, false, false] rfl rfl (take_ofW HT_.out HW_.out (by kernel_rfl)) (fun _ _ _ h => h) (Or.inl ⟨by rfl, ?_⟩) hHeld ?_ ?_
                  rotate_left
                  · rintro w' ⟨s0, s1, s2, s3⟩
                    go_simp
                    with_reducible rfl
                  rotate_left
                  · simp only [Act.put, List.setIfInBounds_toArray, List.set_cons_zero, List.set_cons_succ, i64_w, i32_w]
                    rfl
                  refine pure_ (i := 13) (N := some 75) (v := ?_) (a' := ?_) #[true, true, true, true, true, true, true, true, true, false, true, true, true, true, false, false, false, false, false, false, false, false] rfl rfl (any_of HT_.out (by kernel_rfl)) (fun _ _ _ h => h) (Or.inl ⟨by rfl, ?_⟩) ?_ ?_
                  rotate_left
                  · intro w'
                    go_simp
                    with_reducible rfl
                  rotate_left
                  · simp only [Act.put, List.setIfInBounds_toArray, List.set_cons_zero, List.set_cons_succ, i64_w, i32_w]
                    rfl
                  refine pure_ (i := 14) (N := some 76) (v := ?_) (a' := ?_) #[true, true, true, true, true, true, true, true, true, false, true, true, true, true, true, false, false, false, false, false, false, false] rfl rfl (any_of HT_.out (by kernel_rfl)) (fun _ _ _ h => h) (Or.inl ⟨by rfl, ?_⟩) ?_ ?_
                  rotate_left
                  · intro w'
                    go_simp
                    with_reducible rfl
                  rotate_left
                  · simp only [Act.put, List.setIfInBounds_toArray, List.set_cons_zero, List.set_cons_succ, i64_w, i32_w]
                    rfl
                  refine take_ (i := 15) (N := some 77) (v := ?_) (a' := ?_) #[true, true, true, true, true, true, true, true, true, false, true, true, true, true, true, true, false, false, false, false, false, false] rfl rfl (take_ofW HT_.out HW_.out (by kernel_rfl)) (fun _ _ _ h => h) (Or.inl ⟨by rfl, ?_⟩) hHeld ?_ ?_
                  rotate_left
                  · rintro w' ⟨s0, s1, s2, s3⟩
                    go_simp
                    with_reducible rfl
                  rotate_left
                  · simp only [Act.put, List.setIfInBounds_toArray, List.set_cons_zero, List.set_cons_succ, i64_w, i32_w]
                    rfl
                  refine one_ (i := 9) (N := some 71) #[true, true, true, true, true, true, true, true, true, true, true, true, true, true, true, true, false, false, false, false, false, false] rfl rfl (one_of HT_.out (by kernel_rfl)) (by decide) (fun K hK => ?_)
                  refine goes_ Tryd.func13 (by kernel_rfl) rfl #[.slice A3 f.f3.length c3] (by rfl) rfl rfl (by (try simp only [List.map_toArray, List.map_cons, List.map_nil]); first | done | rfl | (simp only [List.length_drop, List.length_take]; rfl)) ?_
                  with_reducible refine (H13.out _ ?hb).mono ?_
                  (case hb => exact below_drew (Below.refl _ _))
                  rintro e w1 ⟨g, cg, rfl, hR1, hb1⟩
                  obtain ⟨q0, q1, q2, q3, _⟩ := HFc.out w1 hb1
                  have H1 := Aside0.mk (And.intro hR1 hb1)
                  clear hR1 hb1
                  refine ⟨_, rfl, ?_⟩
                  refine hK.out _ _ ⟨q0, q1, q2, q3⟩ (fun hHeld => ?_)
                  clear hK K
                  refine norm_ (a' := ?_) ?_ ?_
                  rotate_left
                  · show Act.put _ (some 71) _ = _
                    simp only [Act.put, List.setIfInBounds_toArray, List.set_cons_zero, List.set_cons_succ, i64_w, i32_w]
                    rfl
                  refine one_ (i := 16) (N := some 78) #[true, true, true, true, true, true, true, true, true, true, true, true, true, true, true, true, true, false, false, false, false, false] rfl rfl (one_of HT_.out (by kernel_rfl)) (by decide) (fun K hK => ?_)
                  refine goes_ Tryd.func14 (by kernel_rfl) rfl #[.slice A4 f.f4.length c4] (by rfl) rfl rfl (by (try simp only [List.map_toArray, List.map_cons, List.map_nil]); first | done | rfl | (simp only [List.length_drop, List.length_take]; rfl)) ?_
                  with_reducible refine (H14.out _ ?hb).mono ?_
                  (case hb => exact H1.out.2)
                  rintro e w2 ⟨g2, cg2, rfl, hR2, hb2, hb3⟩
                  obtain ⟨r0, r1, r2, r3, _⟩ := HFc.out w2 hb2
                  have H2 := Aside0.mk (And.intro (HP.out.below hb2) (And.intro (HI.out.mv (Ts := []) (Mv.below hb2) (by decide) (by decide)) (And.intro hR2 (Kd.R_below H1.out.1 hb3))))
                  clear hR2 hb2 hb3
                  refine ⟨_, rfl, ?_⟩
                  refine hK.out _ _ ⟨r0, r1, r2, r3⟩ (fun hHeld => ?_)
                  clear hK K
                  refine norm_ (a' := ?_) ?_ ?_
                  rotate_left
                  · show Act.put _ (some 78) _ = _
                    simp only [Act.put, List.setIfInBounds_toArray, List.set_cons_zero, List.set_cons_succ, i64_w, i32_w]
                    rfl
                  refine pure_ (i := 17) (N := some 79) (v := ?_) (a' := ?_) #[true, true, true, true, true, true, true, true, true, true, true, true, true, true, true, true, true, true, false, false, false, false] rfl rfl (any_of HT_.out (by kernel_rfl)) (fun _ _ _ h => h) (Or.inl ⟨by rfl, ?_⟩) ?_ ?_
                  rotate_left
                  · intro w'
                    go_simp
                    with_reducible rfl
                  rotate_left
                  · simp only [Act.put, List.setIfInBounds_toArray, List.set_cons_zero, List.set_cons_succ, i64_w, i32_w]
                    rfl
                  refine one_ (i := 18) (N := some 80) #[true, true, true, true, true, true, true, true, true, true, true, true, true, true, true, true, true, true, true, false, false, false] rfl rfl (one_of HT_.out (by kernel_rfl)) (by decide) (fun K hK => ?_)
                  refine value_ (w1 := ?_) (v := ?_) (by rfl) rfl ?_ ?_
                  rotate_left 2
                  · go_simp
                    constructor
                    · rfl
                    · rfl
                  refine hK.out _ _ ⟨(World.cell?_alloc_lt _ _ _ (World.block_lt_of_cell? _ _ hHeld.1)).trans hHeld.1, (World.cell?_alloc_lt _ _ _ (World.block_lt_of_cell? _ _ hHeld.2.1)).trans hHeld.2.1, (World.cell?_alloc_lt _ _ _ (World.block_lt_of_cell? _ _ hHeld.2.2.1)).trans hHeld.2.2.1, (World.cell?_alloc_lt _ _ _ (World.block_lt_of_cell? _ _ hHeld.2.2.2)).trans hHeld.2.2.2⟩ (fun hHeld => ?_)
                  clear hK K
                  refine norm_ (a' := ?_) ?_ ?_
                  rotate_left
                  · show Act.put _ (some 80) _ = _
                    simp only [Act.put, List.setIfInBounds_toArray, List.set_cons_zero, List.set_cons_succ, i64_w, i32_w]
                    rfl
                  refine last_ (i := 19) (N := some 81) #[true, true, true, true, true, true, true, true, true, true, true, true, true, true, true, true, true, true, true, true, false, false] rfl rfl (one_of HT_.out (by kernel_rfl)) (by decide) (fun K hK => ?_)
                  refine Kd.R_append_step kF (w0 := w2) (W := w2) w.heap.size (by rfl) (.tmp 63) (.tmp 80) 23 42 (.agg #[.string ⟨#[]⟩, .int .i64 0, .int .i64 0, .slice none 0 0, .slice none 0 0]) 80 rfl Tryd.underlying23 info42 rfl (by decide) (by omega) (.slice Ad gs.length cd) gs ⟨⟨#[]⟩, -7, (i : Int), (some ⟨g, 0, none⟩, f.f3.length + 64, cg), (some ⟨g2, 0, none⟩, f.f4.length + 64, cg2)⟩ [.string ⟨#[]⟩, .int .i64 (-7), .int .i64 (i : Int), .slice (some ⟨g, 0, none⟩) (f.f3.length + 64) cg, .slice (some ⟨g2, 0, none⟩) (f.f4.length + 64) cg2] (fun _ => True) (fun _ => False) rfl rfl (kF_mkM _ _ _ _) (fun _ h => h.elim) (fun _ _ => trivial) H2.out.1.rf (Below.refl _ _) H2.out.1.bl.size (by rw [HI.out.len]; omega) ?_
                  intro v1 w3 ho hb hg hat
                  obtain ⟨Av, cv, rfl⟩ := snoc_slice ho
                  obtain ⟨T1, M1, B1⟩ := H2.out.1.push42 ho hb hg
                  have d3 := cell_of_row w3 (w.heap.size + 2) 1 _ _ _ B1
                  have d4 := frozen_of_row w3 (w.heap.size + 2) 1 _ _ B1
                  have HT1 := Aside0.mk (And.intro T1 M1)
                  clear T1 M1 B1 ho hb hg hat
                  refine hK.out _ _ ?_
                  clear hK K
                  refine norm_ (a' := ?_) ?_ ?_
                  rotate_left
                  · show Act.put _ (some 81) _ = _
                    simp only [Act.put, List.setIfInBounds_toArray, List.set_cons_zero, List.set_cons_succ, i64_w, i32_w]
                    rfl
                  refine pure_ (i := 20) (N := some 82) (v := ?_) (a' := ?_) #[true, true, true, true, true, true, true, true, true, true, true, true, true, true, true, true, true, true, true, true, true, false] rfl rfl (any_of HT_.out (by kernel_rfl)) (fun _ _ _ h => h) (Or.inl ⟨by rfl, ?_⟩) ?_ ?_
                  rotate_left
                  · intro w'
                    go_simp
                    with_reducible rfl
                  rotate_left
                  · simp only [Act.put, List.setIfInBounds_toArray, List.set_cons_zero, List.set_cons_succ, i64_w, i32_w]
                    rfl
                  refine last_ (i := 21) (N := none) #[true, true, true, true, true, true, true, true, true, true, true, true, true, true, true, true, true, true, true, true, true, true] rfl rfl (one_of HT_.out (by kernel_rfl)) (by decide) (fun K hK => ?_)
                  
                  refine skip_ (w1 := ?_) (by rfl) rfl ?_ ?_
                  rotate_left
                  · go_simp
                    rfl
                  refine hK.out _ _ ?_
                  clear hK K
                  refine done_ (done_of HT_.out (by kernel_rfl)) ?_
                  go_wp2_with fail
                  refine ⟨⟨i + 1, _, _, by go_num, by omega, ⟨((H2.out.2.1.snoc HX.out rfl rfl rfl ⟨rfl, rfl, H2.out.2.2.2, H2.out.2.2.1⟩).mv HT1.out.2 (by decide) (by decide))⟩, ⟨HT1.out.1⟩⟩, by simp [intOf]; omega⟩
                · obtain rfl : i = fs.length := by omega
                  obtain ⟨V4, hV⟩ : ∃ V, V = wr := ⟨_, rfl⟩
                  subst hV
                  go_wp2_with fail
                  go_loopw [9] (fun v W => ∃ (i : Nat) (vf : Value) (g2 : List Fn), v = .int .i64 (i : Int) ∧ i ≤ 64 ∧ Aside0 (g2 = gs ++ mksF fs.length i) ∧ Aside0 (I4 w fs gs fs.length W) ∧ Aside0 (Lt w (.slice A0 cl.length c0) (.slice A1 fs.length c1) vc vf m g2 W)) (fun v _ => 64 - (intOf v).toNat)
                  case atStart => exact ⟨0, _, gs, rfl, Nat.zero_le _, ⟨by simp [mksF]⟩, HI, HP⟩
                  case round =>
                    obtain ⟨i, vf, g2, rfl, hi, HG, HI, HQ⟩ := hrel
                    by_cases hlt : i < 64
                    · obtain ⟨Ad, cd, rfl⟩ := Kd.R_slice HQ.out.rf
                      have d1 := HQ.out.cq1
                      have hl2 : (i : Int) < 64 := by omega
                      go_wp2_with (first | ((with_reducible refine gate_builtin (b := .append) (xs := #[.tmp 88, .tmp 93]) rfl ?_); at_builtin; refine Kd.R_append kF (w0 := wr) w.heap.size rfl (.tmp 88) (.tmp 93) 23 42 (.agg #[.string ⟨#[]⟩, .int .i64 0, .int .i64 0, .slice none 0 0, .slice none 0 0]) 80 rfl Tryd.underlying23 info42 rfl (by decide) (by omega) (.slice Ad g2.length cd) g2 (mkF fs.length i) [.string ⟨#[]⟩, .int .i64 (-7), .int .i64 ((fs.length : Int) + (i : Int)), .slice none 0 0, .slice none 0 0] (fun _ => True) (fun _ => False) rfl rfl (kF_mkM _ _ _ (mkF fs.length i)) (fun _ h => h.elim) (fun _ _ => trivial) ?aO (Below.refl _ _) ?aS ?aL ?_; (case aO => exact HQ.out.rf); (case aS => exact HQ.out.bl.size); (case aL => rw [HG.out, List.length_append, mksF_len, HI.out.len]; omega); intro v1 w1 ho hb hg hat; obtain ⟨Av, cv, rfl⟩ := snoc_slice ho; obtain ⟨T1, M1, B1⟩ := HQ.out.push42 ho hb hg; have d3 := (cell_of_row w1 (w.heap.size + 2) 1 _ _ _ B1); have d4 := frozen_of_row w1 (w.heap.size + 2) 1 _ _ B1; have HT1 := Aside0.mk (And.intro T1 (M1)); clear T1 M1 B1 ho hb hg hat))
                      refine ⟨⟨i + 1, _, _, by go_num, by omega, ⟨by rw [HG.out, mksF_snoc, List.append_assoc]⟩, ⟨HI.out.mv HT1.out.2 (by decide) (by decide)⟩, ⟨HT1.out.1⟩⟩, by simp [intOf]; omega⟩
                    · obtain rfl : i = 64 := by omega
                      rw [show ((64 : Nat) : Int) = 64 from rfl]
                      obtain ⟨V5, hV⟩ : ∃ V, V = wr := ⟨_, rfl⟩
                      subst hV
                      have HB6 := Aside0.mk (And.intro HG.out (And.intro HI.out.len HI.out))
                      go_wp2_with fail
                      go_loopw [10] (fun v W => ∃ (i : Nat) (vf : Value) (G : List Fn), v = .int .i64 (i : Int) ∧ i ≤ fs.length ∧ Aside0 (I6 fs g2 G i) ∧ Aside0 (I4 w fs gs fs.length W) ∧ Aside0 (Lt w (.slice A0 cl.length c0) (.slice A1 fs.length c1) vc vf m G W)) (fun v _ => fs.length - (intOf v).toNat)
                      case atStart => exact ⟨0, _, g2, rfl, Nat.zero_le _, ⟨⟨rfl, fun _ _ => rfl, fun k f x X hk => absurd hk (by omega)⟩⟩, HI, HQ⟩
                      case round =>
                        obtain ⟨i, vf, G, rfl, hi, H6, HI, HR⟩ := hrel
                        by_cases hlt : i < fs.length
                        · obtain ⟨f, hf⟩ : ∃ f, fs[i]? = some f := ⟨_, List.getElem?_eq_getElem hlt⟩
                          have hgl : g2.length = 2 * fs.length + 64 := by rw [HB6.out.1, List.length_append, mksF_len, HB6.out.2.1]; omega
                          have hGl : G.length = 2 * fs.length + 64 := H6.out.len.trans hgl
                          obtain ⟨gb, cf, rfl, _⟩ := Kd.R_form HR.out.rf (by omega)
                          obtain ⟨x, hx⟩ : ∃ x, G[i]? = some x := ⟨_, List.getElem?_eq_getElem (by omega)⟩
                          obtain ⟨X, hX⟩ : ∃ X, gs[fs.length + i]? = some X := ⟨_, List.getElem?_eq_getElem (by rw [HI.out.len]; omega)⟩
                          have hX2 : g2[fs.length + i]? = some X := by rw [HB6.out.1, List.getElem?_append_left (by rw [HB6.out.2.1]; omega)]; exact hX
                          have hXG : G[fs.length + i]? = some X := (H6.out.up _ (by omega)).trans hX2
                          obtain ⟨_, _, _, hFL⟩ := HI.out.snd i f X hlt hf hX
                          obtain ⟨gc, cc, hXc, _⟩ := Kd.R_form hFL.2.2.1 (by rw [List.length_append, mk27_len]; omega)
                          obtain ⟨gh, ch, hXh, _⟩ := Kd.R_form hFL.2.2.2 (by rw [List.length_append, mk55_len]; omega)
                          rw [show (f.f3 ++ mk27).length = f.f3.length + 64 by rw [List.length_append, mk27_len]] at hXc
                          rw [show (f.f4 ++ mk55).length = f.f4.length + 64 by rw [List.length_append, mk55_len]] at hXh
                          have hcc : f.f3.length ≤ cc := by
                            have h1 := (Kd.R_reads' (hXc ▸ hFL.2.2.1)).2.1
                            omega
                          have hch : f.f4.length ≤ ch := by
                            have h1 := (Kd.R_reads' (hXh ▸ hFL.2.2.2)).2.1
                            omega
                          have hCG := (Kd.R_reads' HR.out.rf).2.2
                          obtain ⟨ad, A3, c3, A4, c4, rfl, _, _, _, a3, a4, _⟩ := at42 (Kd.C_below HC.out.2.1 HR.out.bl) hlt hf
                          obtain ⟨bd1, e1, _, _, _, x3, x4⟩ := atF hCG hXG
                          cases e1
                          obtain ⟨bd2, e2, _, _, _, y3, y4⟩ := atF hCG hx
                          cases e2
                          obtain ⟨csb, hblk⟩ := Kd.R_typed HR.out.rf gb rfl
                          have z3 := frozen_of_row wr gb (i * 5 + 3) _ _ hblk
                          have z4 := frozen_of_row wr gb (i * 5 + 4) _ _ hblk
                          have d0 := HR.out.cp1
                          have d1 := HR.out.cq1
                          rw [hXc, add0] at x3
                          rw [hXh, add0] at x4
                          rw [add0] at y3 y4
                          have x3 : wr.cell? ⟨gb, (fs.length + i) * 5 + 3, none⟩ = some (.slice (some ⟨gc, 0, none⟩) (f.f3.length + 64) cc) := x3
                          have y3 : wr.cell? ⟨gb, i * 5 + 3, none⟩ = some (hdrV x.hc) := y3
                          have hidx := ix_add fs.length i
                          have hwr := wr_add fs.length i hb1 hlt
                          have hgl4 := hgl
                          clear hgl
                          have hl2 : (i : Int) < (fs.length : Int) := gl2 _ _ hlt
                          have hl3 : (fs.length : Int) + (i : Int) < (G.length : Int) := gl3 _ _ _ hGl hlt
                          have hl4 : (i : Int) < (G.length : Int) := gl4 _ _ _ hGl hlt
                          have hl5 : 0 ≤ (fs.length : Int) + (i : Int) := gl5 _ _
                          obtain ⟨y1, hy1⟩ : ∃ y : Fn, y = ⟨x.nm, x.pa, x.lo, (some ⟨gc, 0, none⟩, f.f3.length, cc), x.hh⟩ := ⟨_, rfl⟩
                          obtain ⟨T5, M5⟩ := HR.out.put42 (j := 3) (y := y1) (u := .slice (some ⟨gc, 0, none⟩) f.f3.length cc) hx (by decide) (by rw [hy1]; rfl)
                          have HS5 := Aside0.mk (And.intro (T5.below (below_drew (Below.refl _ _))) (And.intro (M5.trans (Mv.below (below_drew (Below.refl _ _)))) (And.intro hy1 (And.intro hx (And.intro hX2 (And.intro hXG (And.intro hXc (And.intro hXh (And.intro hf hGl)))))))))
                          clear T5 M5 hy1 hx hX hX2 hXG hXc hXh hf hFL hCG x4 y4 z4 a4 hblk hgl4 hGl
                          go_wp2_with fail
                          refine start_ (n := 22) (S := fun w' => w'.cell? ⟨w.heap.size, 1, none⟩ = some (.slice (some ad) fs.length c1) ∧ w'.cell? ⟨w.heap.size + 2, 1, none⟩ = some (.slice (some ⟨gb, 0, none⟩) G.length cf) ∧ w'.cell? ⟨gb, (fs.length + i) * 5 + 3, none⟩ = some (.slice (some ⟨gc, 0, none⟩) (f.f3.length + 64) cc) ∧ w'.cell? ⟨(ad.add (i * 5)).block, (ad.add (i * 5)).off + 3, none⟩ = some (.slice A3 f.f3.length c3)) (ds := [21]) #[false, false, false, false, false, false, false, false, false, false, false, false, false, false, false, false, false, false, false, false, false, false] (by kernel_rfl) rfl rfl ⟨d0, d1, x3, a3⟩ (fun hHeld => ?_); refine with_tabW tab26 bits26 (fun HT_ HW_ => ?_)
                          refine pure_ (i := 0) (N := some 101) (v := ?_) (a' := ?_) #[true, false, false, false, false, false, false, false, false, false, false, false, false, false, false, false, false, false, false, false, false, false] rfl rfl (any_of HT_.out (by kernel_rfl)) (fun _ _ _ h => h) (Or.inl ⟨by rfl, ?_⟩) ?_ ?_
                          rotate_left
                          · intro w'
                            go_simp
                            with_reducible rfl
                          rotate_left
                          · simp only [Act.put, List.setIfInBounds_toArray, List.set_cons_zero, List.set_cons_succ, i64_w, i32_w]
                            rfl
                          refine pure_ (i := 2) (N := some 103) (v := ?_) (a' := ?_) #[true, false, true, false, false, false, false, false, false, false, false, false, false, false, false, false, false, false, false, false, false, false] rfl rfl (any_of HT_.out (by kernel_rfl)) (fun _ _ _ h => h) (Or.inl ⟨by rfl, ?_⟩) ?_ ?_
                          rotate_left
                          · intro w'
                            go_simp
                            with_reducible rfl
                          rotate_left
                          · simp only [Act.put, List.setIfInBounds_toArray, List.set_cons_zero, List.set_cons_succ, i64_w, i32_w]
                            rfl
                          refine pure_ (i := 3) (N := some 104) (v := ?_) (a' := ?_) #[true, false, true, true, false, false, false, false, false, false, false, false, false, false, false, false, false, false, false, false, false, false] rfl rfl (any_of HT_.out (by kernel_rfl)) (fun _ _ _ h => h) (Or.inl ⟨by rfl, ?_⟩) ?_ ?_
                          rotate_left
                          · intro w'
                            go_simp
                            with_reducible rfl
                          rotate_left
                          · simp only [Act.put, List.setIfInBounds_toArray, List.set_cons_zero, List.set_cons_succ, i64_w, i32_w]
                            rfl
                          refine pure_ (i := 5) (N := some 106) (v := ?_) (a' := ?_) #[true, false, true, true, false, true, false, false, false, false, false, false, false, false, false, false, false, false, false, false, false, false] rfl rfl (any_of HT_.out (by kernel_rfl)) (fun _ _ _ h => h) (Or.inl ⟨by rfl, ?_⟩) ?_ ?_
                          rotate_left
                          · intro w'
                            go_simp
                            with_reducible rfl
                          rotate_left
                          · simp only [Act.put, List.setIfInBounds_toArray, List.set_cons_zero, List.set_cons_succ, i64_w, i32_w]
                            rfl
                          refine pure_ (i := 6) (N := some 107) (v := ?_) (a' := ?_) #[true, false, true, true, false, true, true, false, false, false, false, false, false, false, false, false, false, false, false, false, false, false] rfl rfl (any_of HT_.out (by kernel_rfl)) (fun _ _ _ h => h) (Or.inl ⟨by rfl, ?_⟩) ?_ ?_
                          rotate_left
                          · intro w'
                            go_simp
                            with_reducible rfl
                          rotate_left
                          · simp only [Act.put, List.setIfInBounds_toArray, List.set_cons_zero, List.set_cons_succ, i64_w, i32_w]
                            rfl
                          refine pure_ (i := 7) (N := some 108) (v := ?_) (a' := ?_) #[true, false, true, true, false, true, true, true, false, false, false, false, false, false, false, false, false, false, false, false, false, false] rfl rfl (any_of HT_.out (by kernel_rfl)) (fun _ _ _ h => h) (Or.inl ⟨by rfl, ?_⟩) ?_ ?_
                          rotate_left
                          · intro w'
                            go_simp
                            with_reducible rfl
                          rotate_left
                          · simp only [Act.put, List.setIfInBounds_toArray, List.set_cons_zero, List.set_cons_succ, i64_w, i32_w]
                            rfl
                          refine pure_ (i := 11) (N := some 112) (v := ?_) (a' := ?_) #[true, false, true, true, false, true, true, true, false, false, false, true, false, false, false, false, false, false, false, false, false, false] rfl rfl (any_of HT_.out (by kernel_rfl)) (fun _ _ _ h => h) (Or.inl ⟨by rfl, ?_⟩) ?_ ?_
                          rotate_left
                          · intro w'
                            go_simp
                            with_reducible rfl
                          rotate_left
                          · simp only [Act.put, List.setIfInBounds_toArray, List.set_cons_zero, List.set_cons_succ, i64_w, i32_w]
                            rfl
                          refine pure_ (i := 13) (N := some 114) (v := ?_) (a' := ?_) #[true, false, true, true, false, true, true, true, false, false, false, true, false, true, false, false, false, false, false, false, false, false] rfl rfl (any_of HT_.out (by kernel_rfl)) (fun _ _ _ h => h) (Or.inl ⟨by rfl, ?_⟩) ?_ ?_
                          rotate_left
                          · intro w'
                            go_simp
                            with_reducible rfl
                          rotate_left
                          · simp only [Act.put, List.setIfInBounds_toArray, List.set_cons_zero, List.set_cons_succ, i64_w, i32_w]
                            rfl
                          refine take_ (i := 1) (N := some 102) (v := ?_) (a' := ?_) #[true, true, true, true, false, true, true, true, false, false, false, true, false, true, false, false, false, false, false, false, false, false] rfl rfl (take_ofW HT_.out HW_.out (by kernel_rfl)) (fun _ _ _ h => h) (Or.inl ⟨by rfl, ?_⟩) hHeld ?_ ?_
                          rotate_left
                          · rintro w' ⟨s0, s1, s2, s3⟩
                            go_simp
                            with_reducible rfl
                          rotate_left
                          · simp only [Act.put, List.setIfInBounds_toArray, List.set_cons_zero, List.set_cons_succ, i64_w, i32_w]
                            rfl
                          refine take_ (i := 4) (N := some 105) (v := ?_) (a' := ?_) #[true, true, true, true, true, true, true, true, false, false, false, true, false, true, false, false, false, false, false, false, false, false] rfl rfl (take_ofW HT_.out HW_.out (by kernel_rfl)) (fun _ _ _ h => h) (Or.inl ⟨by rfl, ?_⟩) hHeld ?_ ?_
                          rotate_left
                          · rintro w' ⟨s0, s1, s2, s3⟩
                            go_simp
                            with_reducible rfl
                          rotate_left
                          · simp only [Act.put, List.setIfInBounds_toArray, List.set_cons_zero, List.set_cons_succ, i64_w, i32_w]
                            rfl
                          refine pure_ (i := 8) (N := some 109) (v := ?_) (a' := ?_) #[true, true, true, true, true, true, true, true, true, false, false, true, false, true, false, false, false, false, false, false, false, false] rfl rfl (any_of HT_.out (by kernel_rfl)) (fun _ _ _ h => h) (Or.inl ⟨by rfl, ?_⟩) ?_ ?_
                          rotate_left
                          · intro w'
                            go_simp
                            with_reducible rfl
                          rotate_left
                          · simp only [Act.put, List.setIfInBounds_toArray, List.set_cons_zero, List.set_cons_succ, i64_w, i32_w]
                            rfl
                          refine pure_ (i := 9) (N := some 110) (v := ?_) (a' := ?_) #[true, true, true, true, true, true, true, true, true, true, false, true, false, true, false, false, false, false, false, false, false, false] rfl rfl (any_of HT_.out (by kernel_rfl)) (fun _ _ _ h => h) (Or.inl ⟨by rfl, ?_⟩) ?_ ?_
                          rotate_left
                          · intro w'
                            go_simp
                            with_reducible rfl
                          rotate_left
                          · simp only [Act.put, List.setIfInBounds_toArray, List.set_cons_zero, List.set_cons_succ, i64_w, i32_w]
                            rfl
                          refine take_ (i := 10) (N := some 111) (v := ?_) (a' := ?_) #[true, true, true, true, true, true, true, true, true, true, true, true, false, true, false, false, false, false, false, false, false, false] rfl rfl (take_ofW HT_.out HW_.out (by kernel_rfl)) (fun _ _ _ h => h) (Or.inl ⟨by rfl, ?_⟩) hHeld ?_ ?_
                          rotate_left
                          · rintro w' ⟨s0, s1, s2, s3⟩
                            go_simp
                            with_reducible rfl
                          rotate_left
                          · simp only [Act.put, List.setIfInBounds_toArray, List.set_cons_zero, List.set_cons_succ, i64_w, i32_w]
                            rfl
                          refine take_ (i := 12) (N := some 113) (v := ?_) (a' := ?_) #[true, true, true, true, true, true, true, true, true, true, true, true, true, true, false, false, false, false, false, false, false, false] rfl rfl (take_ofW HT_.out HW_.out (by kernel_rfl)) (fun _ _ _ h => h) (Or.inl ⟨by rfl, ?_⟩) hHeld ?_ ?_
                          rotate_left
                          · rintro w' ⟨s0, s1, s2, s3⟩
                            go_simp
                            with_reducible rfl
                          rotate_left
                          · simp only [Act.put, List.setIfInBounds_toArray, List.set_cons_zero, List.set_cons_succ, i64_w, i32_w]
                            rfl
                          refine pure_ (i := 14) (N := some 115) (v := ?_) (a' := ?_) #[true, true, true, true, true, true, true, true, true, true, true, true, true, true, true, false, false, false, false, false, false, false] rfl rfl (any_of HT_.out (by kernel_rfl)) (fun _ _ _ h => h) (Or.inl ⟨by rfl, ?_⟩) ?_ ?_
                          rotate_left
                          · intro w'
                            go_simp
                            with_reducible rfl
                          rotate_left
                          · simp only [Act.put, List.setIfInBounds_toArray, List.set_cons_zero, List.set_cons_succ, i64_w, i32_w]
                            rfl
                          refine pure_ (i := 15) (N := some 116) (v := ?_) (a' := ?_) #[true, true, true, true, true, true, true, true, true, true, true, true, true, true, true, true, false, false, false, false, false, false] rfl rfl (any_of HT_.out (by kernel_rfl)) (fun _ _ _ h => h) (Or.inl ⟨by rfl, ?_⟩) ?_ ?_
                          rotate_left
                          · intro w'
                            go_simp
                            with_reducible rfl
                          rotate_left
                          · simp only [Act.put, List.setIfInBounds_toArray, List.set_cons_zero, List.set_cons_succ, i64_w, i32_w]
                            rfl
                          refine take_ (i := 16) (N := some 117) (v := ?_) (a' := ?_) #[true, true, true, true, true, true, true, true, true, true, true, true, true, true, true, true, true, false, false, false, false, false] rfl rfl (take_ofW HT_.out HW_.out (by kernel_rfl)) (fun _ _ _ h => h) (Or.inl ⟨by rfl, ?_⟩) hHeld ?_ ?_
                          rotate_left
                          · rintro w' ⟨s0, s1, s2, s3⟩
                            go_simp
                            with_reducible rfl
                          rotate_left
                          · simp only [Act.put, List.setIfInBounds_toArray, List.set_cons_zero, List.set_cons_succ, i64_w, i32_w]
                            rfl
                          refine pure_ (i := 17) (N := some 118) (v := ?_) (a' := ?_) #[true, true, true, true, true, true, true, true, true, true, true, true, true, true, true, true, true, true, false, false, false, false] rfl rfl (any_of HT_.out (by kernel_rfl)) (fun _ _ _ h => h) (Or.inl ⟨by rfl, ?_⟩) ?_ ?_
                          rotate_left
                          · intro w'
                            go_simp
                            with_reducible rfl
                          rotate_left
                          · simp only [Act.put, List.setIfInBounds_toArray, List.set_cons_zero, List.set_cons_succ, i64_w, i32_w]
                            rfl
                          refine pure_ (i := 18) (N := some 119) (v := ?_) (a' := ?_) #[true, true, true, true, true, true, true, true, true, true, true, true, true, true, true, true, true, true, true, false, false, false] rfl rfl (any_of HT_.out (by kernel_rfl)) (fun _ _ _ h => h) (Or.inl ⟨by rfl, ?_⟩) ?_ ?_
                          rotate_left
                          · intro w'
                            go_simp
                            with_reducible rfl
                          rotate_left
                          · simp only [Act.put, List.setIfInBounds_toArray, List.set_cons_zero, List.set_cons_succ, i64_w, i32_w]
                            rfl
                          refine pure_ (i := 19) (N := some 120) (v := ?_) (a' := ?_) #[true, true, true, true, true, true, true, true, true, true, true, true, true, true, true, true, true, true, true, true, false, false] rfl rfl (any_of HT_.out (by kernel_rfl)) (fun _ _ _ h => h) (Or.inl ⟨by rfl, ?_⟩) ?_ ?_
                          rotate_left
                          · intro w'
                            go_simp
                            with_reducible rfl
                          rotate_left
                          · simp only [Act.put, List.setIfInBounds_toArray, List.set_cons_zero, List.set_cons_succ, i64_w, i32_w]
                            rfl
                          refine pure_ (i := 20) (N := some 121) (v := ?_) (a' := ?_) #[true, true, true, true, true, true, true, true, true, true, true, true, true, true, true, true, true, true, true, true, true, false] rfl rfl (any_of HT_.out (by kernel_rfl)) (fun _ _ _ h => h) (Or.inl ⟨by rfl, ?_⟩) ?_ ?_
                          rotate_left
                          · intro w'
                            go_simp
                            with_reducible rfl
                          rotate_left
                          · simp only [Act.put, List.setIfInBounds_toArray, List.set_cons_zero, List.set_cons_succ, i64_w, i32_w]
                            rfl
                          refine last_ (i := 21) (N := none) #[true, true, true, true, true, true, true, true, true, true, true, true, true, true, true, true, true, true, true, true, true, true] rfl rfl (one_of HT_.out (by kernel_rfl)) (by decide) (fun K hK => ?_)
                          
                          refine skip_ (w1 := ?_) (by rfl) rfl ?_ ?_
                          rotate_left
                          · go_simp
                            rfl
                          refine hK.out _ _ ?_
                          clear hK K
                          refine done_ (done_of HT_.out (by kernel_rfl)) ?_
                          go_wp2_with fail
                          obtain ⟨w5, hw5⟩ : ∃ w5, w5 = (wr.setCell ⟨gb, i * 5 + 3, none⟩ (.slice (some ⟨gc, 0, none⟩) f.f3.length cc)).drew := ⟨_, rfl⟩
                          rw [← hw5]
                          have P5 : Lt w (.slice A0 cl.length c0) (.slice (some ad) fs.length c1) vc (.slice (some ⟨gb, 0, none⟩) G.length cf) m (G.set i y1) w5 := by rw [hw5]; exact HS5.out.1
                          have M5 : Mv [42] wr w5 := by rw [hw5]; exact HS5.out.2.1
                          obtain ⟨_, _, hy1, hx, hX2, hXG, hXc, hXh, hf, hGl⟩ := HS5.out
                          have hx5 : (G.set i y1)[i]? = some y1 := List.getElem?_set_self (List.getElem?_eq_some_iff.1 hx).1
                          have hXG5 : (G.set i y1)[fs.length + i]? = some X := (List.getElem?_set_ne (gl6 _ _ hlt)).trans hXG
                          have hCG5 := (Kd.R_reads' P5.rf).2.2
                          obtain ⟨b1, e1, _, _, _, _, x4⟩ := atF hCG5 hXG5
                          cases e1
                          obtain ⟨b2, e2, _, _, _, _, y4⟩ := atF hCG5 hx5
                          cases e2
                          rw [hXh, add0] at x4
                          rw [add0] at y4
                          have x4 : w5.cell? ⟨gb, (fs.length + i) * 5 + 4, none⟩ = some (.slice (some ⟨gh, 0, none⟩) (f.f4.length + 64) ch) := x4
                          have y4 : w5.cell? ⟨gb, i * 5 + 4, none⟩ = some (hdrV y1.hh) := y4
                          obtain ⟨csb, hblk⟩ := Kd.R_typed P5.rf gb rfl
                          have z4 := frozen_of_row w5 gb (i * 5 + 4) _ _ hblk
                          obtain ⟨ad', A3', c3', A4, c4, e3, _, _, _, _, a4, _⟩ := at42 (Kd.C_below HC.out.2.1 P5.bl) hlt hf
                          cases e3
                          have e0 := P5.cp1
                          have e1 := P5.cq1
                          obtain ⟨y2, hy2⟩ : ∃ y : Fn, y = ⟨x.nm, x.pa, x.lo, (some ⟨gc, 0, none⟩, f.f3.length, cc), (some ⟨gh, 0, none⟩, f.f4.length, ch)⟩ := ⟨_, rfl⟩
                          obtain ⟨T6, M6⟩ := P5.put42 (j := 4) (y := y2) (u := .slice (some ⟨gh, 0, none⟩) f.f4.length ch) hx5 (by decide) (by rw [hy2, hy1]; rfl)
                          have hfin : I6 fs g2 (G.set i y2) (i + 1) := H6.out.snoc hf ((H6.out.up i (Nat.le_refl _)).symm.trans hx) hX2 (by rw [hy2]; injection hXc with q1 q2 q3; injection hXh with q4 q5 q6; rw [q1, q3, q4, q6])
                          rw [List.set_set] at T6
                          have HS6 := Aside0.mk (And.intro (T6.below (below_drew (Below.refl _ _))) (And.intro ((M5.trans M6).trans (Mv.below (below_drew (Below.refl _ _)))) hfin))
                          clear P5 M5 hy1 hx hX2 hXG hXc hXh hf hGl hx5 hXG5 hCG5 hblk T6 M6 hfin hw5 HS5 d0 d1 x3 a3 y3 z3 hy2
                          go_wp2_with fail
                          refine start_ (n := 22) (S := fun w' => w'.cell? ⟨w.heap.size, 1, none⟩ = some (.slice (some ad) fs.length c1) ∧ w'.cell? ⟨w.heap.size + 2, 1, none⟩ = some (.slice (some ⟨gb, 0, none⟩) G.length cf) ∧ w'.cell? ⟨gb, (fs.length + i) * 5 + 4, none⟩ = some (.slice (some ⟨gh, 0, none⟩) (f.f4.length + 64) ch) ∧ w'.cell? ⟨(ad.add (i * 5)).block, (ad.add (i * 5)).off + 4, none⟩ = some (.slice A4 f.f4.length c4)) (ds := [21]) #[false, false, false, false, false, false, false, false, false, false, false, false, false, false, false, false, false, false, false, false, false, false] (by kernel_rfl) rfl rfl ⟨e0, e1, x4, a4⟩ (fun hHeld => ?_); refine with_tabW tab27 bits27 (fun HT_ HW_ => ?_)
                          refine pure_ (i := 0) (N := some 122) (v := ?_) (a' := ?_) #[true, false, false, false, false, false, false, false, false, false, false, false, false, false, false, false, false, false, false, false, false, false] rfl rfl (any_of HT_.out (by kernel_rfl)) (fun _ _ _ h => h) (Or.inl ⟨by rfl, ?_⟩) ?_ ?_
                          rotate_left
                          · intro w'
                            go_simp
                            with_reducible rfl
                          rotate_left
                          · simp only [Act.put, List.setIfInBounds_toArray, List.set_cons_zero, List.set_cons_succ, i64_w, i32_w]
                            rfl
                          refine pure_ (i := 2) (N := some 124) (v := ?_) (a' := ?_) #[true, false, true, false, false, false, false, false, false, false, false, false, false, false, false, false, false, false, false, false, false, false] rfl rfl (any_of HT_.out (by kernel_rfl)) (fun _ _ _ h => h) (Or.inl ⟨by rfl, ?_⟩) ?_ ?_
                          rotate_left
                          · intro w'
                            go_simp
                            with_reducible rfl
                          rotate_left
                          · simp only [Act.put, List.setIfInBounds_toArray, List.set_cons_zero, List.set_cons_succ, i64_w, i32_w]
                            rfl
                          refine pure_ (i := 3) (N := some 125) (v := ?_) (a' := ?_) #[true, false, true, true, false, false, false, false, false, false, false, false, false, false, false, false, false, false, false, false, false, false] rfl rfl (any_of HT_.out (by kernel_rfl)) (fun _ _ _ h => h) (Or.inl ⟨by rfl, ?_⟩) ?_ ?_
                          rotate_left
                          · intro w'
                            go_simp
                            with_reducible rfl
                          rotate_left
                          · simp only [Act.put, List.setIfInBounds_toArray, List.set_cons_zero, List.set_cons_succ, i64_w, i32_w]
                            rfl
                          refine pure_ (i := 5) (N := some 127) (v := ?_) (a' := ?_) #[true, false, true, true, false, true, false, false, false, false, false, false, false, false, false, false, false, false, false, false, false, false] rfl rfl (any_of HT_.out (by kernel_rfl)) (fun _ _ _ h => h) (Or.inl ⟨by rfl, ?_⟩) ?_ ?_
                          rotate_left
                          · intro w'
                            go_simp
                            with_reducible rfl
                          rotate_left
                          · simp only [Act.put, List.setIfInBounds_toArray, List.set_cons_zero, List.set_cons_succ, i64_w, i32_w]
                            rfl
                          refine pure_ (i := 6) (N := some 128) (v := ?_) (a' := ?_) #[true, false, true, true, false, true, true, false, false, false, false, false, false, false, false, false, false, false, false, false, false, false] rfl rfl (any_of HT_.out (by kernel_rfl)) (fun _ _ _ h => h) (Or.inl ⟨by rfl, ?_⟩) ?_ ?_
                          rotate_left
                          · intro w'
                            go_simp
                            with_reducible rfl
                          rotate_left
                          · simp only [Act.put, List.setIfInBounds_toArray, List.set_cons_zero, List.set_cons_succ, i64_w, i32_w]
                            rfl
                          refine pure_ (i := 7) (N := some 129) (v := ?_) (a' := ?_) #[true, false, true, true, false, true, true, true, false, false, false, false, false, false, false, false, false, false, false, false, false, false] rfl rfl (any_of HT_.out (by kernel_rfl)) (fun _ _ _ h => h) (Or.inl ⟨by rfl, ?_⟩) ?_ ?_
                          rotate_left
                          · intro w'
                            go_simp
                            with_reducible rfl
                          rotate_left
                          · simp only [Act.put, List.setIfInBounds_toArray, List.set_cons_zero, List.set_cons_succ, i64_w, i32_w]
                            rfl
                          refine pure_ (i := 11) (N := some 133) (v := ?_) (a' := ?_) #[true, false, true, true, false, true, true, true, false, false, false, true, false, false, false, false, false, false, false, false, false, false] rfl rfl (any_of HT_.out (by kernel_rfl)) (fun _ _ _ h => h) (Or.inl ⟨by rfl, ?_⟩) ?_ ?_
                          rotate_left
                          · intro w'
                            go_simp
                            with_reducible rfl
                          rotate_left
                          · simp only [Act.put, List.setIfInBounds_toArray, List.set_cons_zero, List.set_cons_succ, i64_w, i32_w]
                            rfl
                          refine pure_ (i := 13) (N := some 135) (v := ?_) (a' := ?_) #[true, false, true, true, false, true, true, true, false, false, false, true, false, true, false, false, false, false, false, false, false, false] rfl rfl (any_of HT_.out (by kernel_rfl)) (fun _ _ _ h => h) (Or.inl ⟨by rfl, ?_⟩) ?_ ?_
                          rotate_left
                          · intro w'
                            go_simp
                            with_reducible rfl
                          rotate_left
                          · simp only [Act.put, List.setIfInBounds_toArray, List.set_cons_zero, List.set_cons_succ, i64_w, i32_w]
                            rfl
                          refine take_ (i := 1) (N := some 123) (v := ?_) (a' := ?_) #[true, true, true, true, false, true, true, true, false, false, false, true, false, true, false, false, false, false, false, false, false, false] rfl rfl (take_ofW HT_.out HW_.out (by kernel_rfl)) (fun _ _ _ h => h) (Or.inl ⟨by rfl, ?_⟩) hHeld ?_ ?_
                          rotate_left
                          · rintro w' ⟨s0, s1, s2, s3⟩
                            go_simp
                            with_reducible rfl
                          rotate_left
                          · simp only [Act.put, List.setIfInBounds_toArray, List.set_cons_zero, List.set_cons_succ, i64_w, i32_w]
                            rfl
                          refine take_ (i := 4) (N := some 126) (v := ?_) (a' := ?_) #[true, true, true, true, true, true, true, true, false, false, false, true, false, true, false, false, false, false, false, false, false, false] rfl rfl (take_ofW HT_.out HW_.out (by kernel_rfl)) (fun _ _ _ h => h) (Or.inl ⟨by rfl, ?_⟩) hHeld ?_ ?_
                          rotate_left
                          · rintro w' ⟨s0, s1, s2, s3⟩
                            go_simp
                            with_reducible rfl
                          rotate_left
                          · simp only [Act.put, List.setIfInBounds_toArray, List.set_cons_zero, List.set_cons_succ, i64_w, i32_w]
                            rfl
                          refine pure_ (i := 8) (N := some 130) (v := ?_) (a' := ?_) #[true, true, true, true, true, true, true, true, true, false, false, true, false, true, false, false, false, false, false, false, false, false] rfl rfl (any_of HT_.out (by kernel_rfl)) (fun _ _ _ h => h) (Or.inl ⟨by rfl, ?_⟩) ?_ ?_
                          rotate_left
                          · intro w'
                            go_simp
                            with_reducible rfl
                          rotate_left
                          · simp only [Act.put, List.setIfInBounds_toArray, List.set_cons_zero, List.set_cons_succ, i64_w, i32_w]
                            rfl
                          refine pure_ (i := 9) (N := some 131) (v := ?_) (a' := ?_) #[true, true, true, true, true, true, true, true, true, true, false, true, false, true, false, false, false, false, false, false, false, false] rfl rfl (any_of HT_.out (by kernel_rfl)) (fun _ _ _ h => h) (Or.inl ⟨by rfl, ?_⟩) ?_ ?_
                          rotate_left
                          · intro w'
                            go_simp
                            with_reducible rfl
                          rotate_left
                          · simp only [Act.put, List.setIfInBounds_toArray, List.set_cons_zero, List.set_cons_succ, i64_w, i32_w]
                            rfl
                          refine take_ (i := 10) (N := some 132) (v := ?_) (a' := ?_) #[true, true, true, true, true, true, true, true, true, true, true, true, false, true, false, false, false, false, false, false, false, false] rfl rfl (take_ofW HT_.out HW_.out (by kernel_rfl)) (fun _ _ _ h => h) (Or.inl ⟨by rfl, ?_⟩) hHeld ?_ ?_
                          rotate_left
                          · rintro w' ⟨s0, s1, s2, s3⟩
                            go_simp
                            with_reducible rfl
                          rotate_left
                          · simp only [Act.put, List.setIfInBounds_toArray, List.set_cons_zero, List.set_cons_succ, i64_w, i32_w]
                            rfl
                          refine take_ (i := 12) (N := some 134) (v := ?_) (a' := ?_) #[true, true, true, true, true, true, true, true, true, true, true, true, true, true, false, false, false, false, false, false, false, false] rfl rfl (take_ofW HT_.out HW_.out (by kernel_rfl)) (fun _ _ _ h => h) (Or.inl ⟨by rfl, ?_⟩) hHeld ?_ ?_
                          rotate_left
                          · rintro w' ⟨s0, s1, s2, s3⟩
                            go_simp
                            with_reducible rfl
                          rotate_left
                          · simp only [Act.put, List.setIfInBounds_toArray, List.set_cons_zero, List.set_cons_succ, i64_w, i32_w]
                            rfl
                          refine pure_ (i := 14) (N := some 136) (v := ?_) (a' := ?_) #[true, true, true, true, true, true, true, true, true, true, true, true, true, true, true, false, false, false, false, false, false, false] rfl rfl (any_of HT_.out (by kernel_rfl)) (fun _ _ _ h => h) (Or.inl ⟨by rfl, ?_⟩) ?_ ?_
                          rotate_left
                          · intro w'
                            go_simp
                            with_reducible rfl
                          rotate_left
                          · simp only [Act.put, List.setIfInBounds_toArray, List.set_cons_zero, List.set_cons_succ, i64_w, i32_w]
                            rfl
                          refine pure_ (i := 15) (N := some 137) (v := ?_) (a' := ?_) #[true, true, true, true, true, true, true, true, true, true, true, true, true, true, true, true, false, false, false, false, false, false] rfl rfl (any_of HT_.out (by kernel_rfl)) (fun _ _ _ h => h) (Or.inl ⟨by rfl, ?_⟩) ?_ ?_
                          rotate_left
                          · intro w'
                            go_simp
                            with_reducible rfl
                          rotate_left
                          · simp only [Act.put, List.setIfInBounds_toArray, List.set_cons_zero, List.set_cons_succ, i64_w, i32_w]
                            rfl
                          refine take_ (i := 16) (N := some 138) (v := ?_) (a' := ?_) #[true, true, true, true, true, true, true, true, true, true, true, true, true, true, true, true, true, false, false, false, false, false] rfl rfl (take_ofW HT_.out HW_.out (by kernel_rfl)) (fun _ _ _ h => h) (Or.inl ⟨by rfl, ?_⟩) hHeld ?_ ?_
                          rotate_left
                          · rintro w' ⟨s0, s1, s2, s3⟩
                            go_simp
                            with_reducible rfl
                          rotate_left
                          · simp only [Act.put, List.setIfInBounds_toArray, List.set_cons_zero, List.set_cons_succ, i64_w, i32_w]
                            rfl
                          refine pure_ (i := 17) (N := some 139) (v := ?_) (a' := ?_) #[true, true, true, true, true, true, true, true, true, true, true, true, true, true, true, true, true, true, false, false, false, false] rfl rfl (any_of HT_.out (by kernel_rfl)) (fun _ _ _ h => h) (Or.inl ⟨by rfl, ?_⟩) ?_ ?_
                          rotate_left
                          · intro w'
                            go_simp
                            with_reducible rfl
                          rotate_left
                          · simp only [Act.put, List.setIfInBounds_toArray, List.set_cons_zero, List.set_cons_succ, i64_w, i32_w]
                            rfl
                          refine pure_ (i := 18) (N := some 140) (v := ?_) (a' := ?_) #[true, true, true, true, true, true, true, true, true, true, true, true, true, true, true, true, true, true, true, false, false, false] rfl rfl (any_of HT_.out (by kernel_rfl)) (fun _ _ _ h => h) (Or.inl ⟨by rfl, ?_⟩) ?_ ?_
                          rotate_left
                          · intro w'
                            go_simp
                            with_reducible rfl
                          rotate_left
                          · simp only [Act.put, List.setIfInBounds_toArray, List.set_cons_zero, List.set_cons_succ, i64_w, i32_w]
                            rfl
                          refine pure_ (i := 19) (N := some 141) (v := ?_) (a' := ?_) #[true, true, true, true, true, true, true, true, true, true, true, true, true, true, true, true, true, true, true, true, false, false] rfl rfl (any_of HT_.out (by kernel_rfl)) (fun _ _ _ h => h) (Or.inl ⟨by rfl, ?_⟩) ?_ ?_
                          rotate_left
                          · intro w'
                            go_simp
                            with_reducible rfl
                          rotate_left
                          · simp only [Act.put, List.setIfInBounds_toArray, List.set_cons_zero, List.set_cons_succ, i64_w, i32_w]
                            rfl
                          refine pure_ (i := 20) (N := some 142) (v := ?_) (a' := ?_) #[true, true, true, true, true, true, true, true, true, true, true, true, true, true, true, true, true, true, true, true, true, false] rfl rfl (any_of HT_.out (by kernel_rfl)) (fun _ _ _ h => h) (Or.inl ⟨by rfl, ?_⟩) ?_ ?_
                          rotate_left
                          · intro w'
                            go_simp
                            with_reducible rfl
                          rotate_left
                          · simp only [Act.put, List.setIfInBounds_toArray, List.set_cons_zero, List.set_cons_succ, i64_w, i32_w]
                            rfl
                          refine last_ (i := 21) (N := none) #[true, true, true, true, true, true, true, true, true, true, true, true, true, true, true, true, true, true, true, true, true, true] rfl rfl (one_of HT_.out (by kernel_rfl)) (by decide) (fun K hK => ?_)
                          
                          refine skip_ (w1 := ?_) (by rfl) rfl ?_ ?_
                          rotate_left
                          · go_simp
                            rfl
                          refine hK.out _ _ ?_
                          clear hK K
                          refine done_ (done_of HT_.out (by kernel_rfl)) ?_
                          go_wp2_with fail
                          rw [ivw fs.length i hb1 hlt]
                          exact ⟨⟨i + 1, _, G.set i y2, rfl, hlt, ⟨HS6.out.2.2⟩, ⟨HI.out.mv HS6.out.2.1 (by decide) (by decide)⟩, ⟨HS6.out.1⟩⟩, msr _ _ hlt⟩
                        · obtain rfl : i = fs.length := Nat.le_antisymm hi (Nat.le_of_not_lt hlt)
                          obtain ⟨Ac, cc, rfl⟩ := Kd.R_slice HR.out.rc
                          obtain ⟨Af, cf, rfl⟩ := Kd.R_slice HR.out.rf
                          have d0 := HR.out.cp0
                          have d1 := HR.out.cq0
                          have d2 := HR.out.cq1
                          have d3 := frozen_of_row wr (w.heap.size + 2) 0 _ _ HR.out.bq
                          have d4 := frozen_of_row wr (w.heap.size + 2) 1 _ _ HR.out.bq
                          have d5 := frozen_of_row wr (w.heap.size + 1) 0 _ _ HR.out.br
                          have d6 := frozen_of_row wr (w.heap.size + 1) 1 _ _ HR.out.br
                          have d7 := cell_of_row wr (w.heap.size + 1) 0 _ _ _ HR.out.br
                          have d8 := cell_of_row wr (w.heap.size + 1) 1 _ _ _ HR.out.br
                          have hle : cl.length ≤ cc := Nat.le_trans (by rw [HE.out, List.length_append]; exact Nat.le_add_right _ _) (Kd.R_reads' HR.out.rc).2.1
                          have hlf : fs.length ≤ cf := Nat.le_trans (by rw [H6.out.len, HB6.out.1, List.length_append, HB6.out.2.1]; exact Nat.le_trans (Nat.le_add_right _ _) (Nat.le_add_right _ _)) (Kd.R_reads' HR.out.rf).2.1
                          go_wp2_with fail
                          obtain ⟨k1, k2, k3⟩ := lent_fin HR.out HE.out HI.out HB6.out.1 H6.out _ rfl
                          exact bodyPost_ret (results_cell_row rfl _ _ (w.heap.size + 1) 25 _ (0, 0) _ rfl k1 Tryd.underlying25 rfl (by kernel_rfl)) rfl ⟨_, _, rfl, k2, k3⟩
end Go.Proofs.YtpallcggmaheoaaDoor
