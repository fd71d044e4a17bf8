/-
  ApartTexts: rows of texts that lie apart.
-/
import Derived.Test.YtijmhegccakndaaFs
import Derived.Test.YtijmhegccakndaaPInternScriptx2
namespace Go.Proofs.Ytijmhegccakndaa
open Go.RowKit
open Go.Proofs.YtijmhegccakndaaW.PrintWords Go.Proofs.YtijmhegccakndaaW.PrintMore
open PInternScript
set_option linter.unusedVariables false

/-- a row's header: its block and its length; no spare room -/
abbrev kH : Kd (Nat × Nat) := Kd.scalar (fun x => .slice (some ⟨x.1, 0, none⟩) x.2 x.2) (fun _ => rfl)
/-- the mark of a place -/
def mkT (k i : Nat) : ByteArray := strOfNums (([35, (k : Int) % 256, ((k : Int) / 256) % 256, (i : Int) % 256, ((i : Int) / 256) % 256] : List Int))
theorem mark_calls (k i : Nat) (w : World) : Calls Try.prog 56 #[.int .i64 (k : Int), .int .i64 (i : Int)] w fun e w' => e = .returned (.string (mkT k i)) ∧ Below w.heap.size w w' :=
  portagekit_markText.calls (k : Int) (i : Int) (mkT k i) w rfl
theorem hdr {w : World} {n0 : Nat} {ok : Nat → Prop} {A : Option Addr} {c : Nat} {hs : List (Nat × Nat)} (h : kH.R 22 w n0 ok (.slice A hs.length c) hs) {k g n : Nat} (hk : hs[k]? = some (g, n)) : ∃ a, A = some ⟨a, 0, none⟩ ∧ w.cell? ⟨a, k, none⟩ = some (.slice (some ⟨g, 0, none⟩) n n) := by
  have hlt := (List.getElem?_eq_some_iff.1 hk).1
  obtain ⟨a, cap, e, _⟩ := Kd.R_form h (by omega)
  cases e
  have h2 := (Kd.R_cell (0, 0) h (k : Int) (by omega) (by omega)).1
  have : rdOf (0, 0) hs (k : Int) = (g, n) := by simp [rdOf, List.getD_eq_getElem?_getD, hk]
  rw [this] at h2
  exact ⟨a, rfl, by simpa using h2⟩
/-- all texts of a row are their places' marks, as far as i -/
def Mk (k i : Nat) (l : List ByteArray) : Prop := ∀ (j : Nat) (t : ByteArray), j < i → l[j]? = some t → t = mkT k j
/-- the rows, the first k of them marked, and of the k-th the first i texts -/
def Ma (w : World) (n0 : Nat) (hs : List (Nat × Nat)) (k i : Nat) (W : World) : Prop :=
  ∃ ls, Gs W n0 hs ls ∧ (∀ (j : Nat) (l : List ByteArray), j < k → ls[j]? = some l → Mk j l.length l) ∧ (∀ (l : List ByteArray), ls[k]? = some l → Mk k i l) ∧ Kp w W (fun b => ∃ k n : Nat, hs[k]? = some (b, n))
theorem Ma.below {w W W' : World} {n0 k i : Nat} {hs : List (Nat × Nat)} (h : Ma w n0 hs k i W) (hb : Below W.heap.size W W') : Ma w n0 hs k i W' := by
  obtain ⟨ls, h1, h2, h3, h4⟩ := h
  exact ⟨ls, h1.below hb, h2, h3, h4.trans (S' := fun _ => False) ⟨hb.os, hb.tape, hb.output, hb.size, fun k hk _ => hb.block k hk⟩ (fun j hj => hj.elim)⟩
theorem Ma.put {w W : World} {n0 k i g n : Nat} {hs : List (Nat × Nat)} (h : Ma w n0 hs k i W) (hk : hs[k]? = some (g, n)) (hi : i < n) : Ma w n0 hs k (i + 1) (W.setCell ⟨g, i, none⟩ (.string (mkT k i))) := by
  obtain ⟨ls, h1, h2, h3, h4⟩ := h
  obtain ⟨l, hl⟩ : ∃ l, ls[k]? = some l := ⟨_, List.getElem?_eq_getElem (by have := (List.getElem?_eq_some_iff.1 hk).1; have := h1.len; omega)⟩
  have hn := (h1.row k g n l hk hl).1
  refine ⟨ls.set k (l.set i (mkT k i)), h1.put hk hl i (mkT k i), fun j l' hj hl' => ?_, fun l' hl' j t hj ht => ?_, h4.setCell (p := ⟨g, i, none⟩) (.inl ⟨k, n, hk⟩) _⟩
  · rw [List.getElem?_set_ne (by omega)] at hl'
    exact h2 j l' hj hl'
  · rw [List.getElem?_set_self (List.getElem?_eq_some_iff.1 hl).1] at hl'
    cases hl'
    by_cases hji : i = j
    · subst hji
      rw [List.getElem?_set_self (by omega)] at ht
      cases ht
      rfl
    · rw [List.getElem?_set_ne hji] at ht
      exact h3 l hl j t (by omega) ht
theorem Ma.next {w W : World} {n0 k g n : Nat} {hs : List (Nat × Nat)} (h : Ma w n0 hs k n W) (hk : hs[k]? = some (g, n)) : Ma w n0 hs (k + 1) 0 W := by
  obtain ⟨ls, h1, h2, h3, h4⟩ := h
  refine ⟨ls, h1, fun j l hj hl => ?_, fun l _ j t hj => absurd hj (by omega), h4⟩
  by_cases hjk : j = k
  · subst hjk
    have := (h1.row j g n l hk hl).1
    rw [← this]
    exact h3 l hl
  · exact h2 j l (by omega) hl
theorem Ma.cell {w W : World} {n0 k i g n : Nat} {hs : List (Nat × Nat)} (h : Ma w n0 hs k i W) (hk : hs[k]? = some (g, n)) {j : Nat} (hj : j < n) : ∃ t, W.cell? ⟨g, j, none⟩ = some (.string t) ∧ W.frozen? ⟨g, j, none⟩ = false := by
  obtain ⟨ls, h1, _, _, _⟩ := h
  obtain ⟨l, hl⟩ : ∃ l, ls[k]? = some l := ⟨_, List.getElem?_eq_getElem (by have := (List.getElem?_eq_some_iff.1 hk).1; have := h1.len; omega)⟩
  obtain ⟨rfl, hr⟩ := h1.row k g n l hk hl
  have h2 := Kd.R_cell ByteArray.empty hr (j : Int) (by omega) (by omega)
  exact ⟨_, by simpa using h2.1, by simpa using h2.2⟩
theorem kH_put {W : World} {n0 g i : Nat} {ok : Nat → Prop} {v : Value} {hs : List (Nat × Nat)} {cs : Array Value} (h : kH.R 22 W n0 ok v hs) (hg : W.heap[g]? = some (.cells cs 9 (0, 0))) (u : Value) : kH.R 22 (W.setCell ⟨g, i, none⟩ u) n0 ok v hs :=
  Kd.R_mono (Kd.R_step (Kd.R_types h hg (by decide)) (fun k hk _ => Below.heap_setCell _ _ _ _ hk.2)) (fun _ hk => hk.1)
theorem Ma.block {w W : World} {n0 k i g n : Nat} {hs : List (Nat × Nat)} (h : Ma w n0 hs k i W) (hk : hs[k]? = some (g, n)) : ∃ cs, W.heap[g]? = some (.cells cs 9 (0, 0)) := by
  obtain ⟨ls, h1, _, _, _⟩ := h
  obtain ⟨l, hl⟩ : ∃ l, ls[k]? = some l := ⟨_, List.getElem?_eq_getElem (by have := (List.getElem?_eq_some_iff.1 hk).1; have := h1.len; omega)⟩
  exact Kd.R_typed (h1.row k g n l hk hl).2 g rfl
theorem mark_calls2 (k i j : Nat) (w : World) : Calls Try.prog 56 #[.int .i64 (k : Int), .int .i64 ((i : Int) + (j : Int))] w fun e w' => e = .returned (.string (mkT k (i + j))) ∧ Below w.heap.size w w' := by
  have h := mark_calls k (i + j) w
  rw [show ((i + j : Nat) : Int) = (i : Int) + (j : Int) by omega] at h
  exact h
theorem C_one (W : World) (t : ByteArray) : Kd.string.C (W.alloc (.cells #[.string t] 9)) (some ⟨W.heap.size, 0, none⟩) 1 [t] := by
  refine ⟨rfl, by omega, fun _ => ⟨_, rfl, fun j p hj => ?_⟩⟩
  have hlt := (List.getElem?_eq_some_iff.1 hj).1
  simp at hlt
  subst hlt
  simp at hj
  subst hj
  refine ⟨[.string t], rfl, rfl, fun i u hu => ?_⟩
  have hi := (List.getElem?_eq_some_iff.1 hu).1
  simp at hi
  subst hi
  simp at hu
  subst hu
  have h : (W.alloc (.cells #[.string t] 9)).cell? ⟨W.heap.size, 0, none⟩ = some (.string t) := by
    rw [cell_of_row _ _ 0 _ _ _ (heap_alloc_new W (.cells #[.string t] 9))]
    rfl
  exact h
theorem Mk.snoc {k n : Nat} {l : List ByteArray} (h : Mk k n l) (hl : l.length = n) : Mk k (n + 1) (l ++ [mkT k n]) := by
  intro j t hj ht
  by_cases hjn : j < n
  · rw [List.getElem?_append_left (by omega)] at ht
    exact h j t hjn ht
  · have e : j = n := by omega
    subst e
    rw [List.getElem?_append_right (by omega)] at ht
    simp [hl] at ht
    exact ht.symm
/-- a grown row's header: its block, its length, its room -/
abbrev kG : Kd (Nat × Nat × Nat) := Kd.scalar (fun x => .slice (some ⟨x.1, 0, none⟩) x.2.1 x.2.2) (fun _ => rfl)
/-- the first k rows, grown, and all that was there in V -/
structure Ps (V : World) (hs : List (Nat × Nat)) (k : Nat) (gh : List (Nat × Nat × Nat)) (vg : Value) (W : World) : Prop where
  len : gh.length = k
  row : kG.R 22 W V.heap.size (fun _ => True) vg gh
  each : ∀ (j g' n' c' : Nat), gh[j]? = some (g', n', c') → ∃ (g n : Nat) (l : List ByteArray), hs[j]? = some (g, n) ∧ n' = n + 64 ∧ l.length = n' ∧ Mk j n' l ∧ Kd.string.R 9 W V.heap.size (fun b => b = g') (.slice (some ⟨g', 0, none⟩) n' c') l
  bl : Below V.heap.size V W
/-- the row k on its way: as it was, or grown by i marks, in a block of its own -/
structure Gr (W2 : World) (g n k i : Nat) (v : Value) (W : World) : Prop where
  bl : Below W2.heap.size W2 W
  at_ : (i = 0 ∧ v = .slice (some ⟨g, 0, none⟩) n n) ∨ (0 < i ∧ ∃ (g' c' : Nat) (l : List ByteArray), v = .slice (some ⟨g', 0, none⟩) (n + i) c' ∧ l.length = n + i ∧ Mk k (n + i) l ∧ Kd.string.R 9 W W2.heap.size (fun _ => True) v l)
theorem hdrG {w : World} {n0 : Nat} {ok : Nat → Prop} {v : Value} {gh : List (Nat × Nat × Nat)} (h : kG.R 22 w n0 ok v gh) {k g n c : Nat} (hk : gh[k]? = some (g, n, c)) : ∃ (b cap : Nat), v = .slice (some ⟨b, 0, none⟩) gh.length cap ∧ w.cell? ⟨b, k, none⟩ = some (.slice (some ⟨g, 0, none⟩) n c) := by
  have hlt := (List.getElem?_eq_some_iff.1 hk).1
  obtain ⟨b, cap, rfl, _⟩ := Kd.R_form h (by omega)
  have h2 := (Kd.R_cell (0, 0, 0) h (k : Int) (by omega) (by omega)).1
  have : rdOf (0, 0, 0) gh (k : Int) = (g, n, c) := by simp [rdOf, List.getD_eq_getElem?_getD, hk]
  rw [this] at h2
  exact ⟨b, cap, rfl, by simpa using h2⟩
theorem mk_cell {w : World} {base g n c k i : Nat} {ok : Nat → Prop} {l : List ByteArray} (hR : Kd.string.R 9 w base ok (.slice (some ⟨g, 0, none⟩) n c) l) (hl : l.length = n) (hM : Mk k n l) (hi : i < n) : w.cell? ⟨g, i, none⟩ = some (.string (mkT k i)) := by
  subst hl
  have h2 := (Kd.R_cell ByteArray.empty hR (i : Int) (by omega) (by omega)).1
  have : rdOf ByteArray.empty l (i : Int) = mkT k i := by
    have h3 := hM i _ hi (List.getElem?_eq_getElem hi)
    simp [rdOf, List.getD_eq_getElem?_getD, List.getElem?_eq_getElem hi, h3]
  rw [this] at h2
  simpa using h2
theorem info22 : (Try.prog.info? 22).map (fun i => (i.zero, i.size, i.bytes)) = some (some (.slice none 0 0), 1, 24) := by kernel_rfl
theorem Ps.snoc {V W2 wr w6 : World} {hs : List (Nat × Nat)} {k g n g2 c2 : Nat} {gh : List (Nat × Nat × Nat)} {vg v1 : Value} {l2 : List ByteArray} (h : Ps V hs k gh vg W2) (hb1 : Below W2.heap.size W2 wr) (hk : hs[k]? = some (g, n)) (hl2 : l2.length = n + 64) (hM : Mk k (n + 64) l2) (hR : Kd.string.R 9 wr W2.heap.size (fun _ => True) (.slice (some ⟨g2, 0, none⟩) (n + 64) c2) l2)
    (ho : kG.R 22 w6 V.heap.size (fun _ => True) v1 (gh ++ [(g2, n + 64, c2)])) (hb : Below V.heap.size wr w6) (hg : wr.grownBy w6 vg.ownBlock) : Ps V hs (k + 1) (gh ++ [(g2, n + 64, c2)]) v1 w6 := by
  have hrow := Kd.R_below h.row hb1
  have fr : ∀ (g' n' c' : Nat) (l : List ByteArray), Kd.string.R 9 wr V.heap.size (fun b => b = g') (.slice (some ⟨g', 0, none⟩) n' c') l → Kd.string.R 9 w6 V.heap.size (fun b => b = g') (.slice (some ⟨g', 0, none⟩) n' c') l := fun g' n' c' l hr => by
    obtain ⟨cs, hcs⟩ := Kd.R_typed hr g' rfl
    exact Kd.R_step hr (fun b hb' hlt => by subst hb'; exact hg.block b hlt (Kd.R_ne hrow hcs (by decide)))
  refine ⟨by simp [h.len], ho, fun j g' n' c' hj => ?_, (h.bl.trans (hb1.mono h.bl.size)).trans hb⟩
  by_cases hjk : j < k
  · rw [List.getElem?_append_left (by rw [h.len]; exact hjk)] at hj
    obtain ⟨g0, n0, l, e1, e2, e3, e4, e5⟩ := h.each j g' n' c' hj
    exact ⟨g0, n0, l, e1, e2, e3, e4, fr _ _ _ _ (Kd.R_below e5 hb1)⟩
  · have hjl := (List.getElem?_eq_some_iff.1 hj).1
    simp [h.len] at hjl
    have e : j = k := by omega
    subst e
    rw [List.getElem?_append_right (by rw [h.len]; omega)] at hj
    simp [h.len] at hj
    obtain ⟨rfl, rfl, rfl⟩ := hj
    exact ⟨g, n, l2, hk, rfl, hl2, hM, fr _ _ _ _ (Kd.R_reok rfl (Kd.R_lower hR h.bl.size) (fun b hb' => by simpa [Value.ownBlock] using hb'.symm))⟩
set_option maxRecDepth 100000 in
set_option maxHeartbeats 8000000 in
theorem apart_calls (w : World) (n0 : Nat) (A : Option Addr) (c : Nat) (hs : List (Nat × Nat)) (ls : List (List ByteArray)) (hv : kH.R 22 w n0 (fun _ => True) (.slice A hs.length c) hs) (hG : Gs w n0 hs ls) (hn0 : n0 ≤ w.heap.size) (hN : hs.length ≤ 1099511627776) (hn : ∀ (k g n : Nat), hs[k]? = some (g, n) → n ≤ 1099511627776) :
    Calls Try.prog 55 #[.slice A hs.length c] w fun e w' => e = .returned (.bool true) ∧ Kp w w' (fun b => ∃ k n : Nat, hs[k]? = some (b, n)) := by
  have HV := Aside0.mk hv
  have HG := Aside0.mk hG
  have HN := Aside0.mk (And.intro hn0 (And.intro hN hn))
  clear hv hG hn0 hN hn
  go_enter Try.func55, Try.ntmps55
  go_wp2_with fail
  go_loopw [3] (fun v wr => ∃ k : Nat, v = .int .i64 (k : Int) ∧ k ≤ hs.length ∧ Aside0 (kH.R 22 wr n0 (fun _ => True) (.slice A hs.length c) hs) ∧ Aside0 (Ma w n0 hs k 0 wr)) (fun v _ => hs.length - (intOf v).toNat)
  case atStart => exact ⟨0, rfl, Nat.zero_le _, HV, ⟨ls, HG.out, fun j l hj => absurd hj (by omega), fun l _ j t hj => absurd hj (by omega), Kp.refl _ _⟩⟩
  case round =>
    obtain ⟨k, rfl, hk, HVk, HMk⟩ := hrel
    by_cases hlt : k < hs.length
    · obtain ⟨⟨g, n⟩, hgn⟩ : ∃ x, hs[k]? = some x := ⟨_, List.getElem?_eq_getElem hlt⟩
      have HK := Aside0.mk hgn
      obtain ⟨a, rfl, hc⟩ := hdr HVk.out hgn
      have hn40 := HN.out.2.2 k g n hgn
      clear hgn
      have hl2 : (k : Int) < (hs.length : Int) := by omega
      go_wp2_with fail
      go_loopw [4] (fun v wr => ∃ i : Nat, v = .int .i64 (i : Int) ∧ i ≤ n ∧ Aside0 (kH.R 22 wr n0 (fun _ => True) (.slice (some ⟨a, 0, none⟩) hs.length c) hs) ∧ Aside0 (Ma w n0 hs k i wr)) (fun v _ => n - (intOf v).toNat)
      case atStart => exact ⟨0, rfl, Nat.zero_le _, HVk, HMk⟩
      case round =>
        obtain ⟨i, rfl, hi, HVi, HMi⟩ := hrel
        obtain ⟨a', e', hci⟩ := hdr HVi.out HK.out
        cases e'
        by_cases hit : i < n
        · have hi2 : (i : Int) < (n : Int) := by omega
          obtain ⟨t0, hct, hft⟩ := HMi.out.cell HK.out hit
          have HB0 := Aside0.mk (fun X (hX : Below wr.heap.size wr X) => And.intro (pw_cell_below hX hci) (And.intro (pw_cell_below hX hct) (And.intro ((hX.frozen (p := ⟨g, i, none⟩) (World.block_lt_of_cell? _ _ hct)).trans hft) hX)))
          go_wp2_with fail
          go_region_with (go_at_call 56; refine (mark_calls k i _).mono ?_; rintro e wv ⟨rfl, hb⟩; have HBv := Aside0.mk (HB0.out wv (by first | exact hb | exact (below_drew (Below.refl _ _)).trans hb)); have k0 := HBv.out.1; have k1 := HBv.out.2.1; have k2 := HBv.out.2.2.1; clear hb)
          all_goals
            go_wp2_with fail
            have hMv := HMi.out.below HBv.out.2.2.2
            refine ⟨⟨i + 1, by simp, by omega, ⟨?_⟩, ⟨?_⟩⟩, by simp [intOf]; omega⟩
            · obtain ⟨cs, hcs⟩ := hMv.block HK.out
              exact kH_put (Kd.R_below HVi.out HBv.out.2.2.2) hcs _
            · exact hMv.put HK.out hit
        · have hkN := HN.out.2.1
          go_wp2_with fail
          go_round
          case rel => exact ⟨k + 1, by go_num, by omega, HVi, ⟨(show Ma w n0 hs k n _ by rw [show n = i by omega]; exact HMi.out).next HK.out⟩⟩
          case measure => simp [intOf]; omega
    · obtain ⟨ls2, hG2, hM2, _, hK2⟩ := HMk.out
      have hM3 : ∀ (j : Nat) (l : List ByteArray), ls2[j]? = some l → Mk j l.length l := fun j l hl => hM2 j l (by have := (List.getElem?_eq_some_iff.1 hl).1; have := hG2.len; omega) hl
      have HG2 := Aside0.mk (And.intro hG2 (And.intro hM3 hK2))
      clear hG2 hM2 hK2 hM3
      obtain ⟨V, rfl⟩ : ∃ V, V = wr := ⟨_, rfl⟩
      go_wp2_with fail
      go_loopw [5, 6] (fun v5 v6 W => ∃ (k : Nat) (gh : List (Nat × Nat × Nat)), v6 = .int .i64 (k : Int) ∧ k ≤ hs.length ∧ Aside0 (Ps V hs k gh v5 W)) (fun _ v6 _ => hs.length - (intOf v6).toNat)
      case atStart => exact ⟨0, [], rfl, Nat.zero_le _, ⟨rfl, Kd.R_nil _ _ _ _ _, fun j g n c h => by simp at h, Below.refl _ _⟩⟩
      case round =>
        obtain ⟨W2, rfl⟩ : ∃ V, V = wr := ⟨_, rfl⟩
        obtain ⟨k2, gh, rfl, hk2, HP⟩ := hrel
        by_cases hlt2 : k2 < hs.length
        · obtain ⟨⟨g, n⟩, hgn⟩ : ∃ x, hs[k2]? = some x := ⟨_, List.getElem?_eq_getElem hlt2⟩
          have HK := Aside0.mk hgn
          obtain ⟨l, hl⟩ : ∃ l, ls2[k2]? = some l := ⟨_, List.getElem?_eq_getElem (by have := HG2.out.1.len; omega)⟩
          obtain ⟨rfl, hrw⟩ := HG2.out.1.row k2 g n l hgn hl
          have HRW := Aside0.mk (And.intro hrw (HG2.out.2.1 k2 l hl))
          clear hrw hl
          obtain ⟨a, rfl, hc⟩ := hdr (Kd.R_below HVk.out HP.out.bl) hgn
          have hn40 := HN.out.2.2 k2 g l.length hgn
          clear hgn
          have hl2 : (k2 : Int) < (hs.length : Int) := by omega
          go_wp2_with fail
          go_loopw [7, 8] (fun v7 v8 W => ∃ i : Nat, v8 = .int .i64 (i : Int) ∧ i ≤ 64 ∧ Aside0 (Gr W2 g l.length k2 i v7 W)) (fun _ v8 _ => 64 - (intOf v8).toNat)
          case atStart => exact ⟨0, rfl, Nat.zero_le _, ⟨Below.refl _ _, .inl ⟨rfl, rfl⟩⟩⟩
          case round =>
            obtain ⟨i, rfl, hi, HGr⟩ := hrel
            obtain ⟨a', e', hci⟩ := hdr (Kd.R_below (Kd.R_below HVk.out HP.out.bl) HGr.out.bl) HK.out
            cases e'
            by_cases hit : i < 64
            · have hi2 : (i : Int) < 64 := by omega
              by_cases h0 : i = 0
              · subst h0
                obtain ⟨hbl, hat⟩ := HGr.out
                rcases hat with ⟨_, rfl⟩ | ⟨hc0, _⟩
                rotate_left
                · exact absurd hc0 (by omega)
                go_wp2_with fail
                refine (mark_calls k2 l.length wr).mono ?_
                rintro e wv ⟨rfl, hbv⟩
                have HBW := Aside0.mk (hbl.trans (hbv.mono hbl.size))
                clear hbl hbv
                go_wp2_with (first | ((with_reducible refine gate_builtin (b := .append) (xs := #[.tmp 50, .tmp 60]) rfl ?_); at_builtin; refine app_full (wv.alloc (.cells #[.string (mkT k2 l.length)] 9)) rfl (.tmp 50) (.tmp 60) rfl rfl (some ⟨g, 0, none⟩) l (mkT k2 l.length) (some ⟨wv.heap.size, 0, none⟩) 1 rfl rfl ?aX (C_one wv _) (by omega) ?_; (case aX => exact Kd.C_below (Kd.R_reads' (Kd.R_below (Kd.R_below HRW.out.1 HP.out.bl) HBW.out)).2.2 (below_alloc (Below.refl _ wv) _)); intro c1 w6 hR hb6; have HR6 := Aside0.mk (And.intro hR hb6); clear hR hb6))
                have hbb : Below W2.heap.size W2 w6 := HBW.out.trans (((below_alloc (Below.refl _ wv) _).trans (HR6.out.2.mono (by simp))).mono HBW.out.size)
                have h6 := HR6.out.1
                rw [show (wv.alloc (.cells #[.string (mkT k2 l.length)] 9)).heap.size = wv.heap.size + 1 by simp] at h6
                refine ⟨⟨1, by simp, by omega, ⟨⟨hbb, .inr ⟨by omega, _, c1, l ++ [mkT k2 l.length], rfl, by simp, HRW.out.2.snoc rfl, Kd.R_lower h6 (by have := HBW.out.size; omega)⟩⟩⟩⟩, by simp [intOf]⟩
              · obtain ⟨hbl, hat⟩ := HGr.out
                rcases hat with ⟨hc0, _⟩ | ⟨_, g2, c2, l2, rfl, hl2', hMk, hR⟩
                · exact absurd hc0 h0
                have HGR := Aside0.mk (And.intro hl2' (And.intro hMk (And.intro hR hbl)))
                clear hl2' hMk hR hbl
                go_wp2_with fail
                refine (mark_calls2 k2 l.length i wr).mono ?_
                rintro e wv ⟨rfl, hbv⟩
                have HBW := Aside0.mk hbv
                clear hbv
                go_wp2_with (first | ((with_reducible refine gate_builtin (b := .append) (xs := #[.tmp 50, .tmp 60]) rfl ?_); at_builtin; refine Kd.R_append Kd.string (w0 := wv) W2.heap.size rfl (.tmp 50) (.tmp 60) 22 9 (.string ⟨#[]⟩) 16 rfl Try.underlying22 info9 rfl (by decide) (by omega) (.slice (some ⟨g2, 0, none⟩) (l.length + i) c2) l2 (mkT k2 (l.length + i)) [.string (mkT k2 (l.length + i))] (fun _ => True) (fun _ => False) rfl rfl rfl (fun _ h => h.elim) (fun _ _ => trivial) ?aO (Below.refl _ _) ?aS ?aL ?_; (case aO => exact Kd.R_below HGR.out.2.2.1 HBW.out); (case aS => exact Nat.le_trans HGR.out.2.2.2.size HBW.out.size); (case aL => have := HGR.out.1; omega); intro v1 w6 ho hb hg hat; obtain ⟨g3, c3, rfl, _, _, _⟩ := Kd.R_form ho (by simp); have HR6 := Aside0.mk (And.intro ho hb); clear ho hb hg hat))
                have h6 := HR6.out.1
                rw [show (l2 ++ [mkT k2 (l.length + i)]).length = l2.length + 1 by simp] at h6
                refine ⟨⟨i + 1, by simp, by omega, ⟨⟨(HGR.out.2.2.2.trans (HBW.out.mono HGR.out.2.2.2.size)).trans HR6.out.2, .inr ⟨by omega, g3, c3, l2 ++ [mkT k2 (l.length + i)], ?_, ?_, HGR.out.2.1.snoc HGR.out.1, h6⟩⟩⟩⟩, by simp [intOf]; omega⟩
                · rw [HGR.out.1]; rfl
                · rw [List.length_append, HGR.out.1]; rfl
            · obtain rfl : i = 64 := by omega
              obtain ⟨hbl, hat⟩ := HGr.out
              rcases hat with ⟨hc0, _⟩ | ⟨_, g2, c2, l2, rfl, hl2', hMk, hR⟩
              · exact absurd hc0 (by omega)
              have HGR := Aside0.mk (And.intro hl2' (And.intro hMk (And.intro hR hbl)))
              clear hl2' hMk hR hbl
              have hkN := HN.out.2.1
              go_wp2_with (first | ((with_reducible refine gate_builtin (b := .append) (xs := #[.tmp 62, .tmp 64]) rfl ?_); at_builtin; refine Kd.R_append kG (w0 := wr) V.heap.size rfl (.tmp 62) (.tmp 64) 85 22 (.slice none 0 0) 24 rfl Try.underlying85 info22 rfl (by decide) (by omega) u5 gh (g2, l.length + 64, c2) [.slice (some ⟨g2, 0, none⟩) (l.length + 64) c2] (fun _ => True) (fun _ => False) rfl rfl rfl (fun _ h => h.elim) (fun _ _ => trivial) ?aO (Below.refl _ _) ?aS ?aL ?_; (case aO => exact Kd.R_below HP.out.row HGR.out.2.2.2); (case aS => exact Nat.le_trans HP.out.bl.size HGR.out.2.2.2.size); (case aL => have := HP.out.len; have := HN.out.2.1; omega); intro v1 w6 ho hb hg hat; have HR6 := Aside0.mk (And.intro ho (And.intro hb hg)); clear ho hb hg hat))
              refine ⟨⟨k2 + 1, gh ++ [(g2, l.length + 64, c2)], by go_num, by omega, ⟨HP.out.snoc HGR.out.2.2.2 HK.out HGR.out.1 HGR.out.2.1 HGR.out.2.2.1 HR6.out.1 HR6.out.2.1 HR6.out.2.2⟩⟩, by simp [intOf]; omega⟩
        · obtain rfl : k2 = hs.length := by omega
          go_wp2_with fail
          go_loopw [9] (fun v W => ∃ k : Nat, v = .int .i64 (k : Int) ∧ k ≤ hs.length ∧ Aside0 (Below W2.heap.size W2 W)) (fun v _ => hs.length - (intOf v).toNat)
          case atStart => exact ⟨0, rfl, Nat.zero_le _, ⟨Below.refl _ _⟩⟩
          case round =>
            obtain ⟨k3, rfl, hk3, HB3⟩ := hrel
            by_cases hlt3 : k3 < hs.length
            · obtain ⟨⟨g, n⟩, hgn⟩ : ∃ x, hs[k3]? = some x := ⟨_, List.getElem?_eq_getElem hlt3⟩
              obtain ⟨l, hl⟩ : ∃ l, ls2[k3]? = some l := ⟨_, List.getElem?_eq_getElem (by have := HG2.out.1.len; omega)⟩
              obtain ⟨rfl, hrw⟩ := HG2.out.1.row k3 g n l hgn hl
              obtain ⟨⟨g2, n2, c2⟩, hg2⟩ : ∃ x, gh[k3]? = some x := ⟨_, List.getElem?_eq_getElem (by have := HP.out.len; omega)⟩
              obtain ⟨g0, n0', l2, e1, e2, e3, e4, e5⟩ := HP.out.each k3 g2 n2 c2 hg2
              rw [hgn] at e1
              cases e1
              subst e2
              have HRW := Aside0.mk (And.intro (Kd.R_below hrw HP.out.bl) (And.intro (HG2.out.2.1 k3 l hl) (And.intro e3 (And.intro e4 e5))))
              have HA := Aside0.mk (fun X (hX : Below W2.heap.size W2 X) => hdr (Kd.R_below (Kd.R_below HVk.out HP.out.bl) hX) hgn)
              obtain ⟨b, cap, e6, _⟩ := hdrG HP.out.row hg2
              subst e6
              have HBG := Aside0.mk (fun X (hX : Below W2.heap.size W2 X) => hdrG (Kd.R_below HP.out.row hX) hg2)
              obtain ⟨a, rfl, hc⟩ := HA.out _ HB3.out
              obtain ⟨_, _, e7, hcg⟩ := HBG.out _ HB3.out
              cases e7
              have hn40 := HN.out.2.2 k3 g l.length hgn
              have hlg : gh.length = hs.length := HP.out.len
              have HLG := Aside0.mk hlg
              clear hgn hl hrw hg2 e3 e4 e5
              have hl3 : (k3 : Int) < (hs.length : Int) := by omega
              have hl4 : (k3 : Int) < (gh.length : Int) := by omega
              clear hlg
              have hkN := HN.out.2.1
              go_wp2_with fail
              go_loopw [10] (fun v W => ∃ i : Nat, v = .int .i64 (i : Int) ∧ i ≤ l.length + 64 ∧ Aside0 (Below W2.heap.size W2 W)) (fun v _ => l.length + 64 - (intOf v).toNat)
              case atStart => exact ⟨0, rfl, Nat.zero_le _, HB3⟩
              case round =>
                obtain ⟨i, rfl, hi, HBi⟩ := hrel
                obtain ⟨_, e8, hc5⟩ := HA.out _ HBi.out
                cases e8
                obtain ⟨_, _, e9, hc6⟩ := HBG.out _ HBi.out
                cases e9
                by_cases hit : i < l.length + 64
                · have hi2 : (i : Int) < ((l.length + 64 : Nat) : Int) := by omega
                  have hi3 : (i : Int) < (l.length : Int) + 64 := by omega
                  go_wp2_with fail
                  refine (mark_calls k3 i wr).mono ?_
                  rintro e wv ⟨rfl, hbv⟩
                  have hBv : Below W2.heap.size W2 wv := HBi.out.trans (hbv.mono HBi.out.size)
                  have HBV := Aside0.mk hBv
                  clear hbv hc5 hc6
                  obtain ⟨_, e8, hc5⟩ := HA.out _ hBv
                  cases e8
                  obtain ⟨_, _, e9, hc6⟩ := HBG.out _ hBv
                  cases e9
                  have hc7 := mk_cell (Kd.R_below HRW.out.2.2.2.2 hBv) HRW.out.2.2.1 HRW.out.2.2.2.1 hit
                  have hbq : ((mkT k3 i).toList != (mkT k3 i).toList) = false := by simp
                  by_cases hil : i < l.length
                  · have hi4 : (i : Int) < (l.length : Int) := by omega
                    have hc8 := mk_cell (Kd.R_below HRW.out.1 hBv) rfl HRW.out.2.1 hil
                    clear hBv
                    go_wp2_with fail
                    refine ⟨⟨i + 1, by simp, by omega, HBV⟩, by simp [intOf]; omega⟩
                  · have hi4 : ¬ (i : Int) < (l.length : Int) := by omega
                    clear hBv
                    go_wp2_with fail
                    refine ⟨⟨i + 1, by simp, by omega, HBV⟩, by simp [intOf]; omega⟩
                · go_wp2_with fail
                  refine ⟨⟨k3 + 1, by go_num, by omega, HBi⟩, by simp [intOf]; omega⟩
            · go_wp2_with fail
              go_ret
              exact ⟨rfl, HG2.out.2.2.trans (S' := fun _ => False) ⟨(HP.out.bl.trans (HB3.out.mono HP.out.bl.size)).os, (HP.out.bl.trans (HB3.out.mono HP.out.bl.size)).tape, (HP.out.bl.trans (HB3.out.mono HP.out.bl.size)).output, (HP.out.bl.trans (HB3.out.mono HP.out.bl.size)).size, fun k hk _ => (HP.out.bl.trans (HB3.out.mono HP.out.bl.size)).block k hk⟩ (fun j hj => hj.elim)⟩
end Go.Proofs.Ytijmhegccakndaa
