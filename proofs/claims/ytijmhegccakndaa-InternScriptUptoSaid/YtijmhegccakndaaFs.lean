/-
  append to a full slice of texts: a new row. Rows of texts that lie apart, by their headers.
-/
import Derived.Test.YtijmhegccakndaaOne
namespace Go.Proofs.Ytijmhegccakndaa
open Go.RowKit
open Go.Proofs.YtijmhegccakndaaW.PrintWords Go.Proofs.YtijmhegccakndaaW.PrintMore

theorem strs_len (l : List ByteArray) : (encs Value.string l).length = l.length := by simp [encs]
theorem C_inner (w : World) (A : Addr) (l : List ByteArray) (h : Kd.string.C w (some A) l.length l) : ∀ (j : Nat) (u : Value), (encs Value.string l)[j]? = some u → w.cell? (A.add j) = some u := by
  intro j u hu
  simp only [encs, List.getElem?_map, Option.map_eq_some_iff] at hu
  obtain ⟨t, ht, rfl⟩ := hu
  have hlt := (List.getElem?_eq_some_iff.1 ht).1
  obtain ⟨ad, e, hx⟩ := Kd.at_string h (j : Int) (by omega) (by omega)
  cases e
  have : rdOf ByteArray.empty l (j : Int) = t := by simp [rdOf, List.getD_eq_getElem?_getD, ht]
  rw [this] at hx
  simpa using hx
theorem full_run (W : World) (A : Option Addr) (xs : List ByteArray) (y : ByteArray) (hx : Kd.string.C W A xs.length xs) (B : Option Addr) (c : Nat) (hy : Kd.string.C W B 1 [y]) (hl : (xs.length + 1) * 16 ≤ 140737488355328) :
    ∃ c1 w1, (Builtin.append_ #[22, 22] 22 #[.slice A xs.length xs.length, .slice B 1 c]).run Try.prog W = .ok (.slice (some ⟨W.heap.size, 0, none⟩) (xs.length + 1) c1) w1 ∧ Kd.string.R 9 w1 W.heap.size (fun _ => True) (.slice (some ⟨W.heap.size, 0, none⟩) (xs.length + 1) c1) (xs ++ [y]) ∧ Below W.heap.size W w1 := by
  obtain ⟨i0, hi, hzz⟩ := Option.map_eq_some_iff.1 info9
  simp only [Prod.mk.injEq] at hzz
  obtain ⟨hz0, hz1, hz2⟩ := hzz
  have ht := Try.underlying22
  obtain ⟨b, rfl, _⟩ := hy.2.2 (by omega)
  have hnc := C_inner W b [y] hy
  have hrow : ∀ sCap, sCap < xs.length + 1 → Kd.string.R 9 (W.drew.alloc (.cells ((encs Value.string xs).toArray ++ (encs Value.string [y]).toArray ++ Builtin.zeroCells (Value.string ⟨#[]⟩).cells (grownCap W (xs.length + 1) sCap 9 - (xs.length + 1))) 9)) W.heap.size (fun _ => True) (.slice (some ⟨W.heap.size, 0, none⟩) (xs.length + 1) (grownCap W (xs.length + 1) sCap 9)) (xs ++ [y]) := by
    intro sCap _
    have hge := grownCap_ge W (xs.length + 1) sCap 9
    have hcm : grownCap W (xs.length + 1) sCap 9 ≤ maxLen := grownCap_le_maxLen W (xs.length + 1) sCap 9 (by simp only [maxLen]; omega)
    refine Kd.R_of_own ?_ (fun _ _ => trivial)
    have hlen : (xs ++ [y]).length = xs.length + 1 := by simp
    rw [hlen]
    refine ⟨by simp [encs], .inr ⟨W.heap.size, _, _, rfl, Nat.le_refl _, heap_alloc_new W.drew _, hge, hcm, ?_, ?_⟩⟩
    · simp only [Array.size_append, List.size_toArray, size_zeroCells, strs_len, List.length_singleton]
      show xs.length + 1 + _ * 1 = _ * 1
      omega
    · simp only [Array.toList_append, List.append_assoc, encs, List.map_append, List.map_cons, List.map_nil]
      rw [← List.append_assoc]
      have : (List.map Value.string xs ++ [Value.string y]).length = (xs.length + 1) * 1 := by simp
      rw [← this]
      exact List.take_left
  have hw : (1 : Nat) = 1 * i0.size := by rw [hz1]
  rcases A with _ | a
  · have hx0 : xs = [] := by
      rcases Nat.eq_zero_or_pos xs.length with h0 | h0
      · exact List.eq_nil_of_length_eq_zero h0
      · obtain ⟨ad, h, _⟩ := hx.2.2 h0
        cases h
    subst hx0
    have hr := run_append_nil (P := Try.prog) (w := W) 22 22 9 i0 _ ht hi hz0 b 1 c (encs Value.string [y]) (by rw [hz1]; rfl) hnc (by omega) (by omega) (by rw [hz2]; omega)
    have hC := hrow 0 (by simp)
    simp only [List.length_nil, Nat.zero_add, List.nil_append, encs, List.map_nil, Array.empty_append] at hC hr ⊢
    exact ⟨_, _, hr, hC, below_alloc (below_drew (Below.refl _ _)) _⟩
  · have hoc := C_inner W a xs hx
    have hr := run_append_grow (P := Try.prog) (w := W) 22 22 9 i0 _ ht hi hz0 a xs.length xs.length (encs Value.string xs) (by rw [hz1, strs_len]; omega) hoc b 1 c (encs Value.string [y]) (by rw [hz1]; rfl) hnc (by omega) (by omega) (growslice_fits (by omega) (by rw [hz2]; omega))
    exact ⟨_, _, hr, hrow xs.length (by omega), below_alloc (below_drew (Below.refl _ _)) _⟩
section
variable {ops : Array Oper} {rest : List Oper} {o : Oper} {a : Act} {Q : Exit → Act → World → Prop}
/-- append(x, t), x full and only read, t laid in the last block -/
theorem app_full (W : World) (hgd : o.guard = none) (s x : Operand) (ho : o.op = .call { callee := .builtin .append, args := #[s, x], argTypes := #[22, 22] }) (hty : o.type = 22)
    (A : Option Addr) (xs : List ByteArray) (y : ByteArray) (B : Option Addr) (c : Nat) (hs : a.eval s = .slice A xs.length xs.length) (hx : a.eval x = .slice B 1 c)
    (hX : Kd.string.C W A xs.length xs) (hY : Kd.string.C W B 1 [y]) (hl : (xs.length + 1) * 16 ≤ 140737488355328)
    (h : ∀ c1 w1, Kd.string.R 9 w1 W.heap.size (fun _ => True) (.slice (some ⟨W.heap.size, 0, none⟩) (xs.length + 1) c1) (xs ++ [y]) → Below W.heap.size W w1 → wpList Try.prog ops Q rest (a.put o.dst (.slice (some ⟨W.heap.size, 0, none⟩) (xs.length + 1) c1)) w1) :
    wpList Try.prog ops Q (o :: rest) a W := by
  obtain ⟨c1, w1, hr, hC, hb⟩ := full_run W A xs y hX B c hY hl
  refine wpList_plain hgd fun K hK => ?_
  unfold Oper.wp execOp
  simp only [ho, hty, resolve, invoke, builtin, Sem.run_bind, Sem.run_pure, Result.andThen_ok, List.map_toArray, List.map_cons, List.map_nil, hs, hx, hr]
  exact hK _ _ (h c1 w1 hC hb)
end

/-- rows of texts that lie apart: by the header (g, n), the texts -/
structure Gs (w : World) (n0 : Nat) (hs : List (Nat × Nat)) (ls : List (List ByteArray)) : Prop where
  len : hs.length = ls.length
  row : ∀ (k g n : Nat) (l : List ByteArray), hs[k]? = some (g, n) → ls[k]? = some l → n = l.length ∧ Kd.string.R 9 w n0 (fun b => b = g) (.slice (some ⟨g, 0, none⟩) n n) l
  ap : ∀ (i j g n g' n' : Nat), hs[i]? = some (g, n) → hs[j]? = some (g', n') → i ≠ j → g ≠ g'
theorem Gs.kept {w w' : World} {n0 : Nat} {hs : List (Nat × Nat)} {ls : List (List ByteArray)} (h : Gs w n0 hs ls) (hk : ∀ (k g n : Nat), hs[k]? = some (g, n) → g < w.heap.size → w'.heap[g]? = w.heap[g]?) : Gs w' n0 hs ls :=
  ⟨h.len, fun k g n l h1 h2 => ⟨(h.row k g n l h1 h2).1, Kd.R_step (h.row k g n l h1 h2).2 (fun b hb hlt => by subst hb; exact hk k b n h1 hlt)⟩, h.ap⟩
theorem Gs.below {w w' : World} {n0 : Nat} {hs : List (Nat × Nat)} {ls : List (List ByteArray)} (h : Gs w n0 hs ls) (hb : Below w.heap.size w w') : Gs w' n0 hs ls := h.kept fun _ _ _ _ hlt => hb.block _ hlt
theorem Gs.lt {w : World} {n0 : Nat} {hs : List (Nat × Nat)} {ls : List (List ByteArray)} (h : Gs w n0 hs ls) {k g n : Nat} (hk : hs[k]? = some (g, n)) : n0 ≤ g ∧ g < w.heap.size := by
  obtain ⟨l, hl⟩ : ∃ l, ls[k]? = some l := ⟨_, List.getElem?_eq_getElem (by have := (List.getElem?_eq_some_iff.1 hk).1; have := h.len; omega)⟩
  have hr := (h.row k g n l hk hl).2
  exact ⟨Kd.R_base hr g rfl, Kd.R_lt hr g rfl⟩
/-- one text of one row is written -/
theorem Gs.put {w : World} {n0 : Nat} {hs : List (Nat × Nat)} {ls : List (List ByteArray)} (h : Gs w n0 hs ls) {k g n : Nat} {l : List ByteArray} (hk : hs[k]? = some (g, n)) (hl : ls[k]? = some l) (i : Nat) (m : ByteArray) : Gs (w.setCell ⟨g, i, none⟩ (.string m)) n0 hs (ls.set k (l.set i m)) := by
  obtain ⟨rfl, hr⟩ := h.row k g n l hk hl
  refine ⟨by rw [List.length_set]; exact h.len, fun j g' n' l' h1 h2 => ?_, h.ap⟩
  by_cases hj : k = j
  · subst hj
    rw [hk] at h1
    cases h1
    rw [List.getElem?_set_self (List.getElem?_eq_some_iff.1 hl).1] at h2
    cases h2
    have hp := (Kd.R_put (enc := Value.string) (h1 := fun _ => rfl) hr (i : Int) m).1
    exact ⟨by rw [List.length_set], hp⟩
  · rw [List.getElem?_set_ne hj] at h2
    obtain ⟨e, hr2⟩ := h.row j g' n' l' h1 h2
    exact ⟨e, Kd.R_step hr2 (fun b hb _ => by subst hb; exact Below.heap_setCell _ _ _ _ (h.ap j k b n' g l.length h1 hk (fun e => hj e.symm)))⟩
/-- one row more, in a block of its own -/
theorem Gs.snoc {w w' : World} {n0 g : Nat} {hs : List (Nat × Nat)} {ls : List (List ByteArray)} {l : List ByteArray} (h : Gs w n0 hs ls) (hb : Below w.heap.size w w') (hg : w.heap.size ≤ g) (hr : Kd.string.R 9 w' n0 (fun _ => True) (.slice (some ⟨g, 0, none⟩) l.length l.length) l) : Gs w' n0 (hs ++ [(g, l.length)]) (ls ++ [l]) := by
  have h2 := h.below hb
  refine ⟨by simp [h.len], fun j g' n' l' h1 h3 => ?_, fun i j g1 m1 g2 m2 h1 h3 hij => ?_⟩
  · by_cases hj : j < hs.length
    · rw [List.getElem?_append_left hj] at h1
      rw [List.getElem?_append_left (by have := h.len; omega)] at h3
      exact h2.row j g' n' l' h1 h3
    · rw [List.getElem?_append_right (by omega)] at h1
      rw [List.getElem?_append_right (by have := h.len; omega)] at h3
      have hj0 : j - hs.length = 0 := by have := (List.getElem?_eq_some_iff.1 h1).1; simp at this; omega
      have hj1 : j - ls.length = 0 := by have := h.len; omega
      rw [hj0] at h1
      rw [hj1] at h3
      simp at h1 h3
      obtain ⟨rfl, rfl⟩ := h1
      subst h3
      exact ⟨rfl, Kd.R_reok rfl hr (fun k hk => by simpa [Value.ownBlock] using hk.symm)⟩
  · have hlt := fun {k g n} (hk : hs[k]? = some (g, n)) => (h.lt hk).2
    by_cases hi : i < hs.length
    · rw [List.getElem?_append_left hi] at h1
      by_cases hj : j < hs.length
      · rw [List.getElem?_append_left hj] at h3
        exact h.ap i j g1 m1 g2 m2 h1 h3 hij
      · rw [List.getElem?_append_right (by omega)] at h3
        have hj0 : j - hs.length = 0 := by have := (List.getElem?_eq_some_iff.1 h3).1; simp at this; omega
        rw [hj0] at h3
        simp at h3
        have := hlt h1
        omega
    · rw [List.getElem?_append_right (by omega)] at h1
      have hi0 : i - hs.length = 0 := by have := (List.getElem?_eq_some_iff.1 h1).1; simp at this; omega
      rw [hi0] at h1
      simp at h1
      by_cases hj : j < hs.length
      · rw [List.getElem?_append_left hj] at h3
        have := hlt h3
        omega
      · rw [List.getElem?_append_right (by omega)] at h3
        have hj0 : j - hs.length = 0 := by have := (List.getElem?_eq_some_iff.1 h3).1; simp at this; omega
        omega
end Go.Proofs.Ytijmhegccakndaa
