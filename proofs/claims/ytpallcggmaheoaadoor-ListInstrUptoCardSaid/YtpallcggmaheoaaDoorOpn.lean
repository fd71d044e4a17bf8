/-
  What an argument reads as, by its kind: whole numbers, bools, texts, structs, slices, and slices in structs, with a measure of what was read.
-/
import Derived.Test.YtpallcggmaheoaaDoorRows
import Derived.Test.YtpallcggmaheoaaDoorWWords
import Derived.SliceStrings
import Derived.DataElems
namespace Go.Proofs.YtpallcggmaheoaaDoor
open Go.RowKit Go.WideShapes Go.ChangeShapes
open Go.Proofs.YtpallcggmaheoaaDoorW.PrintWords

section
variable {α β : Type} {H : Type} {P : Program}
/-- a value of type t that can be read holds an a, whose measure is at most the bulk of what was read -/
def Opn (H : Type) (P : Program) (d : Kd α) (t : TypeId) (bk : α → Nat) (ok : α → Prop) : Prop :=
  P.cellsOf t = d.sz ∧ ∀ (enc : TypeId × Value → H) (w : World) (base : Nat) (spare : Nat → Bool) (held : Bool) (fuel : Nat) (cs : List Value) (x : DataW H × List MemPlace),
    DataW.trod enc P w base spare held fuel t cs = some x → ∃ a, d.K w a cs ∧ bk a ≤ Rows.uptoBulk x.1 ∧ ok a
theorem bulkAll_map (xs : List (DataW H)) : Rows.uptoBulkAll xs = (xs.map Rows.uptoBulk).sum := by
  induction xs with
  | nil => simp [Rows.uptoBulkAll]
  | cons d r ih => simp [Rows.uptoBulkAll, ih]
theorem opn_int {k : IntKind} {t : TypeId} (hu : P.underlying t = some (.int k)) (hc : P.cellsOf t = 1) : Opn H P (Kd.int k) t (fun _ => 1) (fun a => (Lit.int k a).wf = true) := by
  refine ⟨hc, fun enc w base spare held fuel cs x h => ?_⟩
  obtain ⟨n, rfl, rfl, hw⟩ := DataW.trod_int hu h
  exact ⟨n, rfl, by simp [Rows.uptoBulk], hw⟩
theorem opn_bool {t : TypeId} (hu : P.underlying t = some .bool) (hc : P.cellsOf t = 1) : Opn H P Kd.bool t (fun _ => 1) (fun _ => True) := by
  refine ⟨hc, fun enc w base spare held fuel cs x h => ?_⟩
  obtain ⟨n, rfl, rfl⟩ := DataW.trod_bool hu h
  exact ⟨n, rfl, by simp [Rows.uptoBulk], trivial⟩
theorem opn_string {t : TypeId} (hu : P.underlying t = some .string) (hc : P.cellsOf t = 1) : Opn H P Kd.string t (fun s => s.size + 1) (fun s => s.size ≤ maxLen) := by
  refine ⟨hc, fun enc w base spare held fuel cs x h => ?_⟩
  obtain ⟨s, rfl, rfl, hw⟩ := DataW.trod_string hu h
  refine ⟨s, rfl, ?_, hw⟩
  have e : s.data.toList.length = s.size := by rw [Array.length_toList]; rfl
  simp [Rows.uptoBulk]
theorem rows_of {Φ : Nat → α → Prop} : ∀ n : Nat, (∀ i, i < n → ∃ a, Φ i a) → ∃ xs : List α, xs.length = n ∧ ∀ i a, xs[i]? = some a → Φ i a := by
  intro n
  induction n with
  | zero => intro _; exact ⟨[], rfl, fun i a h => by simp at h⟩
  | succ n ih =>
    intro h
    obtain ⟨xs, hl, hx⟩ := ih fun i hi => h i (by omega)
    obtain ⟨a, ha⟩ := h n (by omega)
    refine ⟨xs ++ [a], by simp [hl], fun i b hb => ?_⟩
    by_cases hi : i < n
    · rw [List.getElem?_append_left (by omega)] at hb
      exact hx i b hb
    · have hlt := (List.getElem?_eq_some_iff.1 hb).1
      simp at hlt
      have : i = xs.length := by omega
      subst this
      simp at hb
      subst hb
      rw [hl]
      exact ha
theorem sum_le {f : α → Nat} {g : β → Nat} : ∀ (xs : List α) (ys : List β), xs.length = ys.length → (∀ (i : Nat) (a : α) (b : β), xs[i]? = some a → ys[i]? = some b → f a ≤ g b) → (xs.map f).sum ≤ (ys.map g).sum := by
  intro xs
  induction xs with
  | nil => intro ys _ _; simp
  | cons a xs ih =>
    intro ys hl h
    cases ys with
    | nil => simp at hl
    | cons b ys =>
      have h1 := h 0 a b rfl rfl
      have h2 := ih ys (by simpa using hl) fun i a b ha hb => h (i + 1) a b (by simpa using ha) (by simpa using hb)
      simp
      omega
theorem opn_slice {d : Kd α} {t e : TypeId} {bk : α → Nat} {ok : α → Prop} (h : Opn H P d e bk ok) (hu : P.underlying t = some (.slice e)) (hc : P.cellsOf t = 1) :
    Opn H P (Kd.slice e d) t (fun xs => (xs.map bk).sum + 1) (fun xs => ∀ a, a ∈ xs → ok a) := by
  refine ⟨hc, fun enc w base spare held fuel cs x hx => ?_⟩
  rcases DataW.trod_slice hu hx with ⟨rfl, rfl⟩ | ⟨a, len, cap, elems, rest, n, _, rfl, rfl, _, hl, hm, hlen, hel, _, _⟩
  · exact ⟨[], ⟨none, 0, rfl, Nat.le_refl _, Kd.C_nil _ _⟩, by simp [Rows.uptoBulk], fun a ha => by cases ha⟩
  · have each : ∀ i, i < len → ∃ x : α, ∃ c y, elems[i]? = some y ∧ c.length = d.sz ∧ d.K w x c ∧ (∀ j u, c[j]? = some u → w.cell? (a.add (i * d.sz + j)) = some u) ∧ bk x ≤ Rows.uptoBulk y.1 ∧ ok x := by
      intro i hi
      obtain ⟨y, hy⟩ : ∃ y, elems[i]? = some y := ⟨_, List.getElem?_eq_getElem (by omega)⟩
      have h1 := hel i hi
      rw [hy, Option.bind_eq_some_iff] at h1
      obtain ⟨c, hcs, ht⟩ := h1
      obtain ⟨_, hcl, hcc⟩ := World.cells?_some hcs
      obtain ⟨x, hK, hb, ho⟩ := h.2 enc w base spare held n c y ht
      refine ⟨x, c, y, hy, hcl.trans h.1, hK, fun j u hu' => ?_, hb, ho⟩
      have hj := (List.getElem?_eq_some_iff.1 hu').1
      rw [← h.1, ← Addr.add_add, hcc j (by omega), hu']
    obtain ⟨xs, hxl, hxs⟩ := rows_of len each
    refine ⟨xs, ⟨some a, cap, by rw [hxl], by omega, rfl, by rw [hxl]; simp only [maxLen] at hm; omega, fun _ => ⟨a, rfl, fun j p hj => ?_⟩⟩, ?_, fun p hp => ?_⟩
    · obtain ⟨c, y, _, h1, h2, h3, _, _⟩ := hxs j p hj
      exact ⟨c, h1, h2, h3⟩
    · have hs := sum_le (f := bk) (g := Rows.uptoBulk (H := H)) xs (elems.map (·.1)) (by simp [hxl, hlen]) fun i p q hp hq => by
        obtain ⟨c, y, hy, _, _, _, hb, _⟩ := hxs i p hp
        rw [List.getElem?_map, hy] at hq
        simp at hq
        subst hq
        exact hb
      simp only [Rows.uptoBulk, bulkAll_map]
      omega
    · obtain ⟨j, hj⟩ := List.mem_iff_getElem?.1 hp
      obtain ⟨c, y, _, _, _, _, _, ho⟩ := hxs j p hj
      exact ho
/-- fields one behind the other -/
def OpnF (H : Type) (P : Program) (d : Kd α) (off : Nat) (fs : List Field) (bk : α → Nat) (ok : α → Prop) : Prop :=
  ∀ (enc : TypeId × Value → H) (w : World) (base : Nat) (spare : Nat → Bool) (held : Bool) (n : Nat) (cs : List Value) (xs : List (DataW H × List MemPlace)), xs.length = fs.length →
    (∀ (i : Nat) (f : Field), fs[i]? = some f → DataW.trod enc P w base spare held n f.type ((cs.drop f.offset).take (P.cellsOf f.type)) = xs[i]?) →
    ∃ a, d.K w a ((cs.drop off).take d.sz) ∧ bk a ≤ (xs.map fun x => Rows.uptoBulk x.1).sum ∧ ok a
theorem opnF_one {d : Kd α} {f : Field} {bk : α → Nat} {ok : α → Prop} (h : Opn H P d f.type bk ok) : OpnF H P d f.offset [f] bk ok := by
  intro enc w base spare held n cs xs hl hx
  match xs, hl with
  | [y], _ =>
    obtain ⟨a, h1, h2, h3⟩ := h.2 enc w base spare held n _ y (by simpa using hx 0 f rfl)
    rw [h.1] at h1
    exact ⟨a, h1, by simpa using h2, h3⟩
theorem opnF_cons {d : Kd α} {d' : Kd β} {f : Field} {fs : List Field} {bk : α → Nat} {ok : α → Prop} {bk' : β → Nat} {ok' : β → Prop} (h : Opn H P d f.type bk ok) (h' : OpnF H P d' (f.offset + d.sz) fs bk' ok') :
    OpnF H P (Kd.pair d d') f.offset (f :: fs) (fun x => bk x.1 + bk' x.2) (fun x => ok x.1 ∧ ok' x.2) := by
  intro enc w base spare held n cs xs hl hx
  match xs, hl with
  | y :: ys, hl =>
    obtain ⟨a, h1, h2, h3⟩ := h.2 enc w base spare held n _ y (by simpa using hx 0 f rfl)
    rw [h.1] at h1
    obtain ⟨b, g1, g2, g3⟩ := h' enc w base spare held n cs ys (by simpa using hl) fun i f' hf => by simpa using hx (i + 1) f' (by simpa using hf)
    refine ⟨(a, b), ⟨_, _, ?_, h1, g1⟩, by simp; omega, h3, g3⟩
    show (cs.drop f.offset).take (d.sz + d'.sz) = _
    rw [List.take_add, List.drop_drop]
theorem opn_struct {d : Kd α} {t : TypeId} {fs : Array Field} {bk : α → Nat} {ok : α → Prop} (hu : P.underlying t = some (.struct fs)) (hc : P.cellsOf t = d.sz) (h : OpnF H P d 0 fs.toList bk ok) : Opn H P d t (fun a => bk a + 1) ok := by
  refine ⟨hc, fun enc w base spare held fuel cs x hx => ?_⟩
  obtain ⟨xs, n, _, rfl, hl, hlen, hf⟩ := DataW.trod_struct hu hx
  obtain ⟨a, h1, h2, h3⟩ := h enc w base spare held n cs xs (by simpa using hlen) fun i f hi => hf i f (by simpa using hi)
  rw [List.drop_zero, List.take_of_length_le (by omega)] at h1
  refine ⟨a, h1, ?_, h3⟩
  simp only [Rows.uptoBulk, bulkAll_map, List.map_map]
  exact Nat.succ_le_succ h2
theorem opn_iso {d : Kd α} {t : TypeId} {bk : α → Nat} {ok : α → Prop} (h : Opn H P d t bk ok) (f : β → α) (g : α → β) (hfg : ∀ a, f (g a) = a) : Opn H P (Kd.iso d f) t (fun b => bk (f b)) (fun b => ok (f b)) := by
  refine ⟨h.1, fun enc w base spare held fuel cs x hx => ?_⟩
  obtain ⟨a, h1, h2, h3⟩ := h.2 enc w base spare held fuel cs x hx
  exact ⟨g a, by show d.K w (f (g a)) cs; rw [hfg]; exact h1, by show bk (f (g a)) ≤ _; rw [hfg]; exact h2, by show ok (f (g a)); rw [hfg]; exact h3⟩
theorem sum_length {f : α → Nat} (hf : ∀ a, 1 ≤ f a) : ∀ xs : List α, xs.length ≤ (xs.map f).sum := by
  intro xs
  induction xs with
  | nil => simp
  | cons a xs ih => have := hf a; simp; omega
end
end Go.Proofs.YtpallcggmaheoaaDoor
