/-
  An index of any of the law's kinds of things: what stays, what a new thing leaves.
-/
import Derived.Test.YtijmhegccakndaaKt
namespace Go.Proofs.Ytijmhegccakndaa
open Go.RowKit Go.Maps Go.WideMaps
open Go.ChangeMaps (setBlock)
open Go.Proofs.YtijmhegccakndaaW.PrintWords Go.Proofs.YtijmhegccakndaaW.PrintMore
variable {K : KT}

theorem IxK.kept {w w' : World} {b bm : Nat} {v : Value} {D : DataW Unit} {row : List Nat} (h : IxK K w b bm v D row) (hk : ∀ k, Ix.S b bm v k → w'.heap[k]? = w.heap[k]?) : IxK K w' b bm v D row := by
  refine ⟨(hk b (.inl rfl)).trans h.block, ?_, h.agree, ?_⟩
  · obtain ⟨es, cl, hb, F, hs, hD⟩ := h.map
    exact ⟨es, cl, (hk bm (.inr (.inl rfl))).trans hb, F, hs, hD⟩
  · obtain ⟨h1, h2⟩ := h.items
    refine ⟨h1, ?_⟩
    rcases h2 with h2 | ⟨g, cap, cur, hv, hb, hg, rest⟩
    · exact .inl h2
    · exact .inr ⟨g, cap, cur, hv, hb, (hk g (.inr (.inr (by rw [hv]; rfl)))).trans hg, rest⟩
theorem IxK.lt {w : World} {b bm : Nat} {v : Value} {D : DataW Unit} {row : List Nat} (h : IxK K w b bm v D row) (k : Nat) (hk : Ix.S b bm v k) : k < w.heap.size := by
  rcases hk with rfl | rfl | hk
  · exact (Array.getElem?_eq_some_iff.1 h.block).1
  · exact h.map.lt
  · exact (h.items.lt k hk).2
theorem IxK.alloc {w : World} {b bm : Nat} {v : Value} {D : DataW Unit} {row : List Nat} (h : IxK K w b bm v D row) (o : Obj) : IxK K (w.alloc o) b bm v D row :=
  h.kept fun k hk => Below.heap_alloc _ _ _ (h.lt k hk)
theorem IxK.drewN {w : World} {b bm : Nat} {v : Value} {D : DataW Unit} {row : List Nat} (h : IxK K w b bm v D row) (n : Nat) : IxK K (w.drewN n) b bm v D row := h.kept fun _ _ => rfl
theorem IxK.apart (ok : K.Ok) {w : World} {b bm : Nat} {v : Value} {D : DataW Unit} {row : List Nat} (h : IxK K w b bm v D row) : b ≠ bm ∧ some b ≠ v.ownBlock ∧ some bm ≠ v.ownBlock := by
  obtain ⟨es, cl, hb, _⟩ := h.map
  refine ⟨fun e => ?_, fun e => ?_, fun e => ?_⟩
  · subst e; rw [h.block] at hb; cases hb
  · rcases h.items.2 with ⟨hv, _⟩ | ⟨g', cap', cur, hv, _, hg, _⟩
    · rw [hv] at e; simp [Value.ownBlock] at e
    · rw [hv] at e
      simp [Value.ownBlock] at e
      subst e
      rw [h.block] at hg
      injection hg with hg
      injection hg with _ hg
      exact ok.other hg
  · rcases h.items.2 with ⟨hv, _⟩ | ⟨g', cap', cur, hv, _, hg, _⟩
    · rw [hv] at e; simp [Value.ownBlock] at e
    · rw [hv] at e
      simp [Value.ownBlock] at e
      subst e
      rw [hb] at hg
      cases hg

def AddedK (K : KT) (w : World) (b bm : Nat) (v : Value) (row : List Nat) (t : Nat) (e : Ending) (w' : World) : Prop :=
  e = .returned (.int .i64 (row.length : Int)) ∧ ∃ v' D', IxK K w' b bm v' D' (row ++ [t]) ∧ Kp w w' (Ix.S b bm v) ∧ (v'.ownBlock = v.ownBlock ∨ ∃ g, v'.ownBlock = some g ∧ w.heap.size ≤ g)

theorem added_endK (ok : K.Ok) {w w1 w2 : World} {b bm : Nat} {v v1 : Value} {D' : DataW Unit} {row : List Nat} {t : Nat}
    (HA : AgreeK K D' (row ++ [t])) (HBM : b ≠ bm) (HBMV : some bm ≠ v.ownBlock)
    (hown1 : w1.ownsMap Try.prog K.key (plainElem Try.prog 3) bm (row.length + 1) D') (hturn1 : w.mapTurned w1 bm)
    (hb2 : w2.heap[b]? = some (.cells #[.map (some bm), v] K.st (0, 0))) (hR2 : w2.ownsRow 0 K.key K.n v1 (row.length + 1) (K.row row ++ K.cells t))
    (hg2 : w1.grownBy w2 v.ownBlock) (hat2 : v1.ownBlock = v.ownBlock ∨ ∃ b, v1.ownBlock = some b ∧ w1.heap.size ≤ b) :
    AddedK K w b bm v row t (.returned (.int .i64 (row.length : Int))) (w2.setCell ⟨b, 1, none⟩ v1) := by
  have el : (row ++ [t]).length = row.length + 1 := by simp
  refine ⟨rfl, v1, D', ⟨?_, ?_, HA, ?_⟩, ?_, ?_⟩
  · rw [heap_set hb2]; simp
  · rw [el]
    exact (hown1.kept hg2 HBMV).kept (grown_set _ _ _ _) (by simpa using fun e => HBM e.symm)
  · have hne := own_ne_of hb2 hR2 ok.other
    rw [el, KT.row_push]
    exact hR2.kept (grown_set _ _ _ _) (.inr hne)
  · refine Kp.setCell (((Kp.refl w _).turned hturn1 (.inr (.inl rfl))).grown hg2 ?_) (.inl (.inl rfl)) _
    intro j hj
    exact .inl (.inr (.inr hj))
  · rcases hat2 with h | ⟨g, h, hg⟩
    · exact .inl h
    · exact .inr ⟨g, h, by rw [← turned_size hturn1]; exact hg⟩
theorem AddedK.from_alloc {w : World} {o : Obj} {b bm : Nat} {v : Value} {row : List Nat} {t : Nat} {e : Ending} {w' : World} {n : Nat} (h : AddedK K ((w.alloc o).drewN n) b bm v row t e w') : AddedK K w b bm v row t e w' := by
  obtain ⟨he, v', D', hI, hk, ho⟩ := h
  refine ⟨he, v', D', hI, (((Kp.refl w (Ix.S b bm v)).alloc o).drewN n).trans hk (fun j hj => .inl hj), ?_⟩
  rcases ho with ho | ⟨g, ho, hg⟩
  · exact .inl ho
  · refine .inr ⟨g, ho, ?_⟩
    have : ((w.alloc o).drewN n).heap.size = w.heap.size + 1 := by show (w.alloc o).heap.size = _; simp
    omega
theorem cell1_ofK {w w1 : World} {b m st : Nat} {c0 v : Value} (h : w.heap[b]? = some (.cells #[c0, v] st (0, 0))) (ht : w.mapTurned w1 m) (hb : b ≠ m) : w1.heap[b]? = some (.cells #[c0, v] st (0, 0)) :=
  (turned_block ht hb).trans h
theorem block_grownK {w w2 : World} {b st : Nat} {c0 v : Value} {row : Option Nat} (h : w.heap[b]? = some (.cells #[c0, v] st (0, 0))) (hg : w.grownBy w2 row) (hv : some b ≠ row) : w2.heap[b]? = some (.cells #[c0, v] st (0, 0)) :=
  (hg.block b (Array.getElem?_eq_some_iff.1 h).1 hv).trans h
theorem cell_ofK {w : World} {b st : Nat} {c0 v : Value} (h : w.heap[b]? = some (.cells #[c0, v] st (0, 0))) : w.cell? ⟨b, 0, none⟩ = some c0 ∧ w.cell? ⟨b, 1, none⟩ = some v ∧ w.frozen? ⟨b, 1, none⟩ = false := by
  refine ⟨by simp [World.cell?, h], by simp [World.cell?, h], by simp [World.frozen?, h]⟩
theorem IxK.items_turned {w w1 : World} {m : Nat} {v : Value} {row : List Nat} (h : w.ownsRow 0 K.key K.n v row.length (K.row row)) (ht : w.mapTurned w1 m) (hne : some m ≠ v.ownBlock) : w1.ownsRow 0 K.key K.n v row.length (K.row row) :=
  h.kept (turned_grown ht) (by cases hv : v.ownBlock with | none => exact .inl rfl | some k => right; intro e; exact hne (by rw [hv, e]))

/-- the kinds: texts, places, bytes, pairs -/
def tx (k : Nat) : ByteArray := if k = 0 then ⟨#[42]⟩ else ⟨#[42, UInt8.ofNat (48 + k)]⟩
def KTs : KT := ⟨9, 96, 1, fun k => .string (tx k), fun k => [.string (tx k)], fun k => .string (tx k).data.toList⟩
def KTp : KT := ⟨44, 101, 2, fun k => .agg #[.int .i64 ((k / 2 : Nat) : Int), .int .i64 ((k % 2 : Nat) : Int)], fun k => [.int .i64 ((k / 2 : Nat) : Int), .int .i64 ((k % 2 : Nat) : Int)], fun k => .string (keyBytes [.int .i64 ((k / 2 : Nat) : Int), .int .i64 ((k % 2 : Nat) : Int)])⟩
def KTb : KT := ⟨47, 105, 1, fun k => .int .i8 ((k : Int) - 2), fun k => [.int .i8 ((k : Int) - 2)], fun k => .int .i8 ((k : Int) - 2)⟩
def KTa : KT := ⟨50, 109, 2, fun k => .agg #[.bool (decide (k / 2 = 1)), .bool (decide (k % 2 = 1))], fun k => [.bool (decide (k / 2 = 1)), .bool (decide (k % 2 = 1))], fun k => .string (keyBytes [.bool (decide (k / 2 = 1)), .bool (decide (k % 2 = 1))])⟩
theorem okS : KTs.Ok where
  keyed := string_keyed Try.underlying9
  keyOf k h := keyOf_string_mk Try.underlying9 (by unfold maxLen tx; split <;> simp [ByteArray.size])
  isKey k h := trivial
  inj a b ha hb h := by
    have := lit_inj h
    match a, ha, b, hb with
    | 0, _, 0, _ => rfl
    | 1, _, 1, _ => rfl
    | 2, _, 2, _ => rfl
    | 3, _, 3, _ => rfl
    | 0, _, 1, _ | 0, _, 2, _ | 0, _, 3, _ | 1, _, 0, _ | 1, _, 2, _ | 1, _, 3, _ | 2, _, 0, _ | 2, _, 1, _ | 2, _, 3, _ | 3, _, 0, _ | 3, _, 1, _ | 3, _, 2, _ => exact absurd (congrArg (fun s : ByteArray => s.data.toList) this) (by decide)
  len k := rfl
  one k u h := by simp [KTs] at h; subst h; rfl
  pos := by decide
  other := by decide
theorem okB : KTb.Ok where
  keyed := int_keyed Try.underlying47
  keyOf k h := by
    match k, h with
    | 0, _ => show keyOf Try.prog KTb.key (KTb.val 0) = some (KTb.lit 0); kernel_rfl
    | 1, _ => show keyOf Try.prog KTb.key (KTb.val 1) = some (KTb.lit 1); kernel_rfl
    | 2, _ => show keyOf Try.prog KTb.key (KTb.val 2) = some (KTb.lit 2); kernel_rfl
    | 3, _ => show keyOf Try.prog KTb.key (KTb.val 3) = some (KTb.lit 3); kernel_rfl
  isKey k h := trivial
  inj a b ha hb h := by
    injection h with _ h
    omega
  len k := rfl
  one k u h := by simp [KTb] at h; subst h; rfl
  pos := by decide
  other := by decide
theorem okP : KTp.Ok where
  keyed := Keyed.of_law (deep_law_laid (m := 3) (by kernel_rfl) (by decide) (of_decide_eq_true (by kernel_rfl)) (by kernel_rfl) (by kernel_rfl))
  keyOf k h := by
    match k, h with
    | 0, _ => show keyOf Try.prog KTp.key (KTp.val 0) = some (KTp.lit 0); kernel_rfl
    | 1, _ => show keyOf Try.prog KTp.key (KTp.val 1) = some (KTp.lit 1); kernel_rfl
    | 2, _ => show keyOf Try.prog KTp.key (KTp.val 2) = some (KTp.lit 2); kernel_rfl
    | 3, _ => show keyOf Try.prog KTp.key (KTp.val 3) = some (KTp.lit 3); kernel_rfl
  isKey k h := trivial
  inj a b ha hb h := by
    match a, ha, b, hb with
    | 0, _, 0, _ => rfl
    | 1, _, 1, _ => rfl
    | 2, _, 2, _ => rfl
    | 3, _, 3, _ => rfl
    | 0, _, 1, _ | 0, _, 2, _ | 0, _, 3, _ | 1, _, 0, _ | 1, _, 2, _ | 1, _, 3, _ | 2, _, 0, _ | 2, _, 1, _ | 2, _, 3, _ | 3, _, 0, _ | 3, _, 1, _ | 3, _, 2, _ => exact absurd (Lit.string.inj h) (by decide +kernel)
  len k := rfl
  one k u h := by
    simp [KTp] at h
    rcases h with rfl | rfl <;> rfl
  pos := by decide
  other := by decide
theorem okA : KTa.Ok where
  keyed := Keyed.of_law (deep_law_laid (m := 3) (by kernel_rfl) (by decide) (of_decide_eq_true (by kernel_rfl)) (by kernel_rfl) (by kernel_rfl))
  keyOf k h := by
    match k, h with
    | 0, _ => show keyOf Try.prog KTa.key (KTa.val 0) = some (KTa.lit 0); kernel_rfl
    | 1, _ => show keyOf Try.prog KTa.key (KTa.val 1) = some (KTa.lit 1); kernel_rfl
    | 2, _ => show keyOf Try.prog KTa.key (KTa.val 2) = some (KTa.lit 2); kernel_rfl
    | 3, _ => show keyOf Try.prog KTa.key (KTa.val 3) = some (KTa.lit 3); kernel_rfl
  isKey k h := trivial
  inj a b ha hb h := by
    match a, ha, b, hb with
    | 0, _, 0, _ => rfl
    | 1, _, 1, _ => rfl
    | 2, _, 2, _ => rfl
    | 3, _, 3, _ => rfl
    | 0, _, 1, _ | 0, _, 2, _ | 0, _, 3, _ | 1, _, 0, _ | 1, _, 2, _ | 1, _, 3, _ | 2, _, 0, _ | 2, _, 1, _ | 2, _, 3, _ | 3, _, 0, _ | 3, _, 1, _ | 3, _, 2, _ => exact absurd (Lit.string.inj h) (by decide +kernel)
  len k := rfl
  one k u h := by
    simp [KTa] at h
    rcases h with rfl | rfl <;> rfl
  pos := by decide
  other := by decide
end Go.Proofs.Ytijmhegccakndaa
