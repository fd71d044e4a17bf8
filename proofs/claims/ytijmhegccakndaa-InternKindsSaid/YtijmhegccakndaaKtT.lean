/-
  The four indexes, the law's place and pair: what each call leaves. (Printed by wip/tools/ktst.py.)
-/
import Derived.Test.YtijmhegccakndaaKtG
namespace Go.Proofs.Ytijmhegccakndaa
open Go.RowKit Go.Maps Go.WideMaps
open Go.Proofs.YtijmhegccakndaaW.PrintWords Go.Proofs.YtijmhegccakndaaW.PrintMore

/-- the four, and two blocks of the law's own -/
structure St (w W : World) (P : Nat) (u0 u1 v0 v1 : Value) (G : Nat → Prop) (a b c d : Nat) (ra rb rc rd : List Nat) : Prop where
  four : Four W w.heap.size (fun j => j = P ∨ j = P + 1 ∨ G j) a b c d ra rb rc rd
  below : Below w.heap.size w W
  p : W.heap[P]? = some (.cells #[u0, u1] 44 (0, 0))
  q : W.heap[P + 1]? = some (.cells #[v0, v1] 50 (0, 0))
  lt : ∀ j, (j = P ∨ j = P + 1 ∨ G j) → j < W.heap.size
section
variable {w W W' : World} {P : Nat} {u0 u1 v0 v1 : Value} {G : Nat → Prop} {a b c d t : Nat} {n : Int} {ra rb rc rd ra' rb' rc' rd' : List Nat} {x : Value}
theorem St.left (h : St w W P u0 u1 v0 v1 G a b c d ra rb rc rd) (hf : Four W' w.heap.size (fun j => j = P ∨ j = P + 1 ∨ G j) a b c d ra' rb' rc' rd') (hl : Left W W' w.heap.size (fun j => j = P ∨ j = P + 1 ∨ G j)) : St w W' P u0 u1 v0 v1 G a b c d ra' rb' rc' rd' :=
  ⟨hf, h.below.trans hl.1, (hl.2 P (.inl rfl)).trans h.p, (hl.2 (P + 1) (.inr (.inl rfl))).trans h.q, fun j hj => by
    have h1 := h.lt j hj
    have h2 := hl.2 j hj
    rw [Array.getElem?_eq_getElem h1] at h2
    exact (Array.getElem?_eq_some_iff.1 h2).1⟩
theorem St.under (h : St w W P u0 u1 v0 v1 G a b c d ra rb rc rd) (hb : Below W.heap.size W W') : St w W' P u0 u1 v0 v1 G a b c d ra rb rc rd :=
  ⟨h.four.below hb, h.below.trans (hb.mono h.below.size), (hb.block P (h.lt _ (.inl rfl))).trans h.p, (hb.block (P + 1) (h.lt _ (.inr (.inl rfl)))).trans h.q, fun j hj => Nat.lt_of_lt_of_le (h.lt j hj) hb.size⟩
/-- one block more to be let alone -/
theorem St.more {o : Obj} (h : St w W P u0 u1 v0 v1 (fun _ => False) a b c d ra rb rc rd) (hW : W' = W.alloc o) : St w W' P u0 u1 v0 v1 (fun j => j = W.heap.size) a b c d ra rb rc rd ∧ W'.heap[W.heap.size]? = some o := by
  subst hW
  have hb : Below W.heap.size W (W.alloc o) := (Below.refl _ _).alloc (Nat.le_refl _) _
  have hx := h.under hb
  have hsz : (W.alloc o).heap.size = W.heap.size + 1 := by simp
  refine ⟨⟨?_, hx.below, hx.p, hx.q, ?_⟩, heap_alloc_new W o⟩
  · obtain ⟨Sa, Sb, Sc, Sd, h1, h2, h3, h4, h5, h6, h7, h8⟩ := h.four
    exact ⟨Sa, Sb, Sc, Sd, h1.below hb, h2.below hb, h3.below hb, h4.below hb, fun k hk => ⟨(h5 k hk).1, by have := (h5 k hk).2.1; omega, by have := h5 k hk; rintro (e | e | e) <;> grind⟩, h6, h7, h8⟩
  · rintro j (e | e | e)
    · exact hx.lt j (.inl e)
    · exact hx.lt j (.inr (.inl e))
    · omega
theorem St.cells (h : St w W P u0 u1 v0 v1 G a b c d ra rb rc rd) : W.cell? ⟨P, 0, none⟩ = some u0 ∧ W.cell? ⟨P, 1, none⟩ = some u1 ∧ W.cell? ⟨P + 1, 0, none⟩ = some v0 ∧ W.cell? ⟨P + 1, 1, none⟩ = some v1 := by
  refine ⟨?_, ?_, ?_, ?_⟩ <;> simp [World.cell?, h.p, h.q]

theorem St.add_a (h : St w W P u0 u1 v0 v1 G a b c d ra rb rc rd) (hx : KTs.val t = x) (ht : t < 4) :
    Calls Try.prog 12 #[.pointer (some ⟨a, 0, none⟩), x] W fun e W' => St w W' P u0 u1 v0 v1 G a b c d (addN ra t) rb rc rd ∧ e = .returned (.int .i64 (poN ra t : Int)) ∧ ∀ j, G j → W'.heap[j]? = W.heap[j]? := by
  rw [← hx]
  exact (h.four.add_a h.below.size h.lt ht).mono fun _ _ ⟨hf, he, hl⟩ => ⟨h.left hf hl, he, fun j hj => hl.2 j (.inr (.inr hj))⟩
theorem St.cut_a (h : St w W P u0 u1 v0 v1 G a b c d ra rb rc rd) :
    Calls Try.prog 19 #[.pointer (some ⟨a, 0, none⟩), .int .i64 n] W fun e W' => St w W' P u0 u1 v0 v1 G a b c d (ra.take n.toNat) rb rc rd ∧ e = .returned (.tuple #[]) :=
  (h.four.cut_a h.below.size h.lt).mono fun _ _ ⟨hf, he, hl⟩ => ⟨h.left hf hl, he⟩
theorem St.find_a (h : St w W P u0 u1 v0 v1 G a b c d ra rb rc rd) (hx : KTs.val t = x) (ht : t < 4) :
    Calls Try.prog 15 #[.pointer (some ⟨a, 0, none⟩), x] W fun e W' => St w W' P u0 u1 v0 v1 G a b c d ra rb rc rd ∧ e = .returned (.tuple #[.int .i64 (fiN ra t : Int), .bool (decide (t ∈ ra))]) := by
  rw [← hx]
  exact (h.four.find_a ht).mono fun _ _ ⟨he, hb⟩ => ⟨h.under hb, he⟩

theorem St.add_b (h : St w W P u0 u1 v0 v1 G a b c d ra rb rc rd) (hx : KTp.val t = x) (ht : t < 4) :
    Calls Try.prog 32 #[.pointer (some ⟨b, 0, none⟩), x] W fun e W' => St w W' P u0 u1 v0 v1 G a b c d ra (addN rb t) rc rd ∧ e = .returned (.int .i64 (poN rb t : Int)) ∧ ∀ j, G j → W'.heap[j]? = W.heap[j]? := by
  rw [← hx]
  exact (h.four.add_b h.below.size h.lt ht).mono fun _ _ ⟨hf, he, hl⟩ => ⟨h.left hf hl, he, fun j hj => hl.2 j (.inr (.inr hj))⟩
theorem St.cut_b (h : St w W P u0 u1 v0 v1 G a b c d ra rb rc rd) :
    Calls Try.prog 25 #[.pointer (some ⟨b, 0, none⟩), .int .i64 n] W fun e W' => St w W' P u0 u1 v0 v1 G a b c d ra (rb.take n.toNat) rc rd ∧ e = .returned (.tuple #[]) :=
  (h.four.cut_b h.below.size h.lt).mono fun _ _ ⟨hf, he, hl⟩ => ⟨h.left hf hl, he⟩
theorem St.find_b (h : St w W P u0 u1 v0 v1 G a b c d ra rb rc rd) (hx : KTp.val t = x) (ht : t < 4) :
    Calls Try.prog 28 #[.pointer (some ⟨b, 0, none⟩), x] W fun e W' => St w W' P u0 u1 v0 v1 G a b c d ra rb rc rd ∧ e = .returned (.tuple #[.int .i64 (fiN rb t : Int), .bool (decide (t ∈ rb))]) := by
  rw [← hx]
  exact (h.four.find_b ht).mono fun _ _ ⟨he, hb⟩ => ⟨h.under hb, he⟩

theorem St.add_c (h : St w W P u0 u1 v0 v1 G a b c d ra rb rc rd) (hx : KTb.val t = x) (ht : t < 4) :
    Calls Try.prog 33 #[.pointer (some ⟨c, 0, none⟩), x] W fun e W' => St w W' P u0 u1 v0 v1 G a b c d ra rb (addN rc t) rd ∧ e = .returned (.int .i64 (poN rc t : Int)) ∧ ∀ j, G j → W'.heap[j]? = W.heap[j]? := by
  rw [← hx]
  exact (h.four.add_c h.below.size h.lt ht).mono fun _ _ ⟨hf, he, hl⟩ => ⟨h.left hf hl, he, fun j hj => hl.2 j (.inr (.inr hj))⟩
theorem St.cut_c (h : St w W P u0 u1 v0 v1 G a b c d ra rb rc rd) :
    Calls Try.prog 26 #[.pointer (some ⟨c, 0, none⟩), .int .i64 n] W fun e W' => St w W' P u0 u1 v0 v1 G a b c d ra rb (rc.take n.toNat) rd ∧ e = .returned (.tuple #[]) :=
  (h.four.cut_c h.below.size h.lt).mono fun _ _ ⟨hf, he, hl⟩ => ⟨h.left hf hl, he⟩
theorem St.find_c (h : St w W P u0 u1 v0 v1 G a b c d ra rb rc rd) (hx : KTb.val t = x) (ht : t < 4) :
    Calls Try.prog 29 #[.pointer (some ⟨c, 0, none⟩), x] W fun e W' => St w W' P u0 u1 v0 v1 G a b c d ra rb rc rd ∧ e = .returned (.tuple #[.int .i64 (fiN rc t : Int), .bool (decide (t ∈ rc))]) := by
  rw [← hx]
  exact (h.four.find_c ht).mono fun _ _ ⟨he, hb⟩ => ⟨h.under hb, he⟩

theorem St.add_d (h : St w W P u0 u1 v0 v1 G a b c d ra rb rc rd) (hx : KTa.val t = x) (ht : t < 4) :
    Calls Try.prog 34 #[.pointer (some ⟨d, 0, none⟩), x] W fun e W' => St w W' P u0 u1 v0 v1 G a b c d ra rb rc (addN rd t) ∧ e = .returned (.int .i64 (poN rd t : Int)) ∧ ∀ j, G j → W'.heap[j]? = W.heap[j]? := by
  rw [← hx]
  exact (h.four.add_d h.below.size h.lt ht).mono fun _ _ ⟨hf, he, hl⟩ => ⟨h.left hf hl, he, fun j hj => hl.2 j (.inr (.inr hj))⟩
theorem St.cut_d (h : St w W P u0 u1 v0 v1 G a b c d ra rb rc rd) :
    Calls Try.prog 27 #[.pointer (some ⟨d, 0, none⟩), .int .i64 n] W fun e W' => St w W' P u0 u1 v0 v1 G a b c d ra rb rc (rd.take n.toNat) ∧ e = .returned (.tuple #[]) :=
  (h.four.cut_d h.below.size h.lt).mono fun _ _ ⟨hf, he, hl⟩ => ⟨h.left hf hl, he⟩
theorem St.find_d (h : St w W P u0 u1 v0 v1 G a b c d ra rb rc rd) (hx : KTa.val t = x) (ht : t < 4) :
    Calls Try.prog 30 #[.pointer (some ⟨d, 0, none⟩), x] W fun e W' => St w W' P u0 u1 v0 v1 G a b c d ra rb rc rd ∧ e = .returned (.tuple #[.int .i64 (fiN rd t : Int), .bool (decide (t ∈ rd))]) := by
  rw [← hx]
  exact (h.four.find_d ht).mono fun _ _ ⟨he, hb⟩ => ⟨h.under hb, he⟩

theorem St.at_yes (h : St w W P u0 u1 v0 v1 G a b c d ra rb rc rd) (hx : KTp.val t = x) (hi : t ∈ rb) :
    Calls Try.prog 31 #[.pointer (some ⟨b, 0, none⟩), .int .i64 (poN rb t : Int)] W fun e W' => St w W' P u0 u1 v0 v1 G a b c d ra rb rc rd ∧ e = .returned (.tuple #[x, .bool true]) := by
  rw [← hx]
  exact (h.four.at_yes (poN_get hi)).mono fun _ _ ⟨he, hb⟩ => ⟨h.under hb, he⟩
theorem St.at_no (h : St w W P u0 u1 v0 v1 G a b c d ra rb rc rd) (hi : ¬ t ∈ rb) (hs : rb.length ≤ 9223372036854775807) :
    Calls Try.prog 31 #[.pointer (some ⟨b, 0, none⟩), .int .i64 (poN rb t : Int)] W fun e W' => St w W' P u0 u1 v0 v1 G a b c d ra rb rc rd ∧ e = .returned (.tuple #[.agg #[.int .i64 0, .int .i64 0], .bool false]) := by
  rw [poN_not hi]
  exact (h.four.at_no (Nat.le_refl _) hs).mono fun _ _ ⟨he, hb⟩ => ⟨h.under hb, he⟩
end
end Go.Proofs.Ytijmhegccakndaa
