/-
  An index of any of the law's kinds of things, its blocks in a set: what each method answers and leaves. (Printed by wip/tools/kts.py.)
-/
import Derived.Test.YtijmhegccakndaaKt9
namespace Go.Proofs.Ytijmhegccakndaa
open Go.RowKit Go.Maps Go.WideMaps
open Go.ChangeMaps (setBlock)
open Go.Proofs.YtijmhegccakndaaW.PrintWords Go.Proofs.YtijmhegccakndaaW.PrintMore
variable {K : KT}

def AtSK (K : KT) (w : World) (S : Nat → Prop) (b : Nat) (row : List Nat) : Prop := ∃ bm v D, IxK K w b bm v D row ∧ ∀ k, Ix.S b bm v k → S k
theorem AtSK.kept {w w' : World} {S : Nat → Prop} {b : Nat} {row : List Nat} (h : AtSK K w S b row) (hk : ∀ k, S k → k < w.heap.size → w'.heap[k]? = w.heap[k]?) : AtSK K w' S b row := by
  obtain ⟨bm, v, D, hI, h1⟩ := h
  exact ⟨bm, v, D, hI.kept (fun k hk' => hk k (h1 k hk') (hI.lt k hk')), h1⟩
theorem AtSK.mono {w : World} {S S' : Nat → Prop} {b : Nat} {row : List Nat} (h : AtSK K w S b row) (hS : ∀ k, S k → S' k) : AtSK K w S' b row := by
  obtain ⟨bm, v, D, hI, h1⟩ := h
  exact ⟨bm, v, D, hI, fun k hk => hS k (h1 k hk)⟩
theorem AtSK.lt {w : World} {S : Nat → Prop} {b : Nat} {row : List Nat} (h : AtSK K w S b row) : AtSK K w (fun k => S k ∧ k < w.heap.size) b row := by
  obtain ⟨bm, v, D, hI, h1⟩ := h
  exact ⟨bm, v, D, hI, fun k hk => ⟨h1 k hk, hI.lt k hk⟩⟩
theorem AtSK.below {w w' : World} {S : Nat → Prop} {b : Nat} {row : List Nat} (h : AtSK K w S b row) (hb : Below w.heap.size w w') : AtSK K w' S b row := h.kept (fun k _ hk => hb.block k hk)
theorem kp_below {w w' : World} (S : Nat → Prop) (hb : Below w.heap.size w w') : Kp w w' S := ⟨hb.os, hb.tape, hb.output, hb.size, fun k hk _ => hb.block k hk⟩
/-- the row with a thing -/
def addN (row : List Nat) (t : Nat) : List Nat := if t ∈ row then row else row ++ [t]
def IsAddK (K : KT) (w : World) (S : Nat → Prop) (b : Nat) (row : List Nat) (t : Nat) (e : Ending) (w' : World) : Prop :=
  e = .returned (.int .i64 (poN row t : Int)) ∧ AtSK K w' (fun k => S k ∨ w.heap.size ≤ k) b (addN row t) ∧ Kp w w' S
theorem isAdd_old {w w' : World} {S : Nat → Prop} {b : Nat} {row : List Nat} {t : Nat} {e : Ending} (h : AtSK K w S b row) (hm : t ∈ row) (he : e = .returned (.int .i64 (poN row t : Int))) (hb : Below w.heap.size w w') : IsAddK K w S b row t e w' := by
  refine ⟨he, ?_, kp_below S hb⟩
  unfold addN
  rw [if_pos hm]
  exact (h.below hb).mono (fun k hk => .inl hk)
theorem isAdd_new {w w' : World} {S : Nat → Prop} {b bm : Nat} {v : Value} {row : List Nat} {t : Nat} {e : Ending} (h1 : ∀ k, Ix.S b bm v k → S k) (hm : ¬ t ∈ row) (h : AddedK K w b bm v row t e w') : IsAddK K w S b row t e w' := by
  obtain ⟨he, v', D', hI', hk, ho⟩ := h
  refine ⟨by rw [he, poN_not hm], ?_, hk.mono h1⟩
  unfold addN
  rw [if_neg hm]
  refine ⟨bm, v', D', hI', fun k hk' => ?_⟩
  rcases hk' with rfl | rfl | hk'
  · exact .inl (h1 _ (.inl rfl))
  · exact .inl (h1 _ (.inr (.inl rfl)))
  · rcases ho with ho | ⟨g, ho, hg⟩
    · exact .inl (h1 k (.inr (.inr (by rw [← ho, hk']))))
    · rw [hk'] at ho
      injection ho with ho
      exact .inr (by omega)
def IsCutSK (K : KT) (w : World) (S : Nat → Prop) (b : Nat) (row : List Nat) (n : Int) (e : Ending) (w' : World) : Prop :=
  e = .returned (.tuple #[]) ∧ AtSK K w' S b (row.take n.toNat) ∧ Kp w w' S

theorem addS_S (w : World) (S : Nat → Prop) (b : Nat) (row : List Nat) (t : Nat) (h : AtSK KTs w S b row) (ht : t < 4) :
    Calls Try.prog 12 #[.pointer (some ⟨b, 0, none⟩), KTs.val t] w (IsAddK KTs w S b row t) := by
  have h' := h
  obtain ⟨bm, v, D, hI, h1⟩ := h
  by_cases hm : t ∈ row
  · exact (add_old_S w b bm v D row t hI ht hm).mono fun e w' ⟨he, hw⟩ => isAdd_old h' hm he (by rw [← hw]; exact Below.refl _ _)
  · exact (add_new_S w b bm v D row t hI ht hm).mono fun e w' hA => isAdd_new h1 hm hA
theorem findS_S (w : World) (S : Nat → Prop) (b : Nat) (row : List Nat) (t : Nat) (h : AtSK KTs w S b row) (ht : t < 4) :
    Calls Try.prog 15 #[.pointer (some ⟨b, 0, none⟩), KTs.val t] w fun e w' => e = .returned (.tuple #[.int .i64 (fiN row t : Int), .bool (decide (t ∈ row))]) ∧ Below w.heap.size w w' := by
  obtain ⟨bm, v, D, hI, h1⟩ := h
  exact find_S w b bm v D row t hI ht
theorem lenS_S (w : World) (S : Nat → Prop) (b : Nat) (row : List Nat) (h : AtSK KTs w S b row) :
    Calls Try.prog 14 #[.pointer (some ⟨b, 0, none⟩)] w fun e w' => e = .returned (.int .i64 (row.length : Int)) ∧ w = w' := by
  obtain ⟨bm, v, D, hI, h1⟩ := h
  exact len_S w b bm v D row hI
theorem cutS_S (w : World) (S : Nat → Prop) (b : Nat) (row : List Nat) (n : Int) (h : AtSK KTs w S b row) :
    Calls Try.prog 19 #[.pointer (some ⟨b, 0, none⟩), .int .i64 n] w (IsCutSK KTs w S b row n) := by
  obtain ⟨bm, v, D, hI, h1⟩ := h
  by_cases hn : n.toNat < row.length
  · refine (cut_some_S w b bm v D row n n.toNat hI (by split <;> omega) hn).mono fun e w' ⟨he, v', D', hI', hk, ho⟩ => ?_
    refine ⟨he, ⟨bm, v', D', hI', fun k hk' => h1 k ?_⟩, hk.mono h1⟩
    rcases hk' with h | h | h
    · exact .inl h
    · exact .inr (.inl h)
    · exact .inr (.inr (by rw [← ho]; exact h))
  · refine (cut_none_S w b bm v D row n (n.toNat : Int) hI (by split <;> omega) (by omega)).mono fun e w' ⟨he, hw⟩ => ?_
    subst hw
    refine ⟨he, ⟨bm, v, D, ?_, h1⟩, Kp.refl _ _⟩
    rw [List.take_of_length_le (by omega)]
    exact hI

theorem addS_P (w : World) (S : Nat → Prop) (b : Nat) (row : List Nat) (t : Nat) (h : AtSK KTp w S b row) (ht : t < 4) :
    Calls Try.prog 32 #[.pointer (some ⟨b, 0, none⟩), KTp.val t] w (IsAddK KTp w S b row t) := by
  have h' := h
  obtain ⟨bm, v, D, hI, h1⟩ := h
  by_cases hm : t ∈ row
  · exact (add_old_P w b bm v D row t hI ht hm).mono fun e w' ⟨he, hw⟩ => isAdd_old h' hm he hw
  · exact (add_new_P w b bm v D row t hI ht hm).mono fun e w' hA => isAdd_new h1 hm hA
theorem findS_P (w : World) (S : Nat → Prop) (b : Nat) (row : List Nat) (t : Nat) (h : AtSK KTp w S b row) (ht : t < 4) :
    Calls Try.prog 28 #[.pointer (some ⟨b, 0, none⟩), KTp.val t] w fun e w' => e = .returned (.tuple #[.int .i64 (fiN row t : Int), .bool (decide (t ∈ row))]) ∧ Below w.heap.size w w' := by
  obtain ⟨bm, v, D, hI, h1⟩ := h
  exact find_P w b bm v D row t hI ht
theorem lenS_P (w : World) (S : Nat → Prop) (b : Nat) (row : List Nat) (h : AtSK KTp w S b row) :
    Calls Try.prog 35 #[.pointer (some ⟨b, 0, none⟩)] w fun e w' => e = .returned (.int .i64 (row.length : Int)) ∧ w = w' := by
  obtain ⟨bm, v, D, hI, h1⟩ := h
  exact len_P w b bm v D row hI
theorem cutS_P (w : World) (S : Nat → Prop) (b : Nat) (row : List Nat) (n : Int) (h : AtSK KTp w S b row) :
    Calls Try.prog 25 #[.pointer (some ⟨b, 0, none⟩), .int .i64 n] w (IsCutSK KTp w S b row n) := by
  obtain ⟨bm, v, D, hI, h1⟩ := h
  by_cases hn : n.toNat < row.length
  · refine (cut_some_P w b bm v D row n n.toNat hI (by split <;> omega) hn).mono fun e w' ⟨he, v', D', hI', hk, ho⟩ => ?_
    refine ⟨he, ⟨bm, v', D', hI', fun k hk' => h1 k ?_⟩, hk.mono h1⟩
    rcases hk' with h | h | h
    · exact .inl h
    · exact .inr (.inl h)
    · exact .inr (.inr (by rw [← ho]; exact h))
  · refine (cut_none_P w b bm v D row n (n.toNat : Int) hI (by split <;> omega) (by omega)).mono fun e w' ⟨he, hw⟩ => ?_
    subst hw
    refine ⟨he, ⟨bm, v, D, ?_, h1⟩, Kp.refl _ _⟩
    rw [List.take_of_length_le (by omega)]
    exact hI

theorem addS_B (w : World) (S : Nat → Prop) (b : Nat) (row : List Nat) (t : Nat) (h : AtSK KTb w S b row) (ht : t < 4) :
    Calls Try.prog 33 #[.pointer (some ⟨b, 0, none⟩), KTb.val t] w (IsAddK KTb w S b row t) := by
  have h' := h
  obtain ⟨bm, v, D, hI, h1⟩ := h
  by_cases hm : t ∈ row
  · exact (add_old_B w b bm v D row t hI ht hm).mono fun e w' ⟨he, hw⟩ => isAdd_old h' hm he (by rw [← hw]; exact Below.refl _ _)
  · exact (add_new_B w b bm v D row t hI ht hm).mono fun e w' hA => isAdd_new h1 hm hA
theorem findS_B (w : World) (S : Nat → Prop) (b : Nat) (row : List Nat) (t : Nat) (h : AtSK KTb w S b row) (ht : t < 4) :
    Calls Try.prog 29 #[.pointer (some ⟨b, 0, none⟩), KTb.val t] w fun e w' => e = .returned (.tuple #[.int .i64 (fiN row t : Int), .bool (decide (t ∈ row))]) ∧ Below w.heap.size w w' := by
  obtain ⟨bm, v, D, hI, h1⟩ := h
  exact find_B w b bm v D row t hI ht
theorem lenS_B (w : World) (S : Nat → Prop) (b : Nat) (row : List Nat) (h : AtSK KTb w S b row) :
    Calls Try.prog 36 #[.pointer (some ⟨b, 0, none⟩)] w fun e w' => e = .returned (.int .i64 (row.length : Int)) ∧ w = w' := by
  obtain ⟨bm, v, D, hI, h1⟩ := h
  exact len_B w b bm v D row hI
theorem cutS_B (w : World) (S : Nat → Prop) (b : Nat) (row : List Nat) (n : Int) (h : AtSK KTb w S b row) :
    Calls Try.prog 26 #[.pointer (some ⟨b, 0, none⟩), .int .i64 n] w (IsCutSK KTb w S b row n) := by
  obtain ⟨bm, v, D, hI, h1⟩ := h
  by_cases hn : n.toNat < row.length
  · refine (cut_some_B w b bm v D row n n.toNat hI (by split <;> omega) hn).mono fun e w' ⟨he, v', D', hI', hk, ho⟩ => ?_
    refine ⟨he, ⟨bm, v', D', hI', fun k hk' => h1 k ?_⟩, hk.mono h1⟩
    rcases hk' with h | h | h
    · exact .inl h
    · exact .inr (.inl h)
    · exact .inr (.inr (by rw [← ho]; exact h))
  · refine (cut_none_B w b bm v D row n (n.toNat : Int) hI (by split <;> omega) (by omega)).mono fun e w' ⟨he, hw⟩ => ?_
    subst hw
    refine ⟨he, ⟨bm, v, D, ?_, h1⟩, Kp.refl _ _⟩
    rw [List.take_of_length_le (by omega)]
    exact hI

theorem addS_A (w : World) (S : Nat → Prop) (b : Nat) (row : List Nat) (t : Nat) (h : AtSK KTa w S b row) (ht : t < 4) :
    Calls Try.prog 34 #[.pointer (some ⟨b, 0, none⟩), KTa.val t] w (IsAddK KTa w S b row t) := by
  have h' := h
  obtain ⟨bm, v, D, hI, h1⟩ := h
  by_cases hm : t ∈ row
  · exact (add_old_A w b bm v D row t hI ht hm).mono fun e w' ⟨he, hw⟩ => isAdd_old h' hm he hw
  · exact (add_new_A w b bm v D row t hI ht hm).mono fun e w' hA => isAdd_new h1 hm hA
theorem findS_A (w : World) (S : Nat → Prop) (b : Nat) (row : List Nat) (t : Nat) (h : AtSK KTa w S b row) (ht : t < 4) :
    Calls Try.prog 30 #[.pointer (some ⟨b, 0, none⟩), KTa.val t] w fun e w' => e = .returned (.tuple #[.int .i64 (fiN row t : Int), .bool (decide (t ∈ row))]) ∧ Below w.heap.size w w' := by
  obtain ⟨bm, v, D, hI, h1⟩ := h
  exact find_A w b bm v D row t hI ht
theorem lenS_A (w : World) (S : Nat → Prop) (b : Nat) (row : List Nat) (h : AtSK KTa w S b row) :
    Calls Try.prog 37 #[.pointer (some ⟨b, 0, none⟩)] w fun e w' => e = .returned (.int .i64 (row.length : Int)) ∧ w = w' := by
  obtain ⟨bm, v, D, hI, h1⟩ := h
  exact len_A w b bm v D row hI
theorem cutS_A (w : World) (S : Nat → Prop) (b : Nat) (row : List Nat) (n : Int) (h : AtSK KTa w S b row) :
    Calls Try.prog 27 #[.pointer (some ⟨b, 0, none⟩), .int .i64 n] w (IsCutSK KTa w S b row n) := by
  obtain ⟨bm, v, D, hI, h1⟩ := h
  by_cases hn : n.toNat < row.length
  · refine (cut_some_A w b bm v D row n n.toNat hI (by split <;> omega) hn).mono fun e w' ⟨he, v', D', hI', hk, ho⟩ => ?_
    refine ⟨he, ⟨bm, v', D', hI', fun k hk' => h1 k ?_⟩, hk.mono h1⟩
    rcases hk' with h | h | h
    · exact .inl h
    · exact .inr (.inl h)
    · exact .inr (.inr (by rw [← ho]; exact h))
  · refine (cut_none_A w b bm v D row n (n.toNat : Int) hI (by split <;> omega) (by omega)).mono fun e w' ⟨he, hw⟩ => ?_
    subst hw
    refine ⟨he, ⟨bm, v, D, ?_, h1⟩, Kp.refl _ _⟩
    rw [List.take_of_length_le (by omega)]
    exact hI
end Go.Proofs.Ytijmhegccakndaa
