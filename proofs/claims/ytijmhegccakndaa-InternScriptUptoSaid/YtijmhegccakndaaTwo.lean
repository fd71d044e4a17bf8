/-
  An index whose blocks lie in S: what Add does to it and to nothing else; At and Len; 'lives'.
-/
import Derived.Test.YtijmhegccakndaaOne
namespace Go.Proofs.Ytijmhegccakndaa
open Go.RowKit Go.Maps Go.WideMaps
open Go.Proofs.YtijmhegccakndaaW.PrintWords Go.Proofs.YtijmhegccakndaaW.PrintMore

/-- the index behind the pointer to block b holds the row; its blocks lie in S -/
def AtS (w : World) (S : Nat → Prop) (b : Nat) (row : List ByteArray) : Prop := ∃ bm v D, Ix w b bm v D row ∧ ∀ k, Ix.S b bm v k → S k

theorem AtS.of {w : World} {base b : Nat} {row : List ByteArray} (h : At w base b row) : AtS w (fun k => base ≤ k ∧ k < w.heap.size) b row := by
  obtain ⟨bm, v, D, hI, h1, h2, h3⟩ := h
  refine ⟨bm, v, D, hI, fun k hk => ⟨?_, hI.lt k hk⟩⟩
  rcases hk with rfl | rfl | hk
  · exact h1
  · exact h2
  · exact h3 k hk
theorem AtS.at {w : World} {S : Nat → Prop} {base b : Nat} {row : List ByteArray} (h : AtS w S b row) (hS : ∀ k, S k → base ≤ k) : At w base b row := by
  obtain ⟨bm, v, D, hI, h1⟩ := h
  exact ⟨bm, v, D, hI, hS _ (h1 _ (.inl rfl)), hS _ (h1 _ (.inr (.inl rfl))), fun k hk => hS _ (h1 _ (.inr (.inr hk)))⟩
theorem AtS.kept {w w' : World} {S : Nat → Prop} {b : Nat} {row : List ByteArray} (h : AtS w S b row) (hk : ∀ k, S k → k < w.heap.size → w'.heap[k]? = w.heap[k]?) : AtS w' S b row := by
  obtain ⟨bm, v, D, hI, h1⟩ := h
  exact ⟨bm, v, D, hI.kept (fun k hk' => hk k (h1 k hk') (hI.lt k hk')), h1⟩
theorem AtS.mono {w : World} {S S' : Nat → Prop} {b : Nat} {row : List ByteArray} (h : AtS w S b row) (hS : ∀ k, S k → S' k) : AtS w S' b row := by
  obtain ⟨bm, v, D, hI, h1⟩ := h
  exact ⟨bm, v, D, hI, fun k hk => hS k (h1 k hk)⟩
theorem AtS.lt {w : World} {S : Nat → Prop} {b : Nat} {row : List ByteArray} (h : AtS w S b row) : AtS w (fun k => S k ∧ k < w.heap.size) b row := by
  obtain ⟨bm, v, D, hI, h1⟩ := h
  exact ⟨bm, v, D, hI, fun k hk => ⟨h1 k hk, hI.lt k hk⟩⟩

def IsAddS (w : World) (S : Nat → Prop) (b : Nat) (row : List ByteArray) (t : ByteArray) (e : Ending) (w' : World) : Prop :=
  e = .returned (.int .i64 (posOf row t : Int)) ∧ AtS w' (fun k => S k ∨ w.heap.size ≤ k) b (rowAdd row t) ∧ Kp w w' S
theorem add_S (w : World) (S : Nat → Prop) (b : Nat) (row : List ByteArray) (t : ByteArray) (h : AtS w S b row) (hs : t.size ≤ maxLen) (hn : (row.length + 1) * 16 ≤ 140737488355328) :
    Calls Try.prog 12 #[.pointer (some ⟨b, 0, none⟩), .string t] w (IsAddS w S b row t) := by
  obtain ⟨bm, v, D, hI, h1⟩ := h
  by_cases hm : t ∈ row
  · refine (add_old w b bm v D row t (posOf row t) hI (idxOf_get hm)).mono fun e w' ⟨he, hw⟩ => ?_
    subst hw
    refine ⟨he, ?_, Kp.refl _ _⟩
    unfold rowAdd
    rw [if_pos hm]
    exact ⟨bm, v, D, hI, fun k hk => .inl (h1 k hk)⟩
  · refine (add_new w b bm v D row t hI hs hm hn).mono fun e w' ⟨he, v', D', hI', hk, ho⟩ => ?_
    refine ⟨by rw [he, idxOf_not_mem hm], ?_, hk.mono h1⟩
    unfold rowAdd
    rw [if_neg hm]
    refine ⟨bm, v', D', hI', fun k hk' => ?_⟩
    rcases hk' with rfl | rfl | hk'
    · exact .inl (h1 _ (.inl rfl))
    · exact .inl (h1 _ (.inr (.inl rfl)))
    · rcases ho with ho | ⟨g, ho, hg⟩
      · exact .inl (h1 k (.inr (.inr (by rw [← ho, hk']))))
      · rw [hk'] at ho
        injection ho with ho
        exact .inr (by omega)

/-- what At answers -/
def aT (row : List ByteArray) (i : Int) : ByteArray := if 0 ≤ i ∧ i < row.length then rdOf ByteArray.empty row i else ⟨#[]⟩
def aB (row : List ByteArray) (i : Int) : Bool := decide (0 ≤ i ∧ i < row.length)
theorem aT_get {row : List ByteArray} {i : Nat} {t : ByteArray} (h : row[i]? = some t) : aT row (i : Int) = t := by
  have hlt := (List.getElem?_eq_some_iff.1 h).1
  unfold aT
  rw [if_pos (by omega)]
  exact rd_get row i t h
theorem aB_get {row : List ByteArray} {i : Nat} {t : ByteArray} (h : row[i]? = some t) : aB row (i : Int) = true := by
  have hlt := (List.getElem?_eq_some_iff.1 h).1
  exact decide_eq_true (by omega)
theorem at_at (w : World) (base b : Nat) (row : List ByteArray) (i : Int) (h : At w base b row) :
    Calls Try.prog 17 #[.pointer (some ⟨b, 0, none⟩), .int .i64 i] w fun e w' => e = .returned (.tuple #[.string (aT row i), .bool (aB row i)]) ∧ w = w' := by
  obtain ⟨bm, v, D, hI, _⟩ := h
  by_cases hi : 0 ≤ i ∧ i < row.length
  · obtain ⟨n, rfl⟩ := Int.eq_ofNat_of_zero_le hi.1
    have hu : row[n]? = some (row[n]'(by omega)) := List.getElem?_eq_getElem (by omega)
    rw [aT_get hu, aB_get hu]
    exact at_yes w b bm v D row _ n hI hu
  · have e1 : aT row i = ⟨#[]⟩ := if_neg hi
    have e2 : aB row i = false := decide_eq_false hi
    rw [e1, e2]
    exact at_no w b bm v D row i hI (by omega)

def s1 : ByteArray := ⟨#[111, 110, 101]⟩
def s2 : ByteArray := ⟨#[116, 119, 111]⟩
def s3 : ByteArray := ⟨#[116, 104, 114, 101, 101]⟩
theorem r1 : rowAdd [] s1 = [s1] := by decide
theorem r2 : rowAdd [s1] s2 = [s1, s2] := by decide
theorem r3 : rowAdd [s1, s2] s1 = [s1, s2] := by decide
theorem p1 : posOf [] s1 = 0 := by decide
theorem p2 : posOf [s1] s2 = 1 := by decide
theorem p3 : posOf [s1, s2] s1 = 0 := by decide
theorem f2 : fN [s1, s2] s2 = 1 := by decide
theorem b2 : fB [s1, s2] s2 = true := by decide
theorem f3 : fN [s1, s2] s3 = 0 := by decide
theorem b3 : fB [s1, s2] s3 = false := by decide

set_option maxRecDepth 100000 in
theorem lives_any (w : World) : Calls Try.prog 16 #[] w fun e w' => e = .returned (.bool true) ∧ Below w.heap.size w w' := by
  go_enter Try.func16, Try.ntmps16
  go_wp2_with fail
  refine (new_at w).mono ?_
  rintro e w1 ⟨b, rfl, hat1, hbel1⟩
  have HA1 := Aside0.mk hat1
  have HB1 := Aside0.mk hbel1
  clear hat1 hbel1
  go_wp2_with fail
  refine (add_at _ w.heap.size b [] s1 HA1.out HB1.out.size (by decide) (by decide)).mono ?_
  rintro e w2 ⟨he, hat2, hb2⟩
  rw [p1] at he; subst he
  have HA2 := Aside0.mk (r1 ▸ hat2)
  have HB2 := Aside0.mk (HB1.out.trans hb2)
  clear hat2 hb2 HA1 HB1
  go_wp2_with fail
  refine (add_at _ w.heap.size b [s1] s2 HA2.out HB2.out.size (by decide) (by decide)).mono ?_
  rintro e w3 ⟨he, hat3, hb3⟩
  rw [p2] at he; subst he
  have HA3 := Aside0.mk (r2 ▸ hat3)
  have HB3 := Aside0.mk (HB2.out.trans hb3)
  clear hat3 hb3 HA2 HB2
  go_wp2_with fail
  refine (add_at _ w.heap.size b [s1, s2] s1 HA3.out HB3.out.size (by decide) (by decide)).mono ?_
  rintro e w4 ⟨he, hat4, hb4⟩
  rw [p3] at he; subst he
  have HA4 := Aside0.mk (r3 ▸ hat4)
  have HB4 := Aside0.mk (HB3.out.trans hb4)
  clear hat4 hb4 HA3 HB3
  go_wp2_with fail
  refine (find_at _ w.heap.size b [s1, s2] s2 HA4.out (by decide)).mono ?_
  rintro e w5 ⟨he, rfl⟩
  rw [f2, b2] at he; subst he
  go_wp2_with fail
  refine (find_at _ w.heap.size b [s1, s2] s3 HA4.out (by decide)).mono ?_
  rintro e w5 ⟨he, rfl⟩
  rw [f3, b3] at he; subst he
  go_wp2_with fail
  refine (len_at _ w.heap.size b [s1, s2] HA4.out).mono ?_
  rintro e w5 ⟨rfl, rfl⟩
  go_wp2_with fail
  go_ret
  exact ⟨rfl, HB4.out⟩
end Go.Proofs.Ytijmhegccakndaa
