/-
  The world of nothing with its index of texts; ordered of two whole numbers, of two texts.
-/
import Derived.Test.YtkeneiahhmbojaaGreatDoorOr
namespace Go.Proofs.YtkeneiahhmbojaaGreatDoor
open Go.RowKit Go.MapKept
open Go.Proofs.YtkeneiahhmbojaaGreatDoorW.PrintWords Go.Proofs.YtkeneiahhmbojaaGreatDoorW.PrintMore

/-- the world's struct and its index, whose blocks lie from B on and apart from the struct -/
structure Wq (w : World) (B pw b : Nat) (row : List ByteArray) : Prop where
  st : ∃ c0 c1 c2, w.heap[pw]? = some (.cells #[c0, c1, c2, .pointer (some ⟨b, 0, none⟩)] 38 (0, 0))
  ix : AtS w (fun k => B ≤ k ∧ k ≠ pw) b row
theorem Wq.wd {w : World} {B pw b : Nat} {row : List ByteArray} (h : Wq w B pw b row) : Wd w pw b B row := ⟨h.st, h.ix.at fun _ hk => hk.1⟩
theorem Wq.lt {w : World} {B pw b : Nat} {row : List ByteArray} (h : Wq w B pw b row) : pw < w.heap.size := by
  obtain ⟨c0, c1, c2, hp⟩ := h.st
  exact (Array.getElem?_eq_some_iff.1 hp).1
theorem heap_alloc_size' (w : World) (o : Obj) : (w.alloc o).heap.size = w.heap.size + 1 := by simp
theorem empty_wq (w : World) : Calls Tryz.prog 11 #[] w fun e w' => ∃ pw b, e = .returned (.pointer (some ⟨pw, 0, none⟩)) ∧ Wq w' w.heap.size pw b [] ∧ Below w.heap.size w w' := by
  go_enter Tryz.func11, Tryz.ntmps11
  go_wp2_with fail
  refine (heapNew_calls _).mono ?_
  rintro e w1 ⟨rfl, rfl⟩
  go_wp2_with fail
  refine (new_at _).mono ?_
  rintro e w2 ⟨b, rfl, hA, hb⟩
  have HA := Aside0.mk hA
  have HB := Aside0.mk hb
  clear hA hb
  go_wp2_with fail
  go_ret
  have hsz := HB.out.size
  refine ⟨_, _, rfl, ⟨⟨_, _, _, heap_alloc_last w2 _⟩, ?_⟩, ?_⟩
  · have h1 := (AtS.of HA.out).kept (w' := w2.alloc (.cells #[.slice none 0 0, .slice none 0 0, .pointer (some ⟨w.heap.size, 0, none⟩), .pointer (some ⟨b, 0, none⟩)] 38)) (fun k hk hlt => Below.heap_alloc _ _ _ hlt)
    refine h1.mono fun k hk => ?_
    have h2 := hk.1
    have h3 := hk.2
    rw [heap_alloc_size'] at h2
    exact ⟨by omega, by omega⟩
  · exact ((below_alloc1 w _).trans (HB.out.mono (by simp))).alloc (by simp at hsz; omega) _
theorem add_wq (w : World) (B pw b : Nat) (row : List ByteArray) (t : ByteArray) (h : Wq w B pw b row) (hB : B ≤ w.heap.size) (hs : t.size ≤ maxLen) (hn : (row.length + 1) * 16 ≤ 140737488355328) :
    Calls Tryz.prog 12 #[.pointer (some ⟨b, 0, none⟩), .string t] w fun e w' => e = .returned (.int .i64 (posOf row t : Int)) ∧ Wq w' B pw b (rowAdd row t) ∧ Below B w w' := by
  have hlt := h.lt
  obtain ⟨⟨c0, c1, c2, hp⟩, hA⟩ := h
  refine (add_S w _ b row t hA hs hn).mono fun e w' ⟨he, hA', hk⟩ => ⟨he, ⟨⟨c0, c1, c2, (hk.block pw hlt (fun hc => hc.2 rfl)).trans hp⟩, hA'.mono fun k hk' => ?_⟩, hk.below (fun k hk => hk.1) hB⟩
  rcases hk' with hk' | hk'
  · exact hk'
  · exact ⟨by omega, by omega⟩
theorem ans_of (p : Value) (w : World) (k ka a kb b : Int) (r : Bool) (hA : AppC p w k ka a kb b r) : Ans p w k (.agg #[.int .i64 ka, .int .i64 a]) (.agg #[.int .i64 kb, .int .i64 b]) r := by
  cases r
  · exact ans_false p w k ka a kb b hA
  · exact ans_true p w k ka a kb b hA
theorem ordered_any (p : Value) (w : World) (ka a kb b : Int) (bl al : Bool) (hn : (bl && al) = false)
    (h0 : AppC p w 27 ka a kb b bl) (h1 : AppC p w 27 kb b ka a (!bl && !al)) (h2 : AppC p w 28 ka a kb b (bl || al)) (h3 : AppC p w 28 kb b ka a (!bl)) (h4 : AppC p w 25 ka a kb b al) (h5 : AppC p w 25 kb b ka a al) (h6 : AppC p w 26 ka a kb b (!al)) (h7 : AppC p w 26 kb b ka a (!al)) (h8 : AppC p w 25 ka a ka a true) (W : World) (hW : Below w.heap.size w W) :
    Calls Tryz.prog 13 #[p, .agg #[.int .i64 ka, .int .i64 a], .agg #[.int .i64 kb, .int .i64 b], .bool bl, .bool al] W fun e w' => e = .returned (.bool true) ∧ Below W.heap.size W w' := by
  cases bl <;> cases al
  · exact ordered_gt p w ka a kb b _ _ rfl rfl (ans_of _ _ _ _ _ _ _ _ h0) (ans_of _ _ _ _ _ _ _ _ h1) (ans_of _ _ _ _ _ _ _ _ h2) (ans_of _ _ _ _ _ _ _ _ h3) (ans_of _ _ _ _ _ _ _ _ h4) (ans_of _ _ _ _ _ _ _ _ h5) (ans_of _ _ _ _ _ _ _ _ h6) (ans_of _ _ _ _ _ _ _ _ h7) (ans_of _ _ _ _ _ _ _ _ h8) W hW
  · exact ordered_eq p w ka a kb b _ _ rfl rfl (ans_of _ _ _ _ _ _ _ _ h0) (ans_of _ _ _ _ _ _ _ _ h1) (ans_of _ _ _ _ _ _ _ _ h2) (ans_of _ _ _ _ _ _ _ _ h3) (ans_of _ _ _ _ _ _ _ _ h4) (ans_of _ _ _ _ _ _ _ _ h5) (ans_of _ _ _ _ _ _ _ _ h6) (ans_of _ _ _ _ _ _ _ _ h7) (ans_of _ _ _ _ _ _ _ _ h8) W hW
  · exact ordered_lt p w ka a kb b _ _ rfl rfl (ans_of _ _ _ _ _ _ _ _ h0) (ans_of _ _ _ _ _ _ _ _ h1) (ans_of _ _ _ _ _ _ _ _ h2) (ans_of _ _ _ _ _ _ _ _ h3) (ans_of _ _ _ _ _ _ _ _ h4) (ans_of _ _ _ _ _ _ _ _ h5) (ans_of _ _ _ _ _ _ _ _ h6) (ans_of _ _ _ _ _ _ _ _ h7) (ans_of _ _ _ _ _ _ _ _ h8) W hW
  · cases hn
theorem ordered_ints (p : Value) (w : World) (a b : Int) (W : World) (hW : Below w.heap.size w W) :
    Calls Tryz.prog 13 #[p, .agg #[.int .i64 2, .int .i64 a], .agg #[.int .i64 2, .int .i64 b], .bool (decide (a < b)), .bool (a == b)] W fun e w' => e = .returned (.bool true) ∧ Below W.heap.size W w' := by
  have e1 : (!decide (a < b) && !(a == b)) = decide (b < a) := by rw [Bool.eq_iff_iff]; simp; omega
  have e3 : (!decide (a < b)) = (decide (b < a) || (b == a)) := by rw [Bool.eq_iff_iff]; simp; omega
  have e5 : (a == b) = (b == a) := by rw [Bool.eq_iff_iff]; simp; omega
  refine ordered_any p w 2 a 2 b _ _ ?_ ?_ ?_ ?_ ?_ ?_ ?_ ?_ ?_ ?_ W hW
  · rw [Bool.eq_false_iff]; simp; omega
  · exact appc_lt p w 2 a 2 b _ fun W g _ hg => cmp_lt_int p g a b W hg
  · rw [e1]; exact appc_lt p w 2 b 2 a _ fun W g _ hg => cmp_lt_int p g b a W hg
  · exact appc_le p w 2 a 2 b _ fun W g _ hg => cmp_le_int p g a b W hg
  · rw [e3]; exact appc_le p w 2 b 2 a _ fun W g _ hg => cmp_le_int p g b a W hg
  · exact appc_eq p w 2 a 2 b _ fun W g _ hg => cmp_eq_int p g a b W hg
  · rw [e5]; exact appc_eq p w 2 b 2 a _ fun W g _ hg => cmp_eq_int p g b a W hg
  · exact appc_ne p w 2 a 2 b _ fun W g _ hg => cmp_ne_int p g a b W hg
  · rw [e5]; exact appc_ne p w 2 b 2 a _ fun W g _ hg => cmp_ne_int p g b a W hg
  · have := appc_eq p w 2 a 2 a _ fun W g _ hg => cmp_eq_int p g a a W hg
    rwa [beq_self_eq_true] at this
theorem bl_flip : ∀ x y : List UInt8, Op.bytesLess y x = (!Op.bytesLess x y && !(x == y))
  | [], [] => by decide
  | [], _ :: _ => by simp [Op.bytesLess]
  | _ :: _, [] => by simp [Op.bytesLess]
  | a :: x, b :: y => by
    have ih := bl_flip x y
    simp only [Op.bytesLess, List.cons_beq_cons, ih]
    rcases Nat.lt_trichotomy a.toNat b.toNat with h | h | h
    · have h1 : a < b := h
      have h2 : ¬ b < a := fun h' => by have : b.toNat < a.toNat := h'; omega
      have h3 : (a == b) = false := by simp; intro h'; rw [h'] at h; omega
      have h4 : (b == a) = false := by simp; intro h'; rw [h'] at h; omega
      simp [h1, h2, h3, h4]
    · have h1 : a = b := UInt8.toNat_inj.1 h
      subst h1
      have h2 : ¬ a < a := fun h' => by have : a.toNat < a.toNat := h'; omega
      simp [h2]
    · have h1 : b < a := h
      have h2 : ¬ a < b := fun h' => by have : a.toNat < b.toNat := h'; omega
      have h3 : (a == b) = false := by simp; intro h'; rw [h'] at h; omega
      have h4 : (b == a) = false := by simp; intro h'; rw [h'] at h; omega
      simp [h1, h2, h3, h4]
theorem te_comm (s t : ByteArray) : te t s = te s t := BEq.comm
theorem tl_flip (s t : ByteArray) : tl t s = (!tl s t && !te s t) := bl_flip s.toList t.toList
theorem tl_te (s t : ByteArray) : (tl s t && te s t) = false := by
  rw [tl_flip t s, te_comm s t]
  cases te s t <;> simp
theorem ordered_texts (w : World) (pw b B : Nat) (row : List ByteArray) (i j : Nat) (s t : ByteArray) (hWd : Wd w pw b B row) (hs : row[i]? = some s) (ht : row[j]? = some t) (hij : ((i : Int) == (j : Int)) = te s t) (W : World) (hW : Below w.heap.size w W) :
    Calls Tryz.prog 13 #[.pointer (some ⟨pw, 0, none⟩), .agg #[.int .i64 4, .int .i64 (i : Int)], .agg #[.int .i64 4, .int .i64 (j : Int)], .bool (tl s t), .bool (te s t)] W fun e w' => e = .returned (.bool true) ∧ Below W.heap.size W w' := by
  have hji : ((j : Int) == (i : Int)) = te s t := by rw [← hij]; exact BEq.comm
  have e3 : (!tl s t) = (tl t s || te t s) := by
    have h1 := tl_flip s t
    have h2 := tl_te s t
    rw [h1, te_comm s t]
    revert h2
    cases tl s t <;> cases te s t <;> simp
  refine ordered_any _ w 4 i 4 j _ _ (tl_te s t) ?_ ?_ ?_ ?_ ?_ ?_ ?_ ?_ ?_ W hW
  · exact appc_lt _ w 4 i 4 j _ fun W g hW hg => cmp_lt_text pw b B row i j s t hs ht g W (hWd.below hW) hg
  · rw [← tl_flip]; exact appc_lt _ w 4 j 4 i _ fun W g hW hg => cmp_lt_text pw b B row j i t s ht hs g W (hWd.below hW) hg
  · exact appc_le _ w 4 i 4 j _ fun W g hW hg => cmp_le_text pw b B row i j s t hs ht g W (hWd.below hW) hg
  · rw [e3]; exact appc_le _ w 4 j 4 i _ fun W g hW hg => cmp_le_text pw b B row j i t s ht hs g W (hWd.below hW) hg
  · rw [← hij]; exact appc_eq _ w 4 i 4 j _ fun W g _ hg => cmp_eq_text _ g i j W hg
  · rw [← hji]; exact appc_eq _ w 4 j 4 i _ fun W g _ hg => cmp_eq_text _ g j i W hg
  · rw [← hij]; exact appc_ne _ w 4 i 4 j _ fun W g _ hg => cmp_ne_text _ g i j W hg
  · rw [← hji]; exact appc_ne _ w 4 j 4 i _ fun W g _ hg => cmp_ne_text _ g j i W hg
  · have := appc_eq (.pointer (some ⟨pw, 0, none⟩)) w 4 i 4 i _ fun W g _ hg => cmp_eq_text _ g i i W hg
    rwa [beq_self_eq_true] at this
/-- the numbers of two texts in an index that was empty -/
theorem two_rows (s t : ByteArray) : (rowAdd (rowAdd [] s) t)[posOf [] s]? = some s ∧ (rowAdd (rowAdd [] s) t)[posOf (rowAdd [] s) t]? = some t ∧ (((posOf [] s : Nat) : Int) == ((posOf (rowAdd [] s) t : Nat) : Int)) = te s t := by
  have h0 : posOf ([] : List ByteArray) s = 0 := rfl
  have h1 : rowAdd [] s = [s] := by unfold rowAdd; simp
  rw [h0, h1]
  by_cases h : s = t
  · subst h
    have h2 : rowAdd [s] s = [s] := by unfold rowAdd; simp
    have h3 : posOf [s] s = 0 := idxOf_of rfl (fun j hj => by omega)
    rw [h2, h3]
    simp [te]
  · have h2 : rowAdd [s] t = [s, t] := by unfold rowAdd; simp [Ne.symm h]
    have h3 : posOf [s] t = 1 := idxOf_not_mem (fun hm => h (List.mem_singleton.1 hm).symm)
    rw [h2, h3]
    refine ⟨rfl, rfl, ?_⟩
    have h4 : te s t = false := by
      unfold te
      rw [Bool.eq_false_iff]
      intro hc
      have h5 : s.toList = t.toList := eq_of_beq hc
      rw [ByteArray.toList_eq, ByteArray.toList_eq] at h5
      exact h (ByteArray.ext (Array.toList_inj.1 h5))
    rw [h4]
    rfl
end Go.Proofs.YtkeneiahhmbojaaGreatDoor
