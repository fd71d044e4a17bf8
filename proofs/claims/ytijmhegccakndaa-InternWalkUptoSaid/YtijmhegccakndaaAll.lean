/-
  The index's All, and its iterator's word.
-/
import Derived.Test.YtijmhegccakndaaRf
import Derived.Test.YtijmhegccakndaaCut
namespace Go.Proofs.Ytijmhegccakndaa
open Go.RowKit Go.Maps Go.WideMaps
open Go.Proofs.YtijmhegccakndaaW.PrintWords Go.Proofs.YtijmhegccakndaaW.PrintMore
attribute [local go_sem] Oper.semAt_some

/-- the index of block b over the map of block bm holds the row -/
def Ixd (W : World) (b bm : Nat) (row : List ByteArray) : Prop := ∃ v D, Ix W b bm v D row
theorem Ixd.slice {W : World} {b bm : Nat} {row : List ByteArray} (h : Ixd W b bm row) : ∃ A c, W.cell? ⟨b, 1, none⟩ = some (.slice A row.length c) ∧ row.length ≤ 9223372036854775807 ∧ ∀ (i : Nat) t, row[i]? = some t → ∃ g, A = some ⟨g, 0, none⟩ ∧ W.cell? ⟨g, i, none⟩ = some (.string t) := by
  obtain ⟨v, D, hI⟩ := h
  obtain ⟨A, c, rfl⟩ := hI.slice
  refine ⟨A, c, by simp [World.cell?, hI.block], ?_, fun i t hi => ?_⟩
  · rcases hI.items.2 with ⟨_, h1⟩ | ⟨g', cap', cur, he, _, _, h1, h2, _⟩
    · omega
    · simp only [maxLen] at h2; omega
  · have hlt : i < row.length := (List.getElem?_eq_some_iff.1 hi).1
    obtain ⟨g, cap, he, _, _⟩ := hI.items.form (by omega)
    injection he with he _ _
    subst he
    refine ⟨g, rfl, ?_⟩
    have := hI.items.cellAt i (by omega)
    rw [this]
    simp [strs_, encs, hi]
theorem Ixd.own {B b bm : Nat} {row : List ByteArray} (hbm : bm < B) : OwnFrom B (fun (_ : Unit) W => Ixd W b bm row) := by
  intro _ W W' rw hs hg hr
  obtain ⟨v, D, hI⟩ := hs
  refine ⟨v, D, hI.kept fun k hk => hg.block k (hI.lt k hk) fun e => ?_⟩
  obtain ⟨h1, o, ho, hc⟩ := hr k e.symm
  rcases hk with rfl | rfl | hk
  · rw [hI.block] at ho; cases ho; cases hc
  · omega
  · rcases hI.items.2 with ⟨rfl, _⟩ | ⟨g, cap, cur, rfl, _, hgh, _⟩
    · simp [Value.ownBlock] at hk
    · simp [Value.ownBlock] at hk
      subst hk
      rw [hgh] at ho; cases ho; cases hc

theorem all_calls (w : World) (b : Nat) : Calls Try.prog 39 #[.pointer (some ⟨b, 0, none⟩)] w fun e w' => e = .returned (.func (.func 52) #[] #[.pointer (some ⟨w.heap.size, 0, none⟩)]) ∧ w.alloc (.cells #[.pointer (some ⟨b, 0, none⟩)] 23) = w' := by
  go_enter Try.func39, Try.ntmps39
  go_wp2
  go_ret
  exact ⟨rfl, rfl⟩

abbrev enc2 (x : Int × ByteArray) : Array Value := #[.int .i64 x.1, .string x.2]
/-- what comes next -/
def Nxt (b bm n0 : Nat) (pre : List (Int × ByteArray)) (x : Int × ByteArray) (W : World) : Prop := x.1 = (pre.length : Int) ∧ pre.length < n0 ∧ ∃ row, Ixd W b bm row ∧ row[pre.length]? = some x.2
/-- nothing more comes -/
def Ran (b bm n0 : Nat) (pre : List (Int × ByteArray)) (W : World) : Prop := ∃ row, Ixd W b bm row ∧ (n0 ≤ pre.length ∨ row.length ≤ pre.length)

set_option maxRecDepth 100000 in
set_option maxHeartbeats 2000000 in
theorem all_iter (n b bm bx n0 : Nat) (hn : 1 ≤ n) (I : List (Int × ByteArray) → World → Prop)
    (hI : ∀ pre W, I pre W → W.cell? ⟨bx, 0, none⟩ = some (.pointer (some ⟨b, 0, none⟩)) ∧ ∃ row, Ixd W b bm row) (h0 : ∀ W, I [] W → ∃ row, Ixd W b bm row ∧ row.length = n0) :
    Iter Fence.wide n Try.prog 52 #[.pointer (some ⟨bx, 0, none⟩)] enc2 (Nxt b bm n0) (Ran b bm n0) I := by
  intro l J Jx W hJI hJg hY hJ0
  obtain ⟨row0, hx0, hl0⟩ := h0 W (hJI _ _ hJ0)
  obtain ⟨A0, c0, hc0, hm0, _⟩ := hx0.slice
  rw [hl0] at hc0 hm0
  have hb0 := (hI _ _ (hJI _ _ hJ0)).1
  have HI := Aside0.mk hI
  have HJI := Aside0.mk hJI
  have HJg := Aside0.mk hJg
  have HY := Aside0.mk hY
  have HJ0 := Aside0.mk hJ0
  clear hI h0 hJI hJg hY hJ0 hx0 hl0
  refine callsIn_of_wp Try.func52 rfl trivial ?_ rfl
  simp only [Try.ntmps52, List.size_toArray, List.length_cons, List.length_nil, Nat.reduceAdd, Nat.reduceSub, Array.replicate_succ, Array.replicate_zero, List.push_toArray, List.append_toArray, List.nil_append, List.cons_append]
  gi_wp2
  gi_loopw [4] (fun i wr => ∃ pre : List (Int × ByteArray), i = .int .i64 (pre.length : Int) ∧ pre.length ≤ n0 ∧ Aside0 (J pre wr)) (fun i _ => n0 - (intOf i).toNat)
  case atStart => exact ⟨[], rfl, Nat.zero_le _, HJ0⟩
  case round =>
    obtain ⟨pre, rfl, hk, HJ⟩ := hrel
    obtain ⟨hb, row, hx⟩ := HI.out _ _ (HJI.out _ _ HJ.out)
    obtain ⟨A, c, hc, hm, hat⟩ := hx.slice
    have HX := Aside0.mk hx
    have HAT := Aside0.mk hat
    clear hx hat hb0 hc0
    by_cases hlt : pre.length < n0
    · by_cases hlr : pre.length < row.length
      · obtain ⟨t, ht⟩ : ∃ t, row[pre.length]? = some t := ⟨_, List.getElem?_eq_getElem hlr⟩
        obtain ⟨g, rfl, hct⟩ := HAT.out _ _ ht
        obtain ⟨fn, tmps, assign, body, hy, hR⟩ := HY.out pre ((pre.length : Int), t) wr HJ.out ⟨rfl, hlt, row, HX.out, ht⟩
        have l1 : (pre.length : Int) < (n0 : Int) := by omega
        have l2 : (pre.length : Int) < (row.length : Int) := by omega
        have HR := Aside0.mk hR
        clear hR ht
        gi_wp2
        refine HR.out.mono ?_
        rintro e W3 (⟨rfl, hJ3⟩ | ⟨rfl, hJx3⟩)
        · have HJ3 := Aside0.mk hJ3
          clear hJ3
          gi_wp2
          go_roundw
          case rel => exact ⟨pre ++ [((pre.length : Int), t)], by simp, by simp; omega, HJ3⟩
          case measure => simp [intOf]; omega
        · gi_wp2
          refine bodyPost_ret (results_none rfl _ _ _) rfl ?_
          exact ⟨⟨_, rfl⟩, .inr hJx3⟩
      · have l1 : (pre.length : Int) < (n0 : Int) := by omega
        have l2 : ¬ (pre.length : Int) < (row.length : Int) := by omega
        gi_wp2
        go_end0
        exact ⟨⟨_, rfl⟩, .inl ⟨pre, HJ.out, row, HX.out, .inr (by omega)⟩⟩
    · have l1 : ¬ (pre.length : Int) < (n0 : Int) := by omega
      gi_wp2
      go_end0
      exact ⟨⟨_, rfl⟩, .inl ⟨pre, HJ.out, row, HX.out, .inl (by omega)⟩⟩
end Go.Proofs.Ytijmhegccakndaa
