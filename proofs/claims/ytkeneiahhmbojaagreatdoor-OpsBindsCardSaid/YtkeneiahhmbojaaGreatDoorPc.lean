/-
  heap.Load of nothing.
  The world's heap is spent from; a new text.
  texts at cat and cut; inside at len.
  texts at cut; inside at len.
  inside at len.
  do and Apply at cat, cut, len. (Printed by wip/tools/ops_Dt.py.)
  Apply at cat, cut, len on texts of the index. (Printed by wip/tools/ops_Du.py.)
  The index's From.
  CopyProgram: a program of nothing.
  made: a world under a budget, of some texts.
  made under OpsPieces' budget; Pick up to 5000; Add in the world.
  Objects beside the world of texts; all orders of a region come to one frame.
-/
import Derived.Test.YtkeneiahhmbojaaGreatDoorPy
import Derived.IntWalk
import Derived.Test.YtkeneiahhmbojaaGreatDoorIw
namespace Go.Proofs.YtkeneiahhmbojaaGreatDoor
open Go.RowKit Go.MapKept
open Go.Proofs.YtkeneiahhmbojaaGreatDoorW.PrintWords Go.Proofs.YtkeneiahhmbojaaGreatDoorW.PrintMore

theorem heapNew_10 (w : World) : Calls Tryz.prog 25 #[.int .i64 10, .int .i64 0] w fun e w' => e = .returned (.pointer (some ⟨w.heap.size, 0, none⟩)) ∧ w.alloc (.cells #[.int .i64 10, .int .i64 0, .slice none 0 0] 94) = w' := by
  go_enter Tryz.func25, Tryz.ntmps25
  go_wp2_with fail
  go_ret
  exact ⟨rfl, rfl⟩
set_option maxRecDepth 100000 in
theorem load_10 (w : World) : Calls Tryz.prog 29 #[.int .i64 10, .int .i64 0, .slice none 0 0] w fun e w' => e = .returned (.tuple #[.pointer (some ⟨w.heap.size, 0, none⟩), .bool true]) ∧ w.alloc (.cells #[.int .i64 10, .int .i64 0, .slice none 0 0] 94) = w' := by
  go_enter Tryz.func29, Tryz.ntmps29
  go_wp2_with fail
  refine (heapNew_10 _).mono ?_
  rintro e w1 ⟨rfl, rfl⟩
  go_wp2_with fail
  go_loopw [20] (fun i wr => i = .int .i64 0 ∧ w.alloc (.cells #[.int .i64 10, .int .i64 0, .slice none 0 0] 94) = wr) (fun _ _ => 0)
  case atStart => exact ⟨rfl, rfl⟩
  case round =>
    obtain ⟨rfl, rfl⟩ := hrel
    go_wp2_with fail
    go_loopw [47] (fun i wr => i = .int .i64 0 ∧ w.alloc (.cells #[.int .i64 10, .int .i64 0, .slice none 0 0] 94) = wr) (fun _ _ => 0)
    case atStart => exact ⟨rfl, rfl⟩
    case round =>
      obtain ⟨rfl, rfl⟩ := hrel
      go_wp2_with fail
      go_ret2
      exact ⟨rfl, rfl⟩
theorem heapNew_big (w : World) : Calls Tryz.prog 25 #[.int .i64 1048576, .int .i64 0] w fun e w' => e = .returned (.pointer (some ⟨w.heap.size, 0, none⟩)) ∧ w.alloc (.cells #[.int .i64 1048576, .int .i64 0, .slice none 0 0] 94) = w' := by
  go_enter Tryz.func25, Tryz.ntmps25
  go_wp2_with fail
  go_ret
  exact ⟨rfl, rfl⟩
set_option maxRecDepth 100000 in
theorem load_big (w : World) : Calls Tryz.prog 29 #[.int .i64 1048576, .int .i64 0, .slice none 0 0] w fun e w' => e = .returned (.tuple #[.pointer (some ⟨w.heap.size, 0, none⟩), .bool true]) ∧ w.alloc (.cells #[.int .i64 1048576, .int .i64 0, .slice none 0 0] 94) = w' := by
  go_enter Tryz.func29, Tryz.ntmps29
  go_wp2_with fail
  refine (heapNew_big _).mono ?_
  rintro e w1 ⟨rfl, rfl⟩
  go_wp2_with fail
  go_loopw [20] (fun i wr => i = .int .i64 0 ∧ w.alloc (.cells #[.int .i64 1048576, .int .i64 0, .slice none 0 0] 94) = wr) (fun _ _ => 0)
  case atStart => exact ⟨rfl, rfl⟩
  case round =>
    obtain ⟨rfl, rfl⟩ := hrel
    go_wp2_with fail
    go_loopw [47] (fun i wr => i = .int .i64 0 ∧ w.alloc (.cells #[.int .i64 1048576, .int .i64 0, .slice none 0 0] 94) = wr) (fun _ _ => 0)
    case atStart => exact ⟨rfl, rfl⟩
    case round =>
      obtain ⟨rfl, rfl⟩ := hrel
      go_wp2_with fail
      go_ret2
      exact ⟨rfl, rfl⟩
end Go.Proofs.YtkeneiahhmbojaaGreatDoor

namespace Go.Proofs.YtkeneiahhmbojaaGreatDoor
open Go.RowKit Go.MapKept
open Go.Proofs.YtkeneiahhmbojaaGreatDoorW.PrintWords Go.Proofs.YtkeneiahhmbojaaGreatDoorW.PrintMore

/-- what changed lies in the index's blocks or in the heap's struct; the index's blocks grew by new ones alone -/
structure Stp (w : World) (S : Nat → Prop) (hp : Nat) (w' : World) (S' : Nat → Prop) : Prop where
  kp : Kp w w' (fun k => S k ∨ k = hp)
  up : ∀ k, S' k → S k ∨ w.heap.size ≤ k
theorem Stp.trans {a b c : World} {S S' S'' : Nat → Prop} {hp : Nat} (h : Stp a S hp b S') (k : Stp b S' hp c S'') : Stp a S hp c S'' :=
  ⟨h.kp.trans k.kp (fun j hj => by
    rcases hj with hj | hj
    · rcases h.up j hj with h1 | h1
      · exact .inl (.inl h1)
      · exact .inr h1
    · exact .inl (.inr hj)), fun j hj => by
    rcases k.up j hj with h1 | h1
    · exact h.up j h1
    · have := h.kp.size; exact .inr (by omega)⟩
theorem Stp.of_below {w w' : World} {S : Nat → Prop} {hp : Nat} (h : Below w.heap.size w w') : Stp w S hp w' S :=
  ⟨⟨h.os, h.tape, h.output, h.size, fun k hk _ => h.block k hk⟩, fun _ hk => .inl hk⟩
theorem Stp.block {w w' : World} {S S' : Nat → Prop} {hp g : Nat} {o : Obj} (h : Stp w S hp w' S') (hg : w.heap[g]? = some o) (hS : ¬ S g) (hn : g ≠ hp) : w'.heap[g]? = some o ∧ ¬ S' g :=
  ⟨(h.kp.block g (Array.getElem?_eq_some_iff.1 hg).1 (fun hc => hc.elim hS hn)).trans hg, fun hc => by
    have := (Array.getElem?_eq_some_iff.1 hg).1
    rcases h.up g hc with h1 | h1
    · exact hS h1
    · omega⟩
/-- the world's struct, its heap's struct, its index of texts -/
structure Wt (w : World) (S : Nat → Prop) (pw hp b : Nat) (bud sp : Int) (row : List ByteArray) : Prop where
  st : ∃ c0 c1, w.heap[pw]? = some (.cells #[c0, c1, .pointer (some ⟨hp, 0, none⟩), .pointer (some ⟨b, 0, none⟩)] 38 (0, 0))
  hs : w.heap[hp]? = some (.cells #[.int .i64 bud, .int .i64 sp, .slice none 0 0] 94 (0, 0))
  ix : AtS w S b row
  np : ¬ S pw
  nh : ¬ S hp
  ne : pw ≠ hp
theorem Wt.below {w w' : World} {S : Nat → Prop} {pw hp b : Nat} {bud sp : Int} {row : List ByteArray} (h : Wt w S pw hp b bud sp row) (hb : Below w.heap.size w w') : Wt w' S pw hp b bud sp row := by
  obtain ⟨⟨c0, c1, h1⟩, h2, h3, h4, h5, h6⟩ := h
  exact ⟨⟨c0, c1, (hb.block _ (Array.getElem?_eq_some_iff.1 h1).1).trans h1⟩, (hb.block _ (Array.getElem?_eq_some_iff.1 h2).1).trans h2, h3.kept fun k _ hk => hb.block k hk, h4, h5, h6⟩
theorem spent_calls (w : World) (hp : Nat) (bud sp : Int) (hh : w.heap[hp]? = some (.cells #[.int .i64 bud, .int .i64 sp, .slice none 0 0] 94 (0, 0))) :
    Calls Tryz.prog 18 #[.pointer (some ⟨hp, 0, none⟩)] w fun e w' => e = .returned (.int .i64 sp) ∧ w = w' := by
  have c1 : w.cell? ⟨hp, 1, none⟩ = some (.int .i64 sp) := by rw [cell_of_row _ _ 1 _ _ _ hh]; rfl
  clear hh
  go_enter Tryz.func18, Tryz.ntmps18
  go_wp2_with fail
  go_ret
  exact ⟨rfl, rfl⟩
theorem setCell_row (w : World) (hp : Nat) (bud sp v : Int) (q : Nat) (hh : w.heap[hp]? = some (.cells #[.int .i64 bud, .int .i64 sp, .slice none 0 0] 94 (0, 0))) :
    ((w.drewN q).setCell ⟨hp, 1, none⟩ (.int .i64 v)).heap[hp]? = some (.cells #[.int .i64 bud, .int .i64 v, .slice none 0 0] 94 (0, 0)) ∧ Kp w ((w.drewN q).setCell ⟨hp, 1, none⟩ (.int .i64 v)) (fun k => k = hp) := by
  refine ⟨?_, ((Kp.refl w (fun k => k = hp)).drewN q).setCell (p := ⟨hp, 1, none⟩) (.inl rfl) _⟩
  have hlt := (Array.getElem?_eq_some_iff.1 hh).1
  have h2 := (Array.getElem?_eq_some_iff.1 hh).2
  simp [World.setCell, World.drewN, hlt, Array.getElem_modify, h2]
theorem spend_calls (w : World) (hp : Nat) (bud sp n : Int) (hh : w.heap[hp]? = some (.cells #[.int .i64 bud, .int .i64 sp, .slice none 0 0] 94 (0, 0))) (h0 : 0 ≤ n) (hsp : 0 ≤ sp) (hb : sp + n ≤ bud) (hbud : bud ≤ 1048576) :
    Calls Tryz.prog 125 #[.pointer (some ⟨hp, 0, none⟩), .int .i64 n] w fun e w' => e = .returned (.bool true) ∧ w'.heap[hp]? = some (.cells #[.int .i64 bud, .int .i64 (sp + n), .slice none 0 0] 94 (0, 0)) ∧ Kp w w' (fun k => k = hp) := by
  have HR := Aside0.mk (fun q => setCell_row w hp bud sp (sp + n) q hh)
  have c0 : w.cell? ⟨hp, 0, none⟩ = some (.int .i64 bud) := by rw [cell_of_row _ _ 0 _ _ _ hh]; rfl
  have c1 : w.cell? ⟨hp, 1, none⟩ = some (.int .i64 sp) := by rw [cell_of_row _ _ 1 _ _ _ hh]; rfl
  have f1 : w.frozen? ⟨hp, 1, none⟩ = false := frozen_of_row w _ 1 _ _ hh
  have t1 : decide (n < 0) = false := by simp; omega
  have t2 : IntKind.i64.wrap (bud - sp) = bud - sp := IntWalk.i64_in _ (by omega)
  have t3 : decide (bud - sp < n) = false := by simp; omega
  have t4 : IntKind.i64.wrap (sp + n) = sp + n := IntWalk.i64_in _ (by omega)
  clear hh h0 hsp hb hbud
  go_enter Tryz.func125, Tryz.ntmps125
  go_wp2_with fail
  go_quiet (fail)
  go_wp2_with fail
  go_ret
  exact ⟨rfl, HR.out _⟩
theorem Kp.setRow (w : World) (g : Nat) (cs : Array Value) : Kp w (w.setRow g cs) (fun k => k = g) := ⟨rfl, rfl, rfl, by simp [World.setRow], fun k _ hn => setRow_other w g k cs hn⟩
theorem Wt.setRow {w : World} {S : Nat → Prop} {pw hp b : Nat} {bud sp : Int} {row : List ByteArray} (h : Wt w S pw hp b bud sp row) (g : Nat) (cs : Array Value) (h1 : ¬ S g) (h2 : pw ≠ g) (h3 : hp ≠ g) : Wt (w.setRow g cs) S pw hp b bud sp row := by
  obtain ⟨⟨c0, c1, k1⟩, k2, k3, k4, k5, k6⟩ := h
  exact ⟨⟨c0, c1, (setRow_other w g pw cs h2).trans k1⟩, (setRow_other w g hp cs h3).trans k2, k3.kept fun k hk _ => setRow_other w g k cs (fun hc => h1 (hc ▸ hk)), k4, k5, k6⟩
theorem Stp.setRow {w0 w : World} {S S' : Nat → Prop} {hp : Nat} (h : Stp w0 S hp w S') (g : Nat) (cs : Array Value) (hg : w0.heap.size ≤ g) : Stp w0 S hp (w.setRow g cs) S' :=
  ⟨h.kp.trans (Kp.setRow w g cs) (fun j hj => .inr (by omega)), h.up⟩
/-- the step of newText: spent, then added -/
theorem spent_added {w w1 w2 w3 w4 : World} {S : Nat → Prop} {pw hp b : Nat} {bud sp sp' : Int} {row row' : List ByteArray} (h : Wt w S pw hp b bud sp row) (hb1 : Below w.heap.size w w1)
    (hh : w2.heap[hp]? = some (.cells #[.int .i64 bud, .int .i64 sp', .slice none 0 0] 94 (0, 0))) (hk : Kp w1 w2 (fun k => k = hp)) (hA : AtS w3 (fun k => (S k ∧ k < w.heap.size) ∨ w2.heap.size ≤ k) b row') (hk3 : Kp w2 w3 (fun k => S k ∧ k < w.heap.size)) (hb4 : Below w3.heap.size w3 w4) :
    Wt w4 (fun k => (S k ∧ k < w.heap.size) ∨ w2.heap.size ≤ k) pw hp b bud sp' row' ∧ Stp w S hp w4 (fun k => (S k ∧ k < w.heap.size) ∨ w2.heap.size ≤ k) := by
  obtain ⟨⟨c0, c1, k1⟩, k2, k3, k4, k5, k6⟩ := h
  have l1 := (Array.getElem?_eq_some_iff.1 k1).1
  have l2 := (Array.getElem?_eq_some_iff.1 k2).1
  have z1 := hb1.size
  have z2 := hk.size
  have z3 := hk3.size
  have hp1 : w1.heap[pw]? = _ := (hb1.block _ l1).trans k1
  have hp2 : w2.heap[pw]? = _ := (hk.block pw (by omega) k6).trans hp1
  have hp3 : w3.heap[pw]? = _ := (hk3.block pw (by omega) (fun hc => k4 hc.1)).trans hp2
  have hp4 : w4.heap[pw]? = _ := (hb4.block _ (by omega)).trans hp3
  have hh3 : w3.heap[hp]? = _ := (hk3.block hp (by omega) (fun hc => k5 hc.1)).trans hh
  have hh4 : w4.heap[hp]? = _ := (hb4.block _ (by omega)).trans hh3
  refine ⟨⟨⟨c0, c1, hp4⟩, hh4, hA.kept fun k _ hk => hb4.block k hk, fun hc => ?_, fun hc => ?_, k6⟩, ?_, fun k hk => ?_⟩
  · rcases hc with hc | hc
    · exact k4 hc.1
    · omega
  · rcases hc with hc | hc
    · exact k5 hc.1
    · omega
  · have q1 : Kp w w1 (fun k => S k ∨ k = hp) := ⟨hb1.os, hb1.tape, hb1.output, hb1.size, fun k hk _ => hb1.block k hk⟩
    have q2 := q1.trans hk (fun j hj => .inl (.inr hj))
    have q3 := q2.trans hk3 (fun j hj => .inl (.inl hj.1))
    exact q3.trans (S' := fun _ => False) ⟨hb4.os, hb4.tape, hb4.output, hb4.size, fun k hk _ => hb4.block k hk⟩ (fun j hj => hj.elim)
  · rcases hk with hk | hk
    · exact .inl hk.1
    · exact .inr (by omega)
set_option maxRecDepth 100000 in
theorem newText_calls (w : World) (S : Nat → Prop) (pw hp b : Nat) (bud sp : Int) (row : List ByteArray) (s : ByteArray) (h : Wt w S pw hp b bud sp row) (hsp : 0 ≤ sp) (hb : sp + (1 + (s.size : Int)) ≤ bud) (hbud : bud ≤ 1048576) (hn : (row.length + 1) * 16 ≤ 140737488355328) :
    Calls Tryz.prog 88 #[.pointer (some ⟨pw, 0, none⟩), .string s] w fun e w' => e = .returned (.agg #[.int .i64 4, .int .i64 (posOf row s : Int), .int .i64 0, .bool false]) ∧ ∃ S', Wt w' S' pw hp b bud (sp + (1 + (s.size : Int))) (rowAdd row s) ∧ Stp w S hp w' S' := by
  have HH := Aside0.mk h
  have HP := Aside0.mk (And.intro hsp (And.intro hb (And.intro hbud hn)))
  have t1 : IntKind.i64.wrap (1 + (s.size : Int)) = 1 + (s.size : Int) := IntWalk.i64_in _ (by omega)
  obtain ⟨O, hO⟩ : ∃ O, O = Obj.cells #[.int .i64 0, .int .i64 0, .int .i64 0, .bool false] 90 := ⟨_, rfl⟩
  have HO := Aside0.mk hO
  have H1 := Aside0.mk (h.below (below_alloc1 w O))
  have HZ := Aside0.mk (heap_alloc_last w O)
  obtain ⟨c0, c1, hst⟩ := H1.out.st
  have e2 : (w.alloc O).cell? ⟨pw, 2, none⟩ = some (.pointer (some ⟨hp, 0, none⟩)) := by rw [cell_of_row _ _ 2 _ _ _ hst]; rfl
  rw [hO] at e2
  have HST := Aside0.mk hst
  clear hst h hsp hb hbud hn hO
  go_enter Tryz.func88, Tryz.ntmps88
  go_wp2_with fail
  rw [← HO.out]
  refine (spend_calls _ hp bud sp _ H1.out.hs (by omega) HP.out.1 HP.out.2.1 HP.out.2.2.1).mono ?_
  rintro e w2 ⟨rfl, hh2, hk2⟩
  have hlp : pw < w.heap.size := by obtain ⟨_, _, k1⟩ := HH.out.st; exact (Array.getElem?_eq_some_iff.1 k1).1
  have hlh : hp < w.heap.size := (Array.getElem?_eq_some_iff.1 HH.out.hs).1
  have hst2 := (hk2.block pw (by simp; omega) HH.out.ne).trans HST.out
  have e3 : w2.cell? ⟨pw, 3, none⟩ = some (.pointer (some ⟨b, 0, none⟩)) := by rw [cell_of_row _ _ 3 _ _ _ hst2]; rfl
  have HI2 := Aside0.mk (((HH.out.ix.lt.kept (w' := w.alloc O) (fun k _ hk => Below.heap_alloc _ _ _ hk)).kept (w' := w2) (fun k hk hk' => hk2.block k hk' (fun hc => HH.out.nh (hc ▸ hk.1)))))
  have HZ2 := Aside0.mk ((hk2.block _ (by simp) (by omega)).trans HZ.out)
  have HL := Aside0.mk (And.intro hlp hlh)
  have HK2 := Aside0.mk (And.intro hh2 hk2)
  clear hst2 hlp hlh hh2 hk2 HST HZ
  go_wp2_with fail
  refine (add_S w2 _ b row s HI2.out (by have := HP.out; simp only [maxLen]; omega) HP.out.2.2.2).mono ?_
  rintro e w3 ⟨rfl, hA3, hk3⟩
  have HZ3 := Aside0.mk ((hk3.block _ (Array.getElem?_eq_some_iff.1 HZ2.out).1 (fun hc => by have := hc.2; omega)).trans HZ2.out)
  have HA3 := Aside0.mk (And.intro hA3 hk3)
  clear hA3 hk3
  go_wp2_with fail
  refine (value_calls _ _ _).mono ?_
  rintro e w4 ⟨rfl, hb4⟩
  have HZ4 := Aside0.mk ((hb4.block _ (Array.getElem?_eq_some_iff.1 HZ3.out).1).trans HZ3.out)
  have HE := Aside0.mk (spent_added HH.out (below_alloc1 w O) HK2.out.1 HK2.out.2 HA3.out.1 HA3.out.2 hb4)
  have HG := Aside0.mk (HO.out ▸ HZ4.out)
  have HZZ := Aside0.mk HK2.out.2.size
  clear hb4 HZ2 HZ3 HZ4 HA3 HK2 HI2
  go_wp2_with (with_reducible refine wpList_store_row rfl 90 _ _ rfl w.heap.size #[.int .i64 4, .int .i64 (posOf row s : Int), .int .i64 0, .bool false] rfl rfl 90 _ HG.out (by kernel_rfl) (by kernel_rfl) (by kernel_rfl) ?_)
  refine bodyPost_ret (results_cell_row rfl _ _ w.heap.size 90 _ (0, 0) _ rfl (setRow_heap _ _ _ _ _ _ HG.out) Tryz.underlying90 rfl (by kernel_rfl)) rfl ⟨rfl, _, HE.out.1.setRow _ _ (fun hc => ?_) (by have := HL.out; omega) (by have := HL.out; omega), HE.out.2.setRow _ _ (Nat.le_refl _)⟩
  have := HZZ.out
  rw [heap_alloc_size'] at this
  omega
end Go.Proofs.YtkeneiahhmbojaaGreatDoor

namespace Go.Proofs.YtkeneiahhmbojaaGreatDoor
open Go.RowKit Go.MapKept
open Go.Proofs.YtkeneiahhmbojaaGreatDoorW.PrintWords Go.Proofs.YtkeneiahhmbojaaGreatDoorW.PrintMore

theorem Wt.wd {w : World} {S : Nat → Prop} {pw hp b : Nat} {bud sp : Int} {row : List ByteArray} (h : Wt w S pw hp b bud sp row) : Wd w pw b 0 row := by
  obtain ⟨c0, c1, h1⟩ := h.st
  exact ⟨⟨c0, c1, _, h1⟩, h.ix.at fun _ _ => Nat.zero_le _⟩
theorem Wt.lo {w : World} {S : Nat → Prop} {pw hp b : Nat} {bud sp : Int} {row : List ByteArray} (h : Wt w S pw hp b bud sp row) : Wt w (fun k => S k ∧ k < w.heap.size) pw hp b bud sp row :=
  ⟨h.st, h.hs, h.ix.lt, fun hc => h.np hc.1, fun hc => h.nh hc.1, h.ne⟩
theorem Stp.weak {w w' : World} {S S1 S' : Nat → Prop} {hp : Nat} (h : Stp w S1 hp w' S') (hS : ∀ k, S1 k → S k) : Stp w S hp w' S' :=
  ⟨h.kp.mono fun j hj => hj.imp (hS j) id, fun k hk => (h.up k hk).imp (hS k) id⟩
theorem Wt.ltp {w : World} {S : Nat → Prop} {pw hp b : Nat} {bud sp : Int} {row : List ByteArray} (h : Wt w S pw hp b bud sp row) : pw < w.heap.size := by
  obtain ⟨c0, c1, h1⟩ := h.st
  exact (Array.getElem?_eq_some_iff.1 h1).1
theorem Wt.lth {w : World} {S : Nat → Prop} {pw hp b : Nat} {bud sp : Int} {row : List ByteArray} (h : Wt w S pw hp b bud sp row) : hp < w.heap.size := (Array.getElem?_eq_some_iff.1 h.hs).1
set_option maxRecDepth 100000 in
theorem texts_cat (w : World) (S : Nat → Prop) (pw hp b g i j : Nat) (bud sp : Int) (row : List ByteArray) (s t : ByteArray) (h : Wt w S pw hp b bud sp row) (hs : row[i]? = some s) (ht : row[j]? = some t) (hg : w.heap[g]? = some (.cells #[.int .i64 4, .int .i64 (i : Int), .int .i64 4, .int .i64 (j : Int)] 41 (0, 0))) (hgS : ¬ S g) (hgh : g ≠ hp)
    (hm : s.size + t.size ≤ 4096) (hsp : 0 ≤ sp) (hb : sp + (1 + ((s ++ t).size : Int)) ≤ bud) (hbud : bud ≤ 1048576) (hn : (row.length + 1) * 16 ≤ 140737488355328) :
    Calls Tryz.prog 44 #[.pointer (some ⟨pw, 0, none⟩), .int .i64 38, .slice (some ⟨g, 0, none⟩) 2 2] w fun e w' => e = .returned (.agg #[.int .i64 4, .int .i64 (posOf row (s ++ t) : Int), .int .i64 0, .bool false]) ∧ ∃ S', Wt w' S' pw hp b bud (sp + (1 + ((s ++ t).size : Int))) (rowAdd row (s ++ t)) ∧ Stp w S hp w' S' := by
  have HH := Aside0.mk h.lo
  have HP := Aside0.mk (And.intro hsp (And.intro hb (And.intro hbud hn)))
  have HS := Aside0.mk hs
  have HT := Aside0.mk ht
  have HG := Aside0.mk (And.intro hg (And.intro hgS hgh))
  have c0 : ∀ o, (w.alloc o).cell? ⟨g, 0, none⟩ = some (.int .i64 4) := by intro o; rw [cell_of_row _ _ 0 _ _ _ ((Below.heap_alloc _ _ _ (Array.getElem?_eq_some_iff.1 hg).1).trans hg)]; rfl
  have c1 : ∀ o, (w.alloc o).cell? ⟨g, 1, none⟩ = some (.int .i64 (i : Int)) := by intro o; rw [cell_of_row _ _ 1 _ _ _ ((Below.heap_alloc _ _ _ (Array.getElem?_eq_some_iff.1 hg).1).trans hg)]; rfl
  have f1 : IntKind.i64.wrap ((s.size : Int) + (t.size : Int)) = (s.size : Int) + (t.size : Int) := IntWalk.i64_in _ (by omega)
  have f2 : decide ((4096 : Int) < (s.size : Int) + (t.size : Int)) = false := by simp; omega
  have f3 : (9223372036854775807 < s.size + t.size) = False := eq_false (by omega)
  clear hm h hsp hb hbud hn hs ht hg hgS hgh
  go_enter Tryz.func44, Tryz.ntmps44
  go_wp2_with fail
  have HA2 := Aside0.mk ((below_alloc1 w (.cells #[.int .i64 0, .int .i64 0, .int .i64 0, .bool false] 90)).alloc (by simp) (.cells #[.int .i64 4, .int .i64 (i : Int)] 41))
  refine (text_wd _ pw b 0 row i s (HH.out.wd.below HA2.out) HS.out).mono ?_
  rintro e w2 ⟨rfl, hb2⟩
  have HA3 := Aside0.mk (HA2.out.trans (hb2.mono HA2.out.size))
  have HZ3 := Aside0.mk ((hb2.block _ (by simp; omega)).trans ((Below.heap_alloc (w.alloc (.cells #[.int .i64 0, .int .i64 0, .int .i64 0, .bool false] 90)) (.cells #[.int .i64 4, .int .i64 (i : Int)] 41) _ (by simp)).trans (heap_alloc_last w (.cells #[.int .i64 0, .int .i64 0, .int .i64 0, .bool false] 90))))
  have hg3 := (HA3.out.block g (Array.getElem?_eq_some_iff.1 HG.out.1).1).trans HG.out.1
  clear hb2 c0 c1
  have c2 : w2.cell? ⟨g, 2, none⟩ = some (.int .i64 4) := by rw [cell_of_row _ _ 2 _ _ _ hg3]; rfl
  have c3 : w2.cell? ⟨g, 3, none⟩ = some (.int .i64 (j : Int)) := by rw [cell_of_row _ _ 3 _ _ _ hg3]; rfl
  clear hg3
  go_wp2_with fail
  refine (text_wd _ pw b 0 row j t (HH.out.wd.below HA3.out) HT.out).mono ?_
  rintro e w3 ⟨rfl, hb3⟩
  have HA4 := Aside0.mk (HA3.out.trans (hb3.mono HA3.out.size))
  have HZ4 := Aside0.mk ((hb3.block _ (Array.getElem?_eq_some_iff.1 HZ3.out).1).trans HZ3.out)
  clear hb3 c2 c3 HZ3
  go_wp2_with fail
  refine (newText_calls _ _ pw hp b bud sp row (s ++ t) (HH.out.below HA4.out) HP.out.1 HP.out.2.1 HP.out.2.2.1 HP.out.2.2.2).mono ?_
  rintro e w4 ⟨rfl, S', hW', hS'⟩
  have HE := Aside0.mk (And.intro hW' (((Stp.of_below HA4.out).trans hS').weak (S := S) fun k hk => hk.1))
  have HZ5 := Aside0.mk (hS'.block HZ4.out (fun hc => absurd hc.2 (Nat.lt_irrefl _)) (by have := HH.out.lth; omega))
  clear hW' hS'
  have HG5 := Aside0.mk HZ5.out.1
  go_wp2_with (with_reducible refine wpList_store_row rfl 90 _ _ rfl w.heap.size #[.int .i64 4, .int .i64 (posOf row (s ++ t) : Int), .int .i64 0, .bool false] rfl rfl 90 _ HG5.out (by kernel_rfl) (by kernel_rfl) (by kernel_rfl) ?_)
  exact bodyPost_ret (results_cell_row rfl _ _ w.heap.size 90 _ (0, 0) _ rfl (setRow_heap _ _ _ _ _ _ HG5.out) Tryz.underlying90 rfl (by kernel_rfl)) rfl ⟨rfl, _, HE.out.1.setRow _ _ HZ5.out.2 (by have := HH.out.ltp; omega) (by have := HH.out.lth; omega), HE.out.2.setRow _ _ (Nat.le_refl _)⟩
end Go.Proofs.YtkeneiahhmbojaaGreatDoor

namespace Go.Proofs.YtkeneiahhmbojaaGreatDoor
open Go.RowKit Go.MapKept
open Go.Proofs.YtkeneiahhmbojaaGreatDoorW.PrintWords Go.Proofs.YtkeneiahhmbojaaGreatDoorW.PrintMore

set_option maxRecDepth 100000 in
theorem texts_cut (w : World) (S : Nat → Prop) (pw hp b g i f t : Nat) (bud sp : Int) (row : List ByteArray) (s u : ByteArray) (h : Wt w S pw hp b bud sp row) (hs : row[i]? = some s) (hg : w.heap[g]? = some (.cells #[.int .i64 4, .int .i64 (i : Int), .int .i64 2, .int .i64 (f : Int), .int .i64 2, .int .i64 (t : Int)] 41 (0, 0))) (hgS : ¬ S g) (hgh : g ≠ hp)
    (hft : f ≤ t) (hts : t ≤ s.size) (hu : u = s.extract f t) (hsp : 0 ≤ sp) (hb : sp + (1 + (u.size : Int)) ≤ bud) (hbud : bud ≤ 1048576) (hn : (row.length + 1) * 16 ≤ 140737488355328) :
    Calls Tryz.prog 44 #[.pointer (some ⟨pw, 0, none⟩), .int .i64 39, .slice (some ⟨g, 0, none⟩) 3 3] w fun e w' => e = .returned (.agg #[.int .i64 4, .int .i64 (posOf row u : Int), .int .i64 0, .bool false]) ∧ ∃ S', Wt w' S' pw hp b bud (sp + (1 + (u.size : Int))) (rowAdd row u) ∧ Stp w S hp w' S' := by
  have HH := Aside0.mk h.lo
  have HP := Aside0.mk (And.intro hsp (And.intro hb (And.intro hbud hn)))
  have HS := Aside0.mk hs
  have HU := Aside0.mk hu
  have HG := Aside0.mk (And.intro hg (And.intro hgS hgh))
  have c0 : ∀ o, (w.alloc o).cell? ⟨g, 0, none⟩ = some (.int .i64 4) := by intro o; rw [cell_of_row _ _ 0 _ _ _ ((Below.heap_alloc _ _ _ (Array.getElem?_eq_some_iff.1 hg).1).trans hg)]; rfl
  have c1 : ∀ o, (w.alloc o).cell? ⟨g, 1, none⟩ = some (.int .i64 (i : Int)) := by intro o; rw [cell_of_row _ _ 1 _ _ _ ((Below.heap_alloc _ _ _ (Array.getElem?_eq_some_iff.1 hg).1).trans hg)]; rfl
  have f1 : decide ((f : Int) < 0) = false := by simp
  have f2 : decide ((t : Int) < (f : Int)) = false := by simp; omega
  have f3 : decide ((s.size : Int) < (t : Int)) = false := by simp; omega
  have f4 : decide (t < f) = false := by simp; omega
  have f5 : decide (s.size < t) = false := by simp; omega
  have HF := Aside0.mk (And.intro hft hts)
  clear h hsp hb hbud hn hs hg hgS hgh hu
  go_enter Tryz.func44, Tryz.ntmps44
  go_wp2_with fail
  have HA2 := Aside0.mk ((below_alloc1 w (.cells #[.int .i64 0, .int .i64 0, .int .i64 0, .bool false] 90)).alloc (by simp) (.cells #[.int .i64 4, .int .i64 (i : Int)] 41))
  refine (text_wd _ pw b 0 row i s (HH.out.wd.below HA2.out) HS.out).mono ?_
  rintro e w2 ⟨rfl, hb2⟩
  have HA3 := Aside0.mk (HA2.out.trans (hb2.mono HA2.out.size))
  have HZ3 := Aside0.mk ((hb2.block _ (by simp; omega)).trans ((Below.heap_alloc (w.alloc (.cells #[.int .i64 0, .int .i64 0, .int .i64 0, .bool false] 90)) (.cells #[.int .i64 4, .int .i64 (i : Int)] 41) _ (by simp)).trans (heap_alloc_last w (.cells #[.int .i64 0, .int .i64 0, .int .i64 0, .bool false] 90))))
  have hg3 := (HA3.out.block g (Array.getElem?_eq_some_iff.1 HG.out.1).1).trans HG.out.1
  clear hb2 c0 c1
  have c2 : w2.cell? ⟨g, 2, none⟩ = some (.int .i64 2) := by rw [cell_of_row _ _ 2 _ _ _ hg3]; rfl
  have c3 : w2.cell? ⟨g, 3, none⟩ = some (.int .i64 (f : Int)) := by rw [cell_of_row _ _ 3 _ _ _ hg3]; rfl
  have c4 : w2.cell? ⟨g, 4, none⟩ = some (.int .i64 2) := by rw [cell_of_row _ _ 4 _ _ _ hg3]; rfl
  have c5 : w2.cell? ⟨g, 5, none⟩ = some (.int .i64 (t : Int)) := by rw [cell_of_row _ _ 5 _ _ _ hg3]; rfl
  have d2 : ∀ o, (w2.alloc o).cell? ⟨g, 2, none⟩ = some (.int .i64 2) := by intro o; rw [cell_of_row _ _ 2 _ _ _ ((Below.heap_alloc _ _ _ (Array.getElem?_eq_some_iff.1 hg3).1).trans hg3)]; rfl
  have d3 : ∀ o, (w2.alloc o).cell? ⟨g, 3, none⟩ = some (.int .i64 (f : Int)) := by intro o; rw [cell_of_row _ _ 3 _ _ _ ((Below.heap_alloc _ _ _ (Array.getElem?_eq_some_iff.1 hg3).1).trans hg3)]; rfl
  have d4 : ∀ o, (w2.alloc o).cell? ⟨g, 4, none⟩ = some (.int .i64 2) := by intro o; rw [cell_of_row _ _ 4 _ _ _ ((Below.heap_alloc _ _ _ (Array.getElem?_eq_some_iff.1 hg3).1).trans hg3)]; rfl
  have d5 : ∀ o, (w2.alloc o).cell? ⟨g, 5, none⟩ = some (.int .i64 (t : Int)) := by intro o; rw [cell_of_row _ _ 5 _ _ _ ((Below.heap_alloc _ _ _ (Array.getElem?_eq_some_iff.1 hg3).1).trans hg3)]; rfl
  have e2 : ∀ o o', ((w2.alloc o).alloc o').cell? ⟨g, 2, none⟩ = some (.int .i64 2) := by intro o o'; rw [cell_of_row _ _ 2 _ _ _ ((Below.heap_alloc _ _ _ (Nat.lt_of_lt_of_le (Array.getElem?_eq_some_iff.1 hg3).1 (by simp))).trans ((Below.heap_alloc _ _ _ (Array.getElem?_eq_some_iff.1 hg3).1).trans hg3))]; rfl
  have e3 : ∀ o o', ((w2.alloc o).alloc o').cell? ⟨g, 3, none⟩ = some (.int .i64 (f : Int)) := by intro o o'; rw [cell_of_row _ _ 3 _ _ _ ((Below.heap_alloc _ _ _ (Nat.lt_of_lt_of_le (Array.getElem?_eq_some_iff.1 hg3).1 (by simp))).trans ((Below.heap_alloc _ _ _ (Array.getElem?_eq_some_iff.1 hg3).1).trans hg3))]; rfl
  have e4 : ∀ o o', ((w2.alloc o).alloc o').cell? ⟨g, 4, none⟩ = some (.int .i64 2) := by intro o o'; rw [cell_of_row _ _ 4 _ _ _ ((Below.heap_alloc _ _ _ (Nat.lt_of_lt_of_le (Array.getElem?_eq_some_iff.1 hg3).1 (by simp))).trans ((Below.heap_alloc _ _ _ (Array.getElem?_eq_some_iff.1 hg3).1).trans hg3))]; rfl
  have e5 : ∀ o o', ((w2.alloc o).alloc o').cell? ⟨g, 5, none⟩ = some (.int .i64 (t : Int)) := by intro o o'; rw [cell_of_row _ _ 5 _ _ _ ((Below.heap_alloc _ _ _ (Nat.lt_of_lt_of_le (Array.getElem?_eq_some_iff.1 hg3).1 (by simp))).trans ((Below.heap_alloc _ _ _ (Array.getElem?_eq_some_iff.1 hg3).1).trans hg3))]; rfl
  clear hg3
  go_wp2_with fail
  go_region
  all_goals go_wp2_with fail
  all_goals
    rw [← HU.out]
    refine (newText_calls _ _ pw hp b bud sp row u (HH.out.below ((HA3.out.alloc HA3.out.size _).alloc (by have := HA3.out.size; simp; omega) _).drew) HP.out.1 HP.out.2.1 HP.out.2.2.1 HP.out.2.2.2).mono ?_
    rintro e w4 ⟨rfl, S', hW', hS'⟩
    have HE := Aside0.mk (And.intro hW' (((Stp.of_below ((HA3.out.alloc HA3.out.size _).alloc (by have := HA3.out.size; simp; omega) _).drew).trans hS').weak (S := S) fun k hk => hk.1))
    have HZ5 := Aside0.mk (hS'.block ((Below.heap_alloc _ _ _ (by have := (Array.getElem?_eq_some_iff.1 HZ3.out).1; simp; omega)).trans ((Below.heap_alloc _ _ _ (Array.getElem?_eq_some_iff.1 HZ3.out).1).trans HZ3.out)) (fun hc => absurd hc.2 (Nat.lt_irrefl _)) (by have := HH.out.lth; omega))
    clear hW' hS'
    have HG5 := Aside0.mk HZ5.out.1
    go_wp2_with (with_reducible refine wpList_store_row rfl 90 _ _ rfl w.heap.size #[.int .i64 4, .int .i64 (posOf row u : Int), .int .i64 0, .bool false] rfl rfl 90 _ HG5.out (by kernel_rfl) (by kernel_rfl) (by kernel_rfl) ?_)
    exact bodyPost_ret (results_cell_row rfl _ _ w.heap.size 90 _ (0, 0) _ rfl (setRow_heap _ _ _ _ _ _ HG5.out) Tryz.underlying90 rfl (by kernel_rfl)) rfl ⟨rfl, _, HE.out.1.setRow _ _ HZ5.out.2 (by have := HH.out.ltp; omega) (by have := HH.out.lth; omega), HE.out.2.setRow _ _ (Nat.le_refl _)⟩
end Go.Proofs.YtkeneiahhmbojaaGreatDoor

namespace Go.Proofs.YtkeneiahhmbojaaGreatDoor
open Go.RowKit Go.MapKept
open Go.Proofs.YtkeneiahhmbojaaGreatDoorW.PrintWords Go.Proofs.YtkeneiahhmbojaaGreatDoorW.PrintMore

set_option maxRecDepth 100000 in
theorem inside_len (w : World) (S : Nat → Prop) (pw hp b g i : Nat) (bud sp : Int) (row : List ByteArray) (s : ByteArray) (h : Wt w S pw hp b bud sp row) (hs : row[i]? = some s) (hg : w.heap[g]? = some (.cells #[.int .i64 4, .int .i64 (i : Int)] 41 (0, 0))) :
    Calls Tryz.prog 51 #[.pointer (some ⟨pw, 0, none⟩), .int .i64 52, .slice (some ⟨g, 0, none⟩) 1 1] w fun e w' => e = .returned (.agg #[.int .i64 2, .int .i64 (s.size : Int), .int .i64 0, .bool false]) ∧ Below w.heap.size w w' := by
  have HH := Aside0.mk h
  have HS := Aside0.mk hs
  have c0 : ∀ o, (w.alloc o).cell? ⟨g, 0, none⟩ = some (.int .i64 4) := by intro o; rw [cell_of_row _ _ 0 _ _ _ ((Below.heap_alloc _ _ _ (Array.getElem?_eq_some_iff.1 hg).1).trans hg)]; rfl
  have c1 : ∀ o, (w.alloc o).cell? ⟨g, 1, none⟩ = some (.int .i64 (i : Int)) := by intro o; rw [cell_of_row _ _ 1 _ _ _ ((Below.heap_alloc _ _ _ (Array.getElem?_eq_some_iff.1 hg).1).trans hg)]; rfl
  clear h hs hg
  go_enter Tryz.func51, Tryz.ntmps51
  go_wp2_with fail
  have HA2 := Aside0.mk ((below_alloc1 w (.cells #[.int .i64 0, .int .i64 0, .int .i64 0, .bool false] 90)).alloc (by simp) (.cells #[.int .i64 4, .int .i64 (i : Int)] 41))
  refine (text_wd _ pw b 0 row i s (HH.out.wd.below HA2.out) HS.out).mono ?_
  rintro e w2 ⟨rfl, hb2⟩
  have HA3 := Aside0.mk (HA2.out.trans (hb2.mono HA2.out.size))
  have HZ3 := Aside0.mk ((hb2.block _ (by simp; omega)).trans ((Below.heap_alloc (w.alloc (.cells #[.int .i64 0, .int .i64 0, .int .i64 0, .bool false] 90)) (.cells #[.int .i64 4, .int .i64 (i : Int)] 41) _ (by simp)).trans (heap_alloc_last w (.cells #[.int .i64 0, .int .i64 0, .int .i64 0, .bool false] 90))))
  clear hb2 c0 c1
  go_wp2_with fail
  refine (number_calls _ _).mono ?_
  rintro e w3 ⟨rfl, hb3⟩
  have HE := Aside0.mk (HA3.out.trans (hb3.mono HA3.out.size))
  have HG5 := Aside0.mk ((hb3.block _ (Array.getElem?_eq_some_iff.1 HZ3.out).1).trans HZ3.out)
  clear hb3 HZ3
  go_wp2_with (with_reducible refine wpList_store_row rfl 90 _ _ rfl w.heap.size #[.int .i64 2, .int .i64 (s.size : Int), .int .i64 0, .bool false] rfl rfl 90 _ HG5.out (by kernel_rfl) (by kernel_rfl) (by kernel_rfl) ?_)
  exact bodyPost_ret (results_cell_row rfl _ _ w.heap.size 90 _ (0, 0) _ rfl (setRow_heap _ _ _ _ _ _ HG5.out) Tryz.underlying90 rfl (by kernel_rfl)) rfl ⟨rfl, below_setRow HE.out (Nat.le_refl _) _⟩
end Go.Proofs.YtkeneiahhmbojaaGreatDoor

namespace Go.Proofs.YtkeneiahhmbojaaGreatDoor
open Go.RowKit Go.MapKept
open Go.Proofs.YtkeneiahhmbojaaGreatDoorW.PrintWords Go.Proofs.YtkeneiahhmbojaaGreatDoorW.PrintMore

/-- the world behind a step: its struct, its heap and its index; what may have changed -/
def Aft (w : World) (S : Nat → Prop) (pw hp b : Nat) (bud sp : Int) (row : List ByteArray) (w' : World) : Prop := ∃ S', Wt w' S' pw hp b bud sp row ∧ Stp w S hp w' S'
theorem Aft.below {w w' w'' : World} {S : Nat → Prop} {pw hp b : Nat} {bud sp : Int} {row : List ByteArray} (h : Aft w S pw hp b bud sp row w') (hb : Below w'.heap.size w' w'') : Aft w S pw hp b bud sp row w'' := by
  obtain ⟨S', h1, h2⟩ := h
  exact ⟨S', h1.below hb, h2.trans (.of_below hb)⟩
theorem Aft.ahead {w w1 w' : World} {S : Nat → Prop} {pw hp b : Nat} {bud sp : Int} {row : List ByteArray} (h : Aft w1 S pw hp b bud sp row w') (hb : Below w.heap.size w w1) : Aft w S pw hp b bud sp row w' := by
  obtain ⟨S', h1, h2⟩ := h
  exact ⟨S', h1, (Stp.of_below hb).trans h2⟩
theorem Aft.block {w w' : World} {S : Nat → Prop} {pw hp b g n : Nat} {bud sp : Int} {row : List ByteArray} {o : Obj} (h : Aft w S pw hp b bud sp row w') (hg : w.heap[g]? = some o) (hlo : ∀ k, S k → k < n) (hn : n ≤ g) (hh : hp < n) : w'.heap[g]? = some o := by
  obtain ⟨S', h1, h2⟩ := h
  exact (h2.block hg (fun hc => by have := hlo g hc; omega) (by omega)).1
theorem Aft.setRow {w0 w w' : World} {S : Nat → Prop} {pw hp b g : Nat} {bud sp : Int} {row : List ByteArray} {o : Obj} (h : Aft w S pw hp b bud sp row w') (cs : Array Value) (hg : w.heap[g]? = some o) (hlo : ∀ k, S k → k < w0.heap.size) (hn : w0.heap.size ≤ g) (hp' : pw < w0.heap.size) (hh : hp < w0.heap.size) (hb : Below w0.heap.size w0 w) : Aft w0 S pw hp b bud sp row (w'.setRow g cs) := by
  obtain ⟨S', h1, h2⟩ := h
  have h3 := (h2.block hg (fun hc => by have := hlo g hc; omega) (by omega)).2
  exact ⟨S', h1.setRow g cs h3 (by omega) (by omega), ((Stp.of_below hb).trans h2).setRow g cs hn⟩
set_option maxRecDepth 100000 in
theorem do_txt38 (w : World) (S : Nat → Prop) (pw hp b g : Nat) (bud sp : Int) (row : List ByteArray) (A D1 : Int) (hlo : ∀ k, S k → k < w.heap.size) (hp' : pw < w.heap.size) (hh : hp < w.heap.size)
    (hR : ∀ W, Below w.heap.size w W → Calls Tryz.prog 44 #[.pointer (some ⟨pw, 0, none⟩), .int .i64 38, .slice (some ⟨g, 0, none⟩) 2 2] W fun e w' => e = .returned (.agg #[.int .i64 4, .int .i64 D1, .int .i64 0, .bool false]) ∧ Aft W S pw hp b bud sp row w') :
    Calls Tryz.prog 34 #[.pointer (some ⟨pw, 0, none⟩), .agg #[.int .i64 38, .int .i64 A], .slice (some ⟨g, 0, none⟩) 2 2] w fun e w' => e = .returned (.agg #[.int .i64 4, .int .i64 D1, .int .i64 0, .bool false]) ∧ Aft w S pw hp b bud sp row w' := by
  have HF := Aside0.mk hR
  have HL := Aside0.mk (And.intro hlo (And.intro hp' hh))
  clear hR hlo hp' hh
  go_enter Tryz.func34, Tryz.ntmps34
  go_wp2_with fail
  have HB2 := Aside0.mk ((below_alloc1 w (.cells #[.int .i64 38, .int .i64 A] 54)).alloc (by simp) (.cells #[.int .i64 0, .int .i64 0, .int .i64 0, .bool false] 90))
  have HG2 := Aside0.mk (heap_alloc2_new w (.cells #[.int .i64 38, .int .i64 A] 54) (.cells #[.int .i64 0, .int .i64 0, .int .i64 0, .bool false] 90))
  refine (HF.out _ HB2.out).mono ?_
  rintro e w3 ⟨rfl, ha⟩
  have HA := Aside0.mk ha
  have HG3 := Aside0.mk (ha.block HG2.out HL.out.1 (by omega) HL.out.2.2)
  clear ha
  go_wp2_with (with_reducible refine wpList_store_row rfl 90 _ _ rfl (w.heap.size + 1) #[.int .i64 4, .int .i64 D1, .int .i64 0, .bool false] rfl rfl 90 _ HG3.out (by kernel_rfl) (by kernel_rfl) (by kernel_rfl) ?_)
  exact bodyPost_ret (results_cell_row rfl _ _ (w.heap.size + 1) 90 _ (0, 0) _ rfl (setRow_heap _ _ _ _ _ _ HG3.out) Tryz.underlying90 rfl (by kernel_rfl)) rfl ⟨rfl, HA.out.setRow _ HG2.out HL.out.1 (by omega) HL.out.2.1 HL.out.2.2 HB2.out⟩
set_option maxRecDepth 100000 in
theorem do_txt39 (w : World) (S : Nat → Prop) (pw hp b g : Nat) (bud sp : Int) (row : List ByteArray) (A D1 : Int) (hlo : ∀ k, S k → k < w.heap.size) (hp' : pw < w.heap.size) (hh : hp < w.heap.size)
    (hR : ∀ W, Below w.heap.size w W → Calls Tryz.prog 44 #[.pointer (some ⟨pw, 0, none⟩), .int .i64 39, .slice (some ⟨g, 0, none⟩) 3 3] W fun e w' => e = .returned (.agg #[.int .i64 4, .int .i64 D1, .int .i64 0, .bool false]) ∧ Aft W S pw hp b bud sp row w') :
    Calls Tryz.prog 34 #[.pointer (some ⟨pw, 0, none⟩), .agg #[.int .i64 39, .int .i64 A], .slice (some ⟨g, 0, none⟩) 3 3] w fun e w' => e = .returned (.agg #[.int .i64 4, .int .i64 D1, .int .i64 0, .bool false]) ∧ Aft w S pw hp b bud sp row w' := by
  have HF := Aside0.mk hR
  have HL := Aside0.mk (And.intro hlo (And.intro hp' hh))
  clear hR hlo hp' hh
  go_enter Tryz.func34, Tryz.ntmps34
  go_wp2_with fail
  have HB2 := Aside0.mk ((below_alloc1 w (.cells #[.int .i64 39, .int .i64 A] 54)).alloc (by simp) (.cells #[.int .i64 0, .int .i64 0, .int .i64 0, .bool false] 90))
  have HG2 := Aside0.mk (heap_alloc2_new w (.cells #[.int .i64 39, .int .i64 A] 54) (.cells #[.int .i64 0, .int .i64 0, .int .i64 0, .bool false] 90))
  refine (HF.out _ HB2.out).mono ?_
  rintro e w3 ⟨rfl, ha⟩
  have HA := Aside0.mk ha
  have HG3 := Aside0.mk (ha.block HG2.out HL.out.1 (by omega) HL.out.2.2)
  clear ha
  go_wp2_with (with_reducible refine wpList_store_row rfl 90 _ _ rfl (w.heap.size + 1) #[.int .i64 4, .int .i64 D1, .int .i64 0, .bool false] rfl rfl 90 _ HG3.out (by kernel_rfl) (by kernel_rfl) (by kernel_rfl) ?_)
  exact bodyPost_ret (results_cell_row rfl _ _ (w.heap.size + 1) 90 _ (0, 0) _ rfl (setRow_heap _ _ _ _ _ _ HG3.out) Tryz.underlying90 rfl (by kernel_rfl)) rfl ⟨rfl, HA.out.setRow _ HG2.out HL.out.1 (by omega) HL.out.2.1 HL.out.2.2 HB2.out⟩
set_option maxRecDepth 100000 in
theorem do_len (p : Value) (A : Int) (g : Nat) (D0 D1 D2 : Int) (D3 : Bool) (w : World)
    (hR : ∀ W, Below w.heap.size w W → Calls Tryz.prog 51 #[p, .int .i64 52, .slice (some ⟨g, 0, none⟩) 1 1] W fun e w' => e = .returned (.agg #[.int .i64 D0, .int .i64 D1, .int .i64 D2, .bool D3]) ∧ Below W.heap.size W w') :
    Calls Tryz.prog 34 #[p, .agg #[.int .i64 52, .int .i64 A], .slice (some ⟨g, 0, none⟩) 1 1] w fun e w' => e = .returned (.agg #[.int .i64 D0, .int .i64 D1, .int .i64 D2, .bool D3]) ∧ Below w.heap.size w w' := by
  have HF := Aside0.mk hR
  clear hR
  go_enter Tryz.func34, Tryz.ntmps34
  go_wp2_with fail
  refine (HF.out _ ((below_alloc1 w _).alloc (by simp) _)).mono ?_
  rintro e w3 ⟨rfl, hb3⟩
  have HG3 := Aside0.mk ((hb3.block _ (by simp)).trans (heap_alloc2_new w (.cells #[.int .i64 52, .int .i64 A] 54) (.cells #[.int .i64 0, .int .i64 0, .int .i64 0, .bool false] 90)))
  have HB3 := Aside0.mk (((below_alloc1 w (.cells #[.int .i64 52, .int .i64 A] 54)).alloc (by simp) (.cells #[.int .i64 0, .int .i64 0, .int .i64 0, .bool false] 90)).trans (hb3.mono (by simp; omega)))
  clear hb3
  go_wp2_with (with_reducible refine wpList_store_row rfl 90 _ _ rfl (w.heap.size + 1) #[.int .i64 D0, .int .i64 D1, .int .i64 D2, .bool D3] rfl rfl 90 _ HG3.out (by kernel_rfl) (by kernel_rfl) (by kernel_rfl) ?_)
  exact bodyPost_ret (results_cell_row rfl _ _ (w.heap.size + 1) 90 _ (0, 0) _ rfl (setRow_heap _ _ _ _ _ _ HG3.out) Tryz.underlying90 rfl (by kernel_rfl)) rfl ⟨rfl, below_setRow HB3.out (by omega) _⟩
set_option maxRecDepth 100000 in
theorem apply_aft (k A : Int) (w : World) (S : Nat → Prop) (pw hp b g m : Nat) (bud sp : Int) (row : List ByteArray) (pt D0 D1 : Int) (hlo : ∀ k, S k → k < w.heap.size) (hp' : pw < w.heap.size) (hh : hp < w.heap.size)
    (hE : ∀ w, Calls Tryz.prog 32 #[.agg #[.int .i64 k, .int .i64 A]] w fun e w' => e = .returned (.tuple #[.int .i64 (m : Int), .int .i64 pt, .bool true]) ∧ Below w.heap.size w w')
    (hA : ∀ w, Calls Tryz.prog 33 #[.int .i64 k] w fun e w' => e = .returned (.bool true) ∧ w = w')
    (hD : ∀ W, Below w.heap.size w W → Calls Tryz.prog 34 #[.pointer (some ⟨pw, 0, none⟩), .agg #[.int .i64 k, .int .i64 A], .slice (some ⟨g, 0, none⟩) m m] W fun e w' => e = .returned (.agg #[.int .i64 D0, .int .i64 D1, .int .i64 0, .bool false]) ∧ Aft W S pw hp b bud sp row w') :
    Calls Tryz.prog 17 #[.pointer (some ⟨pw, 0, none⟩), .agg #[.int .i64 k, .int .i64 A], .slice (some ⟨g, 0, none⟩) m m] w fun e w' => e = .returned (.tuple #[.agg #[.int .i64 D0, .int .i64 D1], .int .i64 0, .bool true]) ∧ Aft w S pw hp b bud sp row w' := by
  have HE := Aside0.mk hE
  have HA := Aside0.mk hA
  have HD := Aside0.mk hD
  have HL := Aside0.mk (And.intro hlo (And.intro hp' hh))
  clear hE hA hD hlo hp' hh
  go_enter Tryz.func17, Tryz.ntmps17
  go_wp2_with fail
  refine (HE.out _).mono ?_
  rintro e w1 ⟨rfl, hb⟩
  obtain ⟨hc1, hf1⟩ := bcell hb
  have hz : w.heap.size + 1 < w1.heap.size := by have := hb.size; simp at this; omega
  have HG1 := Aside0.mk ((hb.block _ (by simp)).trans (heap_alloc2_new w (.cells #[.int .i64 k, .int .i64 A] 54) (.cells #[.int .i64 0, .int .i64 0] 41)))
  have HB1 := Aside0.mk ((((below_alloc1 w (.cells #[.int .i64 k, .int .i64 A] 54)).alloc (by simp) (.cells #[.int .i64 0, .int .i64 0] 41))).trans (hb.mono (by simp; omega)))
  clear hb
  go_wp2_with fail
  refine (HA.out _).mono ?_
  rintro e w2 ⟨rfl, rfl⟩
  have hmm : ((m : Int) != (m : Int)) = false := by simp
  go_wp2_with fail
  refine (HD.out w1 HB1.out).mono ?_
  rintro e w3 ⟨rfl, ha⟩
  have HA3 := Aside0.mk (fun o => ha.below (below_alloc1 w3 o))
  clear ha hc1 hf1
  have HG4 := Aside0.mk (fun o => (HA3.out o).block HG1.out HL.out.1 (by omega) HL.out.2.2)
  go_wp2_with (with_reducible refine wpList_store_row rfl 41 _ _ rfl (w.heap.size + 1) #[.int .i64 D0, .int .i64 D1] rfl rfl 41 _ (HG4.out _) (by kernel_rfl) (by kernel_rfl) (by kernel_rfl) ?_)
  exact bodyPost_ret (results_ctt rfl _ _ (w.heap.size + 1) 41 _ (0, 0) _ rfl (setRow_heap _ _ _ _ _ _ (HG4.out _)) Tryz.underlying41 rfl (by kernel_rfl)) rfl ⟨rfl, (HA3.out _).setRow _ HG1.out HL.out.1 (by omega) HL.out.2.1 HL.out.2.2 HB1.out⟩
end Go.Proofs.YtkeneiahhmbojaaGreatDoor

namespace Go.Proofs.YtkeneiahhmbojaaGreatDoor
open Go.RowKit Go.MapKept
open Go.Proofs.YtkeneiahhmbojaaGreatDoorW.PrintWords Go.Proofs.YtkeneiahhmbojaaGreatDoorW.PrintMore

theorem Aft.weak {w w' : World} {S S1 : Nat → Prop} {pw hp b : Nat} {bud sp : Int} {row : List ByteArray} (h : Aft w S1 pw hp b bud sp row w') (hS : ∀ k, S1 k → S k) : Aft w S pw hp b bud sp row w' := by
  obtain ⟨S', h1, h2⟩ := h
  exact ⟨S', h1, h2.weak hS⟩
theorem apply_cat (w : World) (S : Nat → Prop) (pw hp b g i j : Nat) (bud sp : Int) (row : List ByteArray) (s t : ByteArray) (h : Wt w S pw hp b bud sp row) (hs : row[i]? = some s) (ht : row[j]? = some t) (hg : w.heap[g]? = some (.cells #[.int .i64 4, .int .i64 (i : Int), .int .i64 4, .int .i64 (j : Int)] 41 (0, 0))) (hgS : ¬ S g) (hgh : g ≠ hp) (hm : s.size + t.size ≤ 4096) (hsp : 0 ≤ sp) (hb : sp + (1 + ((s ++ t).size : Int)) ≤ bud) (hbud : bud ≤ 1048576) (hn : (row.length + 1) * 16 ≤ 140737488355328) :
    Calls Tryz.prog 17 #[.pointer (some ⟨pw, 0, none⟩), .agg #[.int .i64 38, .int .i64 0], .slice (some ⟨g, 0, none⟩) 2 2] w fun e w' => e = .returned (.tuple #[.agg #[.int .i64 4, .int .i64 (posOf row (s ++ t) : Int)], .int .i64 0, .bool true]) ∧ Aft w S pw hp b bud (sp + (1 + ((s ++ t).size : Int))) (rowAdd row (s ++ t)) w' := by
  have hlt := (Array.getElem?_eq_some_iff.1 hg).1
  refine (apply_aft 38 0 w (fun k => S k ∧ k < w.heap.size) pw hp b g 2 bud _ _ 1 4 _ (fun k hk => hk.2) h.ltp h.lth (fun w => ?_) (fun w => applies_calls 38 (by omega) w) (fun W hW => ?_)).mono fun e w' ⟨he, ha⟩ => ⟨he, ha.weak fun k hk => hk.1⟩
  · exact effect_0_yes 38 0 (by decide) (by decide) [99, 97, 116] 2 1 (by decide) (by decide) (by decide +kernel) w
  · refine do_txt38 W _ pw hp b g bud _ _ 0 _ (fun k hk => by have := hW.size; omega) (by have := hW.size; have := h.ltp; omega) (by have := hW.size; have := h.lth; omega) fun W2 hW2 => ?_
    have h3 := hW.trans (hW2.mono hW.size)
    exact texts_cat W2 _ pw hp b g i j bud sp row s t (h.lo.below h3) hs ht ((h3.block _ hlt).trans hg) (fun hc => hgS hc.1) hgh hm hsp hb hbud hn
theorem apply_cut (w : World) (S : Nat → Prop) (pw hp b g i f t : Nat) (bud sp : Int) (row : List ByteArray) (s u : ByteArray) (h : Wt w S pw hp b bud sp row) (hs : row[i]? = some s) (hg : w.heap[g]? = some (.cells #[.int .i64 4, .int .i64 (i : Int), .int .i64 2, .int .i64 (f : Int), .int .i64 2, .int .i64 (t : Int)] 41 (0, 0))) (hgS : ¬ S g) (hgh : g ≠ hp)
    (hft : f ≤ t) (hts : t ≤ s.size) (hu : u = s.extract f t) (hsp : 0 ≤ sp) (hb : sp + (1 + (u.size : Int)) ≤ bud) (hbud : bud ≤ 1048576) (hn : (row.length + 1) * 16 ≤ 140737488355328) :
    Calls Tryz.prog 17 #[.pointer (some ⟨pw, 0, none⟩), .agg #[.int .i64 39, .int .i64 0], .slice (some ⟨g, 0, none⟩) 3 3] w fun e w' => e = .returned (.tuple #[.agg #[.int .i64 4, .int .i64 (posOf row u : Int)], .int .i64 0, .bool true]) ∧ Aft w S pw hp b bud (sp + (1 + (u.size : Int))) (rowAdd row u) w' := by
  have hlt := (Array.getElem?_eq_some_iff.1 hg).1
  refine (apply_aft 39 0 w (fun k => S k ∧ k < w.heap.size) pw hp b g 3 bud _ _ 1 4 _ (fun k hk => hk.2) h.ltp h.lth (fun w => ?_) (fun w => applies_calls 39 (by omega) w) (fun W hW => ?_)).mono fun e w' ⟨he, ha⟩ => ⟨he, ha.weak fun k hk => hk.1⟩
  · exact effect_0_yes 39 0 (by decide) (by decide) [99, 117, 116] 3 1 (by decide) (by decide) (by decide +kernel) w
  · refine do_txt39 W _ pw hp b g bud _ _ 0 _ (fun k hk => by have := hW.size; omega) (by have := hW.size; have := h.ltp; omega) (by have := hW.size; have := h.lth; omega) fun W2 hW2 => ?_
    have h3 := hW.trans (hW2.mono hW.size)
    exact texts_cut W2 _ pw hp b g i f t bud sp row s u (h.lo.below h3) hs ((h3.block _ hlt).trans hg) (fun hc => hgS hc.1) hgh hft hts hu hsp hb hbud hn
theorem apply_len (w : World) (S : Nat → Prop) (pw hp b g i : Nat) (bud sp : Int) (row : List ByteArray) (s : ByteArray) (h : Wt w S pw hp b bud sp row) (hs : row[i]? = some s) (hg : w.heap[g]? = some (.cells #[.int .i64 4, .int .i64 (i : Int)] 41 (0, 0))) :
    Calls Tryz.prog 17 #[.pointer (some ⟨pw, 0, none⟩), .agg #[.int .i64 52, .int .i64 0], .slice (some ⟨g, 0, none⟩) 1 1] w fun e w' => e = .returned (.tuple #[.agg #[.int .i64 2, .int .i64 (s.size : Int)], .int .i64 0, .bool true]) ∧ Below w.heap.size w w' := by
  have hlt := (Array.getElem?_eq_some_iff.1 hg).1
  refine apply_val2 52 0 _ g 1 1 2 _ w (fun w => ?_) (fun w => applies_calls 52 (by omega) w) (fun W hW => do_len _ 0 g 2 _ 0 false W fun W2 hW2 => ?_)
  · exact effect_0_yes 52 0 (by decide) (by decide) [108, 101, 110] 1 1 (by decide) (by decide) (by decide +kernel) w
  · have h3 := hW.trans (hW2.mono hW.size)
    exact inside_len W2 S pw hp b g i bud sp row s (h.below h3) hs ((h3.block _ hlt).trans hg)
end Go.Proofs.YtkeneiahhmbojaaGreatDoor

namespace Go.Proofs.YtkeneiahhmbojaaGreatDoor
open Go.RowKit Go.Maps Go.WideMaps
open Go.Proofs.YtkeneiahhmbojaaGreatDoorW.PrintWords Go.Proofs.YtkeneiahhmbojaaGreatDoorW.PrintMore

theorem cell_str {w : World} {A : Option Addr} {l : List ByteArray} (HR : Kd.string.C w A l.length l) {k : Nat} {t : ByteArray} (h : l[k]? = some t) : ∃ ad, A = some ad ∧ w.cell? (ad.add k) = some (.string t) := by
  have hlt : k < l.length := (List.getElem?_eq_some_iff.1 h).1
  obtain ⟨ad, e, hx⟩ := Kd.at_string HR (k : Int) (by omega) (by omega)
  refine ⟨ad, e, ?_⟩
  rw [rd_get l k t h] at hx
  simpa using hx

theorem rowOf_nodup {l : List ByteArray} (h : l.Nodup) : rowOf l = l := by
  have : ∀ k, k ≤ l.length → rowOf (l.take k) = l.take k := by
    intro k
    induction k with
    | zero => intro _; simp [rowOf]
    | succ k ih =>
      intro hk
      obtain ⟨t, ht⟩ : ∃ t, l[k]? = some t := ⟨_, List.getElem?_eq_getElem (by omega)⟩
      rw [rowOf_take_succ ht, ih (by omega), take_snoc ht]
      unfold rowAdd
      rw [if_neg]
      refine not_mem_take (fun j hj e => ?_)
      have h1 := idxOf_unique h e
      have h2 := idxOf_unique h ht
      omega
  have h2 := this l.length (Nat.le_refl _)
  rwa [List.take_length] at h2

/-- what From answers: an index of these things, or none -/
def IsFrom (w : World) (l : List ByteArray) (e : Ending) (w' : World) : Prop :=
  (l.Nodup ∧ ∃ b, e = .returned (.tuple #[.pointer (some ⟨b, 0, none⟩), .bool true]) ∧ At w' w.heap.size b l ∧ Below w.heap.size w w') ∨
  (¬ l.Nodup ∧ e = .returned (.tuple #[.pointer none, .bool false]) ∧ Below w.heap.size w w')

set_option maxRecDepth 100000 in
theorem from_any (A : Option Addr) (c : Nat) (l : List ByteArray) (w : World) (HR : Kd.string.C w A l.length l) (hs : ∀ t, t ∈ l → t.size ≤ maxLen) (hn : l.length * 16 ≤ 140737488355328) :
    Calls Tryz.prog 30 #[.slice A l.length c] w (IsFrom w l) := by
  have HR0 := Aside0.mk HR
  have HN := Aside0.mk hn
  have HS := Aside0.mk hs
  have hm : l.length ≤ 8796093022208 := by omega
  clear HR hn hs
  go_enter Tryz.func30, Tryz.ntmps30
  go_wp2_with fail
  refine (new_at w).mono ?_
  rintro e w1 ⟨b, rfl, hat1, hbel1⟩
  have HA1 := Aside0.mk hat1
  have HB1 := Aside0.mk hbel1
  clear hat1 hbel1
  go_wp2_with fail
  go_loopw [10, 5, 6] (fun i _ _ wr => ∃ k : Nat, i = .int .i64 (k : Int) ∧ k ≤ l.length ∧ Aside0 ((l.take k).Nodup) ∧ Aside0 (At wr w.heap.size b (l.take k)) ∧ Aside0 (Below w.heap.size w wr)) (fun i _ _ _ => l.length - (intOf i).toNat)
  case atStart => exact ⟨0, rfl, Nat.zero_le _, ⟨by simp⟩, ⟨by simpa using HA1.out⟩, HB1⟩
  case round =>
    obtain ⟨k, rfl, hk, HD, HA, HB⟩ := hrel
    by_cases hlt : k < l.length
    · obtain ⟨u, hu⟩ : ∃ u, l[k]? = some u := ⟨_, List.getElem?_eq_getElem hlt⟩
      have HRr := Aside0.mk (Kd.C_below HR0.out HB.out)
      obtain ⟨ad, e, hxu⟩ := cell_str HRr.out hu
      subst e
      have hl2 : (k : Int) < (l.length : Int) := by omega
      have HU := Aside0.mk hu
      have HLT := Aside0.mk (show (l.take k).length = k by rw [List.length_take]; omega)
      clear hu
      by_cases hin : u ∈ l.take k
      · have hpos : posOf (l.take k) u < k := by have := posOf_lt hin; rw [HLT.out] at this; exact this
        have hne : ((posOf (l.take k) u : Int) != (k : Int)) = true := by simp; omega
        have HIN := Aside0.mk hin
        clear hin
        go_wp2_with fail
        refine (add_at _ w.heap.size b (l.take k) u HA.out HB.out.size (HS.out u (List.mem_of_getElem? HU.out)) (by rw [HLT.out]; have := HN.out; omega)).mono ?_
        rintro e w3 ⟨rfl, hat3, hb3⟩
        have HB3 := Aside0.mk (show Below w.heap.size w w3 from HB.out.trans hb3)
        clear hat3 hb3
        go_wp2_with fail
        go_ret2
        refine .inr ⟨fun hnd => ?_, rfl, HB3.out⟩
        obtain ⟨j, hj⟩ := List.mem_iff_getElem?.1 HIN.out
        have hjl := (List.getElem?_eq_some_iff.1 hj).1
        rw [HLT.out] at hjl
        rw [List.getElem?_take_of_lt hjl] at hj
        have h1 := idxOf_unique hnd hj
        have h2 := idxOf_unique hnd HU.out
        omega
      · have HP := Aside0.mk (show (posOf (l.take k) u : Int) = (k : Int) by rw [idxOf_not_mem hin, HLT.out])
        have hne : ((k : Int) != (k : Int)) = false := by simp
        have HA' := Aside0.mk (show rowAdd (l.take k) u = l.take (k + 1) by unfold rowAdd; rw [if_neg hin, take_snoc HU.out])
        have HD' := Aside0.mk (show (l.take (k + 1)).Nodup by rw [← HA'.out]; exact nodup_rowAdd HD.out u)
        clear hin
        go_wp2_with fail
        refine (add_at _ w.heap.size b (l.take k) u HA.out HB.out.size (HS.out u (List.mem_of_getElem? HU.out)) (by rw [HLT.out]; have := HN.out; omega)).mono ?_
        rintro e w3 ⟨he, hat3, hb3⟩
        rw [HP.out] at he
        subst he
        have HA3 := Aside0.mk (show At w3 w.heap.size b (l.take (k + 1)) by rw [← HA'.out]; exact hat3)
        have HB3 := Aside0.mk (show Below w.heap.size w w3 from HB.out.trans hb3)
        clear hat3 hb3
        go_wp2_with fail
        go_roundw
        case rel => exact ⟨k + 1, by go_num, by omega, HD', HA3, HB3⟩
        case measure => simp [intOf]; omega
    · have hl2 : ¬ (k : Int) < (l.length : Int) := by omega
      have HK := Aside0.mk (show l.take k = l by rw [List.take_of_length_le (by omega)])
      go_wp2_with fail
      go_ret2
      exact .inl ⟨by have := HD.out; rwa [HK.out] at this, b, rfl, by have := HA.out; rwa [HK.out] at this, HB.out⟩
end Go.Proofs.YtkeneiahhmbojaaGreatDoor

namespace Go.Proofs.YtkeneiahhmbojaaGreatDoor
open Go.RowKit Go.MapKept
open Go.Proofs.YtkeneiahhmbojaaGreatDoorW.PrintWords Go.Proofs.YtkeneiahhmbojaaGreatDoorW.PrintMore

set_option maxRecDepth 100000 in
theorem copyProgram_nil (w : World) : Calls Tryz.prog 31 #[.agg #[.slice none 0 0, .slice none 0 0]] w fun e w' => e = .returned (.agg #[.slice none 0 0, .slice none 0 0]) ∧ Below w.heap.size w w' := by
  go_enter Tryz.func31, Tryz.ntmps31
  go_wp2_with fail
  obtain ⟨W, hW⟩ : ∃ W, W = ((w.alloc (Obj.cells #[.slice none 0 0, .slice none 0 0] 34)).alloc (Obj.cells #[.slice none 0 0, .slice none 0 0] 34)).alloc (Obj.cells #[.slice none 0 0, .slice none 0 0] 34) := ⟨_, rfl⟩
  have HB := Aside0.mk (show Below w.heap.size w W by rw [hW]; exact below3 w _ _ _)
  have HC := Aside0.mk (show W.heap[w.heap.size + 1 + 1]? = some (.cells #[.slice none 0 0, .slice none 0 0] 34 (0, 0)) by rw [hW]; exact heap3_last w _ _ _)
  have HC1 := Aside0.mk (show W.heap[w.heap.size + 1]? = some (.cells #[.slice none 0 0, .slice none 0 0] 34 (0, 0)) by rw [hW]; exact heap3_mid w _ _ _)
  have HC0 := Aside0.mk (show W.heap[w.heap.size]? = some (.cells #[.slice none 0 0, .slice none 0 0] 34 (0, 0)) by rw [hW]; exact heap3_first w _ _ _)
  rw [← hW]
  clear hW
  have a0 : W.cell? ⟨w.heap.size, 0, none⟩ = some (.slice none 0 0) := by rw [cell_of_row _ _ 0 _ _ _ HC0.out]; rfl
  have a1 : W.cell? ⟨w.heap.size, 1, none⟩ = some (.slice none 0 0) := by rw [cell_of_row _ _ 1 _ _ _ HC0.out]; rfl
  have b0 : W.cell? ⟨w.heap.size + 1, 0, none⟩ = some (.slice none 0 0) := by rw [cell_of_row _ _ 0 _ _ _ HC1.out]; rfl
  have b1 : W.cell? ⟨w.heap.size + 1, 1, none⟩ = some (.slice none 0 0) := by rw [cell_of_row _ _ 1 _ _ _ HC1.out]; rfl
  have c0 : W.cell? ⟨w.heap.size + 1 + 1, 0, none⟩ = some (.slice none 0 0) := by rw [cell_of_row _ _ 0 _ _ _ HC.out]; rfl
  have c1 : W.cell? ⟨w.heap.size + 1 + 1, 1, none⟩ = some (.slice none 0 0) := by rw [cell_of_row _ _ 1 _ _ _ HC.out]; rfl
  go_loopw [4] (fun i wr => i = .int .i64 0 ∧ W = wr) (fun _ _ => 0)
  case atStart => exact ⟨rfl, rfl⟩
  case round =>
    obtain ⟨rfl, rfl⟩ := hrel
    go_wp2_with fail
    go_loopw [5] (fun i wr => i = .int .i64 0 ∧ W = wr) (fun _ _ => 0)
    case atStart => exact ⟨rfl, rfl⟩
    case round =>
      obtain ⟨rfl, rfl⟩ := hrel
      go_wp2_with (with_reducible refine wpList_store_row rfl 34 _ _ rfl (w.heap.size + 1) #[.slice none 0 0, .slice none 0 0] rfl rfl 34 _ HC1.out (by kernel_rfl) (by kernel_rfl) (by kernel_rfl) ?_)
      exact bodyPost_ret (results_cell_row rfl _ _ (w.heap.size + 1) 34 _ (0, 0) _ rfl (setRow_heap _ _ _ _ _ _ HC1.out) Tryz.underlying34 rfl (by kernel_rfl)) rfl ⟨rfl, below_setRow HB.out (by omega) _⟩
end Go.Proofs.YtkeneiahhmbojaaGreatDoor

namespace Go.Proofs.YtkeneiahhmbojaaGreatDoor
open Go.RowKit Go.MapKept
open Go.Proofs.YtkeneiahhmbojaaGreatDoorW.PrintWords Go.Proofs.YtkeneiahhmbojaaGreatDoorW.PrintMore

/-- what made answers -/
def IsMade (w : World) (bud : Int) (l : List ByteArray) (e : Ending) (w' : World) : Prop := ∃ pw hp b S, e = .returned (.pointer (some ⟨pw, 0, none⟩)) ∧ Wt w' S pw hp b bud 0 l ∧ (∀ k, S k → w.heap.size ≤ k ∧ k < w'.heap.size) ∧ w.heap.size ≤ pw ∧ w.heap.size ≤ hp ∧ Below w.heap.size w w'
set_option maxRecDepth 100000 in
theorem made_calls (bud : Int) (pc pf : Value) (A : Option Addr) (c : Nat) (l : List ByteArray) (w : World) (HR : Kd.string.C w A l.length l) (hd : l.Nodup) (hs : ∀ t, t ∈ l → t.size ≤ maxLen) (hn : l.length * 16 ≤ 140737488355328)
    (hL : ∀ w, Calls Tryz.prog 29 #[.int .i64 bud, .int .i64 0, .slice none 0 0] w fun e w' => e = .returned (.tuple #[.pointer (some ⟨w.heap.size, 0, none⟩), .bool true]) ∧ w.alloc (.cells #[.int .i64 bud, .int .i64 0, .slice none 0 0] 94) = w')
    (hC : ∀ W, Below w.heap.size w W → Calls Tryz.prog 31 #[.agg #[pc, pf]] W fun e w' => (∃ q0 q1, e = .returned (.agg #[q0, q1])) ∧ Below W.heap.size W w') :
    Calls Tryz.prog 16 #[.agg #[pc, pf, .slice A l.length c, .slice none 0 0, .int .i64 bud, .int .i64 0]] w (IsMade w bud l) := by
  have HRR := Aside0.mk HR
  have HH := Aside0.mk (And.intro hd (And.intro hs hn))
  have HL := Aside0.mk hL
  have HC := Aside0.mk hC
  clear HR hd hs hn hL hC
  go_enter Tryz.func16, Tryz.ntmps16
  go_wp2_with fail
  refine (HL.out _).mono ?_
  rintro e w1 ⟨rfl, hw1⟩
  have HB1 := Aside0.mk (show Below w.heap.size w w1 by rw [← hw1]; exact (below_alloc1 w _).alloc (by simp) _)
  have HX1 := Aside0.mk (show w1.heap[w.heap.size]? = some (.cells #[pc, pf, .slice A l.length c, .slice none 0 0, .int .i64 bud, .int .i64 0] 50 (0, 0)) by rw [← hw1]; exact (Below.heap_alloc _ _ _ (by simp)).trans (heap_alloc_last w _))
  have HP1 := Aside0.mk (show w1.heap[w.heap.size + 1]? = some (.cells #[.int .i64 bud, .int .i64 0, .slice none 0 0] 94 (0, 0)) by rw [← hw1]; exact heap_alloc2_new w _ _)
  clear hw1
  have c2 : w1.cell? ⟨w.heap.size, 2, none⟩ = some (.slice A l.length c) := by rw [cell_of_row _ _ 2 _ _ _ HX1.out]; rfl
  go_wp2_with fail
  refine (from_any A c l w1 (Kd.C_below HRR.out HB1.out) HH.out.2.1 HH.out.2.2).mono ?_
  intro e w2 hfrom
  rcases hfrom with ⟨_, b, rfl, hat, hb⟩ | ⟨hno, _⟩
  rotate_left
  · exact absurd HH.out.1 hno
  have HA2 := Aside0.mk hat
  have HB2 := Aside0.mk (HB1.out.trans (hb.mono HB1.out.size))
  have HX2 := Aside0.mk ((hb.block _ (Array.getElem?_eq_some_iff.1 HX1.out).1).trans HX1.out)
  have HP2 := Aside0.mk ((hb.block _ (Array.getElem?_eq_some_iff.1 HP1.out).1).trans HP1.out)
  have HZ := Aside0.mk (Array.getElem?_eq_some_iff.1 HP1.out).1
  have HZ2 := Aside0.mk hb.size
  clear hat hb c2 HX1 HP1
  have c0 : w2.cell? ⟨w.heap.size, 0, none⟩ = some pc := by rw [cell_of_row _ _ 0 _ _ _ HX2.out]; rfl
  have c1 : w2.cell? ⟨w.heap.size, 1, none⟩ = some pf := by rw [cell_of_row _ _ 1 _ _ _ HX2.out]; rfl
  go_wp2_with fail
  refine (HC.out w2 HB2.out).mono ?_
  rintro e w3 ⟨⟨q0, q1, rfl⟩, hb3⟩
  have HB3 := Aside0.mk (HB2.out.trans (hb3.mono HB2.out.size))
  have HA3 := Aside0.mk (((AtS.of HA2.out).kept (w' := w3) fun k hk hlt => hb3.block k hlt))
  have HP3 := Aside0.mk ((hb3.block _ (Array.getElem?_eq_some_iff.1 HP2.out).1).trans HP2.out)
  have HZ3 := Aside0.mk hb3.size
  clear hb3 c0 c1 HX2 HP2
  go_wp2_with fail
  go_ret
  have z0 := HB1.out.size
  have z1 := HZ.out
  have z2 := HZ2.out
  have z3 := HZ3.out
  refine ⟨_, _, _, (fun k => w1.heap.size ≤ k ∧ k < w2.heap.size), rfl, ⟨⟨_, _, heap_alloc_last w3 _⟩, (Below.heap_alloc _ _ _ (by omega)).trans HP3.out, HA3.out.kept (fun k hk hlt => Below.heap_alloc _ _ _ hlt), fun hc => by omega, fun hc => by omega, by omega⟩, fun k hk => ⟨by omega, by simp; omega⟩, by omega, by omega, HB3.out.alloc (by omega) _⟩
end Go.Proofs.YtkeneiahhmbojaaGreatDoor

namespace Go.Proofs.YtkeneiahhmbojaaGreatDoor
open Go.RowKit Go.MapKept
open Go.Proofs.YtkeneiahhmbojaaGreatDoorW.PrintWords Go.Proofs.YtkeneiahhmbojaaGreatDoorW.PrintMore

theorem made_big (w : World) : Calls Tryz.prog 16 #[.agg #[.slice none 0 0, .slice none 0 0, .slice none 0 0, .slice none 0 0, .int .i64 1048576, .int .i64 0]] w (IsMade w 1048576 []) :=
  made_calls 1048576 (.slice none 0 0) (.slice none 0 0) none 0 [] w (Kd.C_nil _ _) List.nodup_nil (by simp) (by simp) load_big fun W _ => (copyProgram_nil W).mono fun e w' ⟨he, hb⟩ => ⟨⟨_, _, he⟩, hb⟩
theorem pick_calls2 (k n : Int) (hn : 0 < n) (hn2 : n ≤ 5000) (w : World) :
    Calls Tryz.prog 10 #[.int .i64 k, .int .i64 n] w fun e w' => e = .returned (.int .i64 (k % n)) ∧ w = w' := by
  obtain ⟨r, hr⟩ : ∃ r, r = Int.tmod k n := ⟨_, rfl⟩
  have hw : Int.tmod k n = r := hr.symm
  have hs := Int.tmod_add_mul_tdiv k n
  have hlo := Int.lt_tmod_of_pos k hn
  have hhi := Int.tmod_lt_of_pos k hn
  rw [hw] at hs hlo hhi
  have p0 : decide (n < 1) = false := decide_eq_false (by omega)
  by_cases hneg : r < 0
  · have d0 : decide (r < 0) = true := decide_eq_true hneg
    have e1 : r + n = k % n := by
      have : k = r + n + n * (Int.tdiv k n - 1) := by rw [Int.mul_sub]; omega
      rw [this, Int.add_mul_emod_self_left, Int.emod_eq_of_lt (by omega) (by omega)]
    have HE := Aside0.mk e1
    clear hr hs e1
    go_enter Tryz.func10, Tryz.ntmps10
    go_wp2_with fail
    go_ret
    exact ⟨by rw [← HE.out]; rfl, rfl⟩
  · have d0 : decide (r < 0) = false := decide_eq_false hneg
    have e1 : r = k % n := by
      have : k = r + n * (Int.tdiv k n) := by omega
      rw [this, Int.add_mul_emod_self_left, Int.emod_eq_of_lt (by omega) (by omega)]
    have HE := Aside0.mk e1
    clear hr hs e1
    go_enter Tryz.func10, Tryz.ntmps10
    go_wp2_with fail
    go_ret
    exact ⟨by rw [← HE.out]; rfl, rfl⟩
theorem add_wt (w : World) (S : Nat → Prop) (pw hp b : Nat) (bud sp : Int) (row : List ByteArray) (t : ByteArray) (h : Wt w S pw hp b bud sp row) (hs : t.size ≤ maxLen) (hn : (row.length + 1) * 16 ≤ 140737488355328) :
    Calls Tryz.prog 12 #[.pointer (some ⟨b, 0, none⟩), .string t] w fun e w' => e = .returned (.int .i64 (posOf row t : Int)) ∧ Aft w S pw hp b bud sp (rowAdd row t) w' := by
  refine (add_S w S b row t h.ix hs hn).mono fun e w' ⟨he, hA, hk⟩ => ⟨he, _, ⟨?_, (hk.block hp h.lth h.nh).trans h.hs, hA, fun hc => ?_, fun hc => ?_, h.ne⟩, ⟨hk.mono fun j hj => .inl hj, fun k hk => hk⟩⟩
  · obtain ⟨c0, c1, h1⟩ := h.st
    exact ⟨c0, c1, (hk.block pw h.ltp h.np).trans h1⟩
  · rcases hc with hc | hc
    · exact h.np hc
    · have := h.ltp; omega
  · rcases hc with hc | hc
    · exact h.nh hc
    · have := h.lth; omega
end Go.Proofs.YtkeneiahhmbojaaGreatDoor

namespace Go.Proofs.YtkeneiahhmbojaaGreatDoor
open Go.RowKit Go.MapKept
open Go.Proofs.YtkeneiahhmbojaaGreatDoorW.PrintWords Go.Proofs.YtkeneiahhmbojaaGreatDoorW.PrintMore

theorem Aft.cells {X w9 : World} {S : Nat → Prop} {pw hp b n : Nat} {bud sp : Int} {row : List ByteArray} (h : Aft X S pw hp b bud sp row w9) (hlo : ∀ k, S k → k < n) (hh : hp < n) :
    (∀ g o, n ≤ g → g < X.heap.size → w9.cell? ⟨g, o, none⟩ = X.cell? ⟨g, o, none⟩) ∧ (∀ g o, n ≤ g → g < X.heap.size → w9.frozen? ⟨g, o, none⟩ = X.frozen? ⟨g, o, none⟩) := by
  obtain ⟨S', _, h2⟩ := h
  have hk : ∀ g, n ≤ g → g < X.heap.size → w9.heap[g]? = X.heap[g]? := fun g h1 h3 => h2.kp.block g h3 (fun hc => by
    rcases hc with hc | hc
    · have := hlo g hc; omega
    · omega)
  exact ⟨fun g o h1 h3 => by simp only [World.cell?, hk g h1 h3], fun g o h1 h3 => by simp only [World.frozen?, hk g h1 h3]⟩
inductive Cut2 (A : Nat → Nat → Act) (S : Nat → World → Prop) (a' : Act) (w' : World) : Prop
  | mk (g k : Nat) (h : a' = A g k) (hs : S g w')
theorem reg_cut2 {P : Program} {c : Code} {Q : Exit → Act → World → Prop} {a : Act} {w : World} (A : Nat → Nat → Act) (S : Nat → World → Prop) (h1 : c.wp P (Exit.then (Cut2 A S) (fun _ _ _ => False)) a w) (h2 : ∀ g k w', S g w' → Q .normal (A g k) w') : c.wp P Q a w :=
  Code.wp_mono (fun e a' w' h => by
    cases e with
    | normal => obtain ⟨g, k, rfl, hs⟩ := h; exact h2 _ _ _ hs
    | exit id => exact h.elim
    | goto t => exact h.elim
    | ret => exact h.elim
    | panic c => exact h.elim
    | outgrown => exact h.elim) h1
structure Ob (w : World) (pw hp b : Nat) (sp : Int) (row : List ByteArray) (bl : List (Nat × Int × Int)) (S : Nat → Prop) (W : World) : Prop where
  lo : Below w.heap.size w W
  wt : Wt W S pw hp b 1048576 sp row
  up : ∀ k, S k → w.heap.size ≤ k
  uh : w.heap.size ≤ hp
  ob : ∀ x ∈ bl, W.cell? ⟨x.1, 0, none⟩ = some (.int .i64 x.2.1) ∧ W.cell? ⟨x.1, 1, none⟩ = some (.int .i64 x.2.2) ∧ x.1 < W.heap.size ∧ ¬ S x.1 ∧ x.1 ≠ hp
theorem Ob.below {w W X : World} {pw hp b : Nat} {sp : Int} {row : List ByteArray} {bl : List (Nat × Int × Int)} {S : Nat → Prop} (h : Ob w pw hp b sp row bl S W) (hX : Below W.heap.size W X) : Ob w pw hp b sp row bl S X :=
  ⟨h.lo.trans (hX.mono h.lo.size), h.wt.below hX, h.up, h.uh, fun x hx => by
    obtain ⟨h1, h2, h3, h4⟩ := h.ob x hx
    have hk := hX.block x.1 h3
    exact ⟨by simp only [World.cell?, hk] at h1 ⊢; exact h1, by simp only [World.cell?, hk] at h2 ⊢; exact h2, Nat.lt_of_lt_of_le h3 hX.size, h4⟩⟩
/-- what is laid behind n is no part of the index -/
def lows (S : Nat → Prop) (n : Nat) : Nat → Prop := fun k => S k ∧ k < n
theorem Ob.aft {w W X w9 : World} {pw hp b : Nat} {sp sp2 : Int} {row row2 : List ByteArray} {bl : List (Nat × Int × Int)} {S : Nat → Prop} (h : Ob w pw hp b sp row bl S W) (hX : Below W.heap.size W X) (ha : Aft X (lows S W.heap.size) pw hp b 1048576 sp2 row2 w9) :
    ∃ S2, Ob w pw hp b sp2 row2 bl S2 w9 ∧ (∀ k, S2 k → k < w9.heap.size) ∧ ∀ g, W.heap.size ≤ g → g < X.heap.size → ¬ S2 g := by
  obtain ⟨S2, h1, h2⟩ := ha
  have hlh : hp < W.heap.size := h.wt.lth
  refine ⟨lows S2 w9.heap.size, ⟨?_, h1.lo, fun k hk => ?_, h.uh, fun x hx => ?_⟩, fun k hk => hk.2, fun g g1 g2 hc => ?_⟩
  · have q := h.lo.trans (hX.mono h.lo.size)
    refine ⟨h2.kp.os.trans q.os, h2.kp.tape.trans q.tape, h2.kp.output.trans q.output, Nat.le_trans q.size h2.kp.size, fun k hk => ?_⟩
    refine (h2.kp.block k (Nat.lt_of_lt_of_le hk q.size) (fun hc => ?_)).trans (q.block k hk)
    rcases hc with hc | hc
    · have := h.up k hc.1; omega
    · have := h.uh; omega
  · rcases h2.up k hk.1 with h3 | h3
    · exact h.up k h3.1
    · have q := h.lo.trans (hX.mono h.lo.size)
      exact Nat.le_trans q.size h3
  · obtain ⟨c1, c2, c3, c4, c5⟩ := h.ob x hx
    have hk := hX.block x.1 c3
    have hk2 := h2.kp.block x.1 (Nat.lt_of_lt_of_le c3 hX.size) (fun hc => by
      rcases hc with hc | hc
      · exact c4 hc.1
      · exact c5 hc)
    have hk3 := hk2.trans hk
    refine ⟨by simp only [World.cell?, hk3] at c1 ⊢; exact c1, by simp only [World.cell?, hk3] at c2 ⊢; exact c2, Nat.lt_of_lt_of_le c3 (Nat.le_trans hX.size h2.kp.size), fun hc => ?_, c5⟩
    rcases h2.up x.1 hc.1 with h3 | h3
    · exact c4 h3.1
    · have := hX.size; omega
  · rcases h2.up g hc.1 with h3 | h3
    · have := h3.2; omega
    · omega
theorem Ob.laid {w W X w9 : World} {pw hp b : Nat} {sp sp2 : Int} {row row2 : List ByteArray} {bl : List (Nat × Int × Int)} {S : Nat → Prop} (h : Ob w pw hp b sp row bl S W) (hX : Below W.heap.size W X) (ha : Aft X (lows S W.heap.size) pw hp b 1048576 sp2 row2 w9) (c0 c1 : Int) :
    ∃ S2, Ob w pw hp b sp2 row2 ((w9.heap.size, c0, c1) :: bl) S2 (w9.alloc (.cells #[.int .i64 c0, .int .i64 c1] 41)) := by
  obtain ⟨S2, h1, h2, h3⟩ := h.aft hX ha
  have h4 := h1.below (below_alloc1 w9 (.cells #[.int .i64 c0, .int .i64 c1] 41))
  refine ⟨S2, h4.lo, h4.wt, h4.up, h4.uh, fun x hx => ?_⟩
  rcases List.mem_cons.1 hx with rfl | hx
  · refine ⟨?_, ?_, by simp, fun hc => ?_, ?_⟩
    · rw [cell_of_row _ _ 0 _ _ _ (heap_alloc_last w9 _)]; rfl
    · rw [cell_of_row _ _ 1 _ _ _ (heap_alloc_last w9 _)]; rfl
    · have := h2 _ hc; simp at this
    · have := h1.wt.lth; simp; omega
  · exact h4.ob x hx
theorem Ob.put {w W X w9 : World} {pw hp b : Nat} {sp sp2 : Int} {row row2 : List ByteArray} {bl : List (Nat × Int × Int)} {S : Nat → Prop} (h : Ob w pw hp b sp row bl S W) (hX : Below W.heap.size W X) (ha : Aft X (lows S W.heap.size) pw hp b 1048576 sp2 row2 w9) (c0 c1 : Int) (g : Nat) (g1 : W.heap.size ≤ g) (hgX : X.heap[g]? = some (.cells #[.int .i64 0, .int .i64 0] 41)) :
    ∃ S2, Ob w pw hp b sp2 row2 ((g, c0, c1) :: bl) S2 ((w9.setCell ⟨g, 0, none⟩ (.int .i64 c0)).setCell ⟨g, 1, none⟩ (.int .i64 c1)) := by
  have g2 : g < X.heap.size := (Array.getElem?_eq_some_iff.1 hgX).1
  have hg9 : w9.heap[g]? = some (.cells #[.int .i64 0, .int .i64 0] 41) := by
    obtain ⟨S2, _, hs⟩ := ha
    refine (hs.kp.block g g2 (fun hc => ?_)).trans hgX
    rcases hc with hc | hc
    · have := hc.2; omega
    · have := h.wt.lth; omega
  have e0 : (w9.cell? ⟨g, 0, none⟩).isSome = true := by rw [cell_of_row _ _ 0 _ _ _ hg9]; rfl
  have e1 : (w9.cell? ⟨g, 1, none⟩).isSome = true := by rw [cell_of_row _ _ 1 _ _ _ hg9]; rfl
  obtain ⟨S2, h1, _, h3⟩ := h.aft hX ha
  have hn : ¬ S2 g := h3 g g1 g2
  have hx9 : X.heap.size ≤ w9.heap.size := by obtain ⟨_, _, hs⟩ := ha; exact hs.kp.size
  have hhp : g ≠ hp := by have := h.wt.lth; omega
  have hpw : g ≠ pw := by have := h.wt.ltp; omega
  have hk : ∀ k, k ≠ g → ((w9.setCell ⟨g, 0, none⟩ (.int .i64 c0)).setCell ⟨g, 1, none⟩ (.int .i64 c1)).heap[k]? = w9.heap[k]? := fun k hk => by
    rw [Below.heap_setCell _ _ _ _ hk, Below.heap_setCell _ _ _ _ hk]
  obtain ⟨⟨p0, p1, k1⟩, k2, k3, k4, k5, k6⟩ := h1.wt
  refine ⟨S2, ?_, ⟨⟨p0, p1, (hk pw (Ne.symm hpw)).trans k1⟩, (hk hp (Ne.symm hhp)).trans k2, k3.kept fun k hk' _ => hk k (fun hc => hn (hc ▸ hk')), k4, k5, k6⟩, h1.up, h1.uh, fun x hx => ?_⟩
  · have q := h1.lo
    refine ⟨q.os, q.tape, q.output, by have := q.size; simp [World.setCell] at this ⊢; omega, fun k hk' => (hk k ?_).trans (q.block k hk')⟩
    have := h.lo.size
    omega
  · rcases List.mem_cons.1 hx with rfl | hx
    · refine ⟨?_, ?_, ?_, hn, hhp⟩
      · show World.cell? _ ⟨g, 0, none⟩ = _
        rw [World.cell?_setCell_other _ ⟨g, 1, none⟩ ⟨g, 0, none⟩ _ (by simp)]; exact World.cell?_setCell_same' _ _ _ e0
      · show World.cell? _ ⟨g, 1, none⟩ = _
        exact World.cell?_setCell_same' _ _ _ (by rw [World.cell?_setCell_other _ ⟨g, 0, none⟩ ⟨g, 1, none⟩ _ (by simp)]; exact e1)
      · show g < _
        simp [World.setCell]; omega
    · obtain ⟨c1, c2, c3, c4, c5⟩ := h1.ob x hx
      have hxg : x.1 ≠ g := fun hc => by have := (h.ob x hx).2.2.1; omega
      refine ⟨?_, ?_, by simp [World.setCell]; exact c3, c4, c5⟩
      · simp only [World.cell?, hk x.1 hxg] at c1 ⊢; exact c1
      · simp only [World.cell?, hk x.1 hxg] at c2 ⊢; exact c2
theorem rowAdd_keep {row : List ByteArray} {i : Nat} {s : ByteArray} (h : row[i]? = some s) (t : ByteArray) : (rowAdd row t)[i]? = some s := by
  obtain ⟨l, hl⟩ := prefix_rowAdd row t
  have hi := (List.getElem?_eq_some_iff.1 h).1
  rw [← hl, List.getElem?_append_left hi]; exact h
theorem rowAdd_at (row : List ByteArray) (t : ByteArray) : (rowAdd row t)[posOf row t]? = some t := by
  unfold rowAdd
  split
  · rename_i h; exact idxOf_get h
  · rename_i h; rw [idxOf_not_mem h]; simp
theorem rowAdd_len (row : List ByteArray) (t : ByteArray) : (rowAdd row t).length ≤ row.length + 1 := (length_rowAdd row t).2
theorem Ob.cut {w W : World} {pw hp b : Nat} {sp : Int} {row : List ByteArray} {bl : List (Nat × Int × Int)} {S : Nat → Prop} (h : Ob w pw hp b sp row bl S W) (i f t : Nat) (s u : ByteArray) (hs : row[i]? = some s) (hft : f ≤ t) (hts : t ≤ s.size) (hu : u = s.extract f t) (hsp : 0 ≤ sp) (hb : sp + (1 + (u.size : Int)) ≤ 1048576) (hn : row.length ≤ 8) (X : World) (g : Nat) (hX : Below W.heap.size W X) (hg : X.heap[g]? = some (.cells #[.int .i64 4, .int .i64 (i : Int), .int .i64 2, .int .i64 (f : Int), .int .i64 2, .int .i64 (t : Int)] 41 (0, 0))) (hlg : W.heap.size ≤ g) :
    Calls Tryz.prog 17 #[.pointer (some ⟨pw, 0, none⟩), .agg #[.int .i64 39, .int .i64 0], .slice (some ⟨g, 0, none⟩) 3 3] X fun e w' => e = .returned (.tuple #[.agg #[.int .i64 4, .int .i64 (posOf row u : Int)], .int .i64 0, .bool true]) ∧ Aft X (lows S W.heap.size) pw hp b 1048576 (sp + (1 + (u.size : Int))) (rowAdd row u) w' ∧ Below W.heap.size W X :=
  (apply_cut X (lows S W.heap.size) pw hp b g i f t 1048576 sp row s u (h.wt.lo.below hX) hs hg (fun hc => by have := hc.2; omega) (by have := h.wt.lth; omega) hft hts hu hsp hb (by omega) (by omega)).mono fun _ _ h => ⟨h.1, h.2, hX⟩
theorem Ob.cat {w W : World} {pw hp b : Nat} {sp : Int} {row : List ByteArray} {bl : List (Nat × Int × Int)} {S : Nat → Prop} (h : Ob w pw hp b sp row bl S W) (i j : Nat) (s t : ByteArray) (hs : row[i]? = some s) (ht : row[j]? = some t) (hm : s.size + t.size ≤ 4096) (hsp : 0 ≤ sp) (hb : sp + (1 + ((s ++ t).size : Int)) ≤ 1048576) (hn : row.length ≤ 8) (X : World) (g : Nat) (hX : Below W.heap.size W X) (hg : X.heap[g]? = some (.cells #[.int .i64 4, .int .i64 (i : Int), .int .i64 4, .int .i64 (j : Int)] 41 (0, 0))) (hlg : W.heap.size ≤ g) :
    Calls Tryz.prog 17 #[.pointer (some ⟨pw, 0, none⟩), .agg #[.int .i64 38, .int .i64 0], .slice (some ⟨g, 0, none⟩) 2 2] X fun e w' => e = .returned (.tuple #[.agg #[.int .i64 4, .int .i64 (posOf row (s ++ t) : Int)], .int .i64 0, .bool true]) ∧ Aft X (lows S W.heap.size) pw hp b 1048576 (sp + (1 + ((s ++ t).size : Int))) (rowAdd row (s ++ t)) w' ∧ Below W.heap.size W X :=
  (apply_cat X (lows S W.heap.size) pw hp b g i j 1048576 sp row s t (h.wt.lo.below hX) hs ht hg (fun hc => by have := hc.2; omega) (by have := h.wt.lth; omega) hm hsp hb (by omega) (by omega)).mono fun _ _ h => ⟨h.1, h.2, hX⟩
theorem Ob.len {w W : World} {pw hp b : Nat} {sp : Int} {row : List ByteArray} {bl : List (Nat × Int × Int)} {S : Nat → Prop} (h : Ob w pw hp b sp row bl S W) (i : Nat) (s : ByteArray) (hs : row[i]? = some s) (X : World) (g : Nat) (hX : Below W.heap.size W X) (hg : X.heap[g]? = some (.cells #[.int .i64 4, .int .i64 (i : Int)] 41 (0, 0))) :
    Calls Tryz.prog 17 #[.pointer (some ⟨pw, 0, none⟩), .agg #[.int .i64 52, .int .i64 0], .slice (some ⟨g, 0, none⟩) 1 1] X fun e w' => e = .returned (.tuple #[.agg #[.int .i64 2, .int .i64 (s.size : Int)], .int .i64 0, .bool true]) ∧ Below X.heap.size X w' ∧ Below W.heap.size W X :=
  (apply_len X S pw hp b g i 1048576 sp row s (h.wt.below hX) hs hg).mono fun _ _ h => ⟨h.1, h.2, hX⟩
theorem Below.aft {X w9 : World} {S : Nat → Prop} {pw hp b : Nat} {bud sp : Int} {row : List ByteArray} (h : Wt X S pw hp b bud sp row) (hb : Below X.heap.size X w9) : Aft X S pw hp b bud sp row w9 := ⟨S, h.below hb, .of_below hb⟩
inductive Cut3 {α : Type} (A : α → Act) (S : α → World → Prop) (a' : Act) (w' : World) : Prop
  | mk (x : α) (h : a' = A x) (hs : S x w')
theorem seq3 {α : Type} {P : Program} {r c1 c3 rest : Code} {Q : Exit → Act → World → Prop} {a : Act} {w : World} (A : α → Act) (S : α → World → Prop)
    (h1 : ∀ K1 K2 : Act → World → Prop, (∀ a w, c3.wp P (Exit.then (Cut3 A S) Q) a w → K2 a w) → (∀ a w, c1.wp P (Exit.then K2 Q) a w → K1 a w) → r.wp P (Exit.then K1 Q) a w)
    (h2 : ∀ x w', S x w' → rest.wp P Q (A x) w') : (r.seq (c1.seq (c3.seq rest))).wp P Q a w :=
  wp_seq (h1 _ (fun a w => (c3.seq rest).wp P Q a w) (fun a w h => wp_seq (Code.wp_mono (fun e a' w' h => by
    cases e with
    | normal => obtain ⟨x, rfl, hs⟩ := h; exact h2 _ _ hs
    | exit id => exact h
    | goto t => exact h
    | ret => exact h
    | panic c => exact h
    | outgrown => exact h) h)) (fun a w h => wp_seq h))
end Go.Proofs.YtkeneiahhmbojaaGreatDoor
