/-
  made, with a program.
  slices.Clone of values.
  The heap of objects: bound functions.
  Bound: a bound function is made.
-/
import Derived.Test.YtkeneiahhmbojaaGreatDoorPc
import Derived.Test.YtkeneiahhmbojaaGreatDoorPOpsBindsx2
namespace Go.Proofs.YtkeneiahhmbojaaGreatDoor
open Go.RowKit Go.MapKept
open Go.Proofs.YtkeneiahhmbojaaGreatDoorW.PrintWords Go.Proofs.YtkeneiahhmbojaaGreatDoorW.PrintMore
/-- what made answers, and what is known of the program's copy -/
def IsMadeP (w : World) (bud : Int) (l : List ByteArray) (R : Value → Value → World → World → Prop) (e : Ending) (w' : World) : Prop := ∃ pw hp b S q0 q1 w2 w3, e = .returned (.pointer (some ⟨pw, 0, none⟩)) ∧ w'.heap[pw]? = some (.cells #[q0, q1, .pointer (some ⟨hp, 0, none⟩), .pointer (some ⟨b, 0, none⟩)] 38 (0, 0)) ∧ Wt w' S pw hp b bud 0 l ∧ (∀ k, S k → w.heap.size ≤ k ∧ k < w'.heap.size) ∧ w.heap.size ≤ pw ∧ w.heap.size ≤ hp ∧ Below w.heap.size w w' ∧ R q0 q1 w2 w3 ∧ Below w3.heap.size w3 w' ∧ hp < w2.heap.size ∧ pw = w3.heap.size
set_option maxRecDepth 100000 in
theorem made_prog (R : Value → Value → World → World → Prop) (bud : Int) (pc pf : Value) (A : Option Addr) (c : Nat) (l : List ByteArray) (w : World) (HR : Kd.string.C w A l.length l) (hd : l.Nodup) (hs : ∀ t, t ∈ l → t.size ≤ maxLen) (hn : l.length * 16 ≤ 140737488355328)
    (hL : ∀ w, Calls Tryz.prog 29 #[.int .i64 bud, .int .i64 0, .slice none 0 0] w fun e w' => e = .returned (.tuple #[.pointer (some ⟨w.heap.size, 0, none⟩), .bool true]) ∧ w.alloc (.cells #[.int .i64 bud, .int .i64 0, .slice none 0 0] 94) = w')
    (hC : ∀ W, Below w.heap.size w W → Calls Tryz.prog 31 #[.agg #[pc, pf]] W fun e w' => (∃ q0 q1, e = .returned (.agg #[q0, q1]) ∧ R q0 q1 W w') ∧ Below W.heap.size W w') :
    Calls Tryz.prog 16 #[.agg #[pc, pf, .slice A l.length c, .slice none 0 0, .int .i64 bud, .int .i64 0]] w (IsMadeP w bud l R) := by
  have HRR := Aside0.mk HR
  have HH := Aside0.mk (And.intro hd (And.intro hs hn))
  have HL := Aside0.mk hL
  have HC := Aside0.mk hC
  clear HR hd hs hn hL hC
  go_enter Tryz.func16, Tryz.ntmps16
  go_wp2_with fail
  refine (HL.out _).mono ?_
  rintro e w1 ⟨rfl, hw1⟩
  have HB1 := Aside0.mk (show Below w.heap.size w w1 by rw [← hw1]; exact (below_alloc1 w _).alloc (by simp) _)
  have HX1 := Aside0.mk (show w1.heap[w.heap.size]? = some (.cells #[pc, pf, .slice A l.length c, .slice none 0 0, .int .i64 bud, .int .i64 0] 50 (0, 0)) by rw [← hw1]; exact (Below.heap_alloc _ _ _ (by simp)).trans (heap_alloc_last w _))
  have HP1 := Aside0.mk (show w1.heap[w.heap.size + 1]? = some (.cells #[.int .i64 bud, .int .i64 0, .slice none 0 0] 94 (0, 0)) by rw [← hw1]; exact heap_alloc2_new w _ _)
  clear hw1
  have c2 : w1.cell? ⟨w.heap.size, 2, none⟩ = some (.slice A l.length c) := by rw [cell_of_row _ _ 2 _ _ _ HX1.out]; rfl
  go_wp2_with fail
  refine (from_any A c l w1 (Kd.C_below HRR.out HB1.out) HH.out.2.1 HH.out.2.2).mono ?_
  intro e w2 hfrom
  rcases hfrom with ⟨_, b, rfl, hat, hb⟩ | ⟨hno, _⟩
  rotate_left
  · exact absurd HH.out.1 hno
  have HA2 := Aside0.mk hat
  have HB2 := Aside0.mk (HB1.out.trans (hb.mono HB1.out.size))
  have HX2 := Aside0.mk ((hb.block _ (Array.getElem?_eq_some_iff.1 HX1.out).1).trans HX1.out)
  have HP2 := Aside0.mk ((hb.block _ (Array.getElem?_eq_some_iff.1 HP1.out).1).trans HP1.out)
  have HZ := Aside0.mk (Array.getElem?_eq_some_iff.1 HP1.out).1
  have HZ2 := Aside0.mk hb.size
  clear hat hb c2 HX1 HP1
  have c0 : w2.cell? ⟨w.heap.size, 0, none⟩ = some pc := by rw [cell_of_row _ _ 0 _ _ _ HX2.out]; rfl
  have c1 : w2.cell? ⟨w.heap.size, 1, none⟩ = some pf := by rw [cell_of_row _ _ 1 _ _ _ HX2.out]; rfl
  go_wp2_with fail
  refine (HC.out w2 HB2.out).mono ?_
  rintro e w3 ⟨⟨q0, q1, rfl, hR⟩, hb3⟩
  have HRR := Aside0.mk hR
  clear hR
  have HB3 := Aside0.mk (HB2.out.trans (hb3.mono HB2.out.size))
  have HA3 := Aside0.mk (((AtS.of HA2.out).kept (w' := w3) fun k hk hlt => hb3.block k hlt))
  have HP3 := Aside0.mk ((hb3.block _ (Array.getElem?_eq_some_iff.1 HP2.out).1).trans HP2.out)
  have HZ3 := Aside0.mk hb3.size
  clear hb3 c0 c1 HX2 HP2
  go_wp2_with fail
  go_ret
  have z0 := HB1.out.size
  have z1 := HZ.out
  have z2 := HZ2.out
  have z3 := HZ3.out
  refine ⟨_, _, _, (fun k => w1.heap.size ≤ k ∧ k < w2.heap.size), q0, q1, w2, w3, rfl, heap_alloc_last w3 _, ⟨⟨_, _, heap_alloc_last w3 _⟩, (Below.heap_alloc _ _ _ (by omega)).trans HP3.out, HA3.out.kept (fun k hk hlt => Below.heap_alloc _ _ _ hlt), fun hc => by omega, fun hc => by omega, by omega⟩, fun k hk => ⟨by omega, by simp; omega⟩, by omega, by omega, HB3.out.alloc (by omega) _, HRR.out, below_alloc1 w3 _, by omega, rfl⟩
end Go.Proofs.YtkeneiahhmbojaaGreatDoor

namespace Go.Proofs.YtkeneiahhmbojaaGreatDoor
open Go.RowKit Go.MapKept
open Go.Proofs.YtkeneiahhmbojaaGreatDoorW.PrintWords Go.Proofs.YtkeneiahhmbojaaGreatDoorW.PrintMore
open POpsBinds

theorem eqNil (ad : Addr) (n c : Nat) (W : World) : (binOp .eql 55 (.slice (some ad) n c) (.slice none 0 0)).run Tryz.prog W = .ok (.bool false) W := by kernel_rfl
theorem eqNil0 (n c : Nat) (W : World) : (binOp .eql 55 (.slice none n c) (.slice none 0 0)).run Tryz.prog W = .ok (.bool true) W := by kernel_rfl
set_option maxRecDepth 100000 in
theorem clone_calls (A : Option Addr) (c : Nat) (l : List S41) (w : World) (hr : Kd.C k41 w A l.length l) (hl : l.length ≤ 4096) :
    Calls Tryz.prog 55 #[.slice A l.length c] w fun e w' => ∃ v : Value, e = .returned v ∧ Kd.R k41 41 w' w.heap.size (fun _ => True) v l ∧ Below w.heap.size w w' := by
  have HR := Aside0.mk hr
  have HL := Aside0.mk hl
  clear hr hl
  cases A with
  | none =>
    have h0 : l = [] := by
      cases l with
      | nil => rfl
      | cons a t => obtain ⟨ad, e, _⟩ := HR.out.2.2 (by simp); cases e
    subst h0
    have q := eqNil0 0 c w
    dsimp only [List.length_nil]
    go_enter Tryz.func55, Tryz.ntmps55
    go_wp2_with fail
    go_ret
    exact ⟨_, rfl, Kd.R_nil _ _ _ _ _, Below.refl _ _⟩
  | some ad =>
    have q := eqNil ad l.length c w
    go_enter Tryz.func55, Tryz.ntmps55
    have hnil : Kd.R k41 41 (w.alloc (.cells #[] 41)) w.heap.size (fun _ => True) (.slice (some ⟨w.heap.size, 0, none⟩) 0 0) [] :=
      ⟨fun _ _ => trivial, [], by have h := World.ownsRow_lit (base := w.heap.size) (e := 41) (size := 2) w #[] 0 (Nat.le_refl _) (by simp [maxLen]) (by simp); exact h, Reps.none _ _⟩
    have HN := Aside0.mk hnil
    have HRR := Aside0.mk (ReadsRow.imp_ (R' := k41.K w) HR.out (below_alloc (Below.refl _ w) (.cells #[] 41)) (fun _ _ h => h))
    clear hnil
    go_wp2_with (first | ((with_reducible refine gate_builtin (b := .append) (xs := #[.tmp 5, .tmp 6]) rfl ?_); at_builtin; refine Kd.R_append_rows k41 (Rr := k41.K w) (w0 := w) w.heap.size rfl (.tmp 5) (.tmp 6) 55 41 (.agg #[.int .i64 0, .int .i64 0]) 16 rfl Tryz.underlying55 info41 rfl (by decide) (by omega) (.slice (some ⟨w.heap.size, 0, none⟩) 0 0) ([] : List S41) l (some ad) l.length c (fun _ => True) (fun _ => False) rfl rfl ?aO ?aR ?aK (fun _ h => h.elim) (fun _ _ => trivial) ?aB ?aS ?aL ?_; (case aO => exact HN.out); (case aR => exact HRR.out); (case aK => intro x cs h; rw [k41_open h]; exact k41_mkM _ _ _ _); (case aB => exact below_alloc (Below.refl _ w) _); (case aS => simp); (case aL => have := HL.out; simp; omega); intro v1 w1 ho hb hg hat; have HO := Aside0.mk (And.intro ho hb); clear ho hb hg hat))
    go_ret
    exact ⟨_, rfl, HO.out.1, HO.out.2⟩
end Go.Proofs.YtkeneiahhmbojaaGreatDoor

namespace Go.Proofs.YtkeneiahhmbojaaGreatDoor
open Go.RowKit Go.MapKept
open Go.Proofs.YtkeneiahhmbojaaGreatDoorW.PrintWords Go.Proofs.YtkeneiahhmbojaaGreatDoorW.PrintMore
open POpsBinds

theorem setCell_rowV (w : World) (hp : Nat) (bud sp v : Int) (u : Value) (q : Nat) (hh : w.heap[hp]? = some (.cells #[.int .i64 bud, .int .i64 sp, u] 94 (0, 0))) :
    ((w.drewN q).setCell ⟨hp, 1, none⟩ (.int .i64 v)).heap[hp]? = some (.cells #[.int .i64 bud, .int .i64 v, u] 94 (0, 0)) ∧ Kp w ((w.drewN q).setCell ⟨hp, 1, none⟩ (.int .i64 v)) (fun k => k = hp) := by
  refine ⟨?_, ((Kp.refl w (fun k => k = hp)).drewN q).setCell (p := ⟨hp, 1, none⟩) (.inl rfl) _⟩
  have hlt := (Array.getElem?_eq_some_iff.1 hh).1
  have h2 := (Array.getElem?_eq_some_iff.1 hh).2
  simp [World.setCell, World.drewN, hlt, Array.getElem_modify, h2]
theorem spend_callsV (w : World) (hp : Nat) (bud sp n : Int) (u : Value) (hh : w.heap[hp]? = some (.cells #[.int .i64 bud, .int .i64 sp, u] 94 (0, 0))) (h0 : 0 ≤ n) (hsp : 0 ≤ sp) (hb : sp + n ≤ bud) (hbud : bud ≤ 1048576) :
    Calls Tryz.prog 125 #[.pointer (some ⟨hp, 0, none⟩), .int .i64 n] w fun e w' => e = .returned (.bool true) ∧ w'.heap[hp]? = some (.cells #[.int .i64 bud, .int .i64 (sp + n), u] 94 (0, 0)) ∧ Kp w w' (fun k => k = hp) := by
  have HR := Aside0.mk (fun q => setCell_rowV w hp bud sp (sp + n) u q hh)
  have c0 : w.cell? ⟨hp, 0, none⟩ = some (.int .i64 bud) := by rw [cell_of_row _ _ 0 _ _ _ hh]; rfl
  have c1 : w.cell? ⟨hp, 1, none⟩ = some (.int .i64 sp) := by rw [cell_of_row _ _ 1 _ _ _ hh]; rfl
  have f1 : w.frozen? ⟨hp, 1, none⟩ = false := frozen_of_row w _ 1 _ _ hh
  have t1 : decide (n < 0) = false := by simp; omega
  have t2 : IntKind.i64.wrap (bud - sp) = bud - sp := IntWalk.i64_in _ (by omega)
  have t3 : decide (bud - sp < n) = false := by simp; omega
  have t4 : IntKind.i64.wrap (sp + n) = sp + n := IntWalk.i64_in _ (by omega)
  clear hh h0 hsp hb hbud
  go_enter Tryz.func125, Tryz.ntmps125
  go_wp2_with fail
  go_quiet (fail)
  go_wp2_with fail
  go_ret
  exact ⟨rfl, HR.out _⟩

/-- a thing that is a bound function, by its struct's block -/
abbrev ifB (b : Nat) : Value := .iface 130 (.pointer (some ⟨b, 0, none⟩))
theorem ifB_one (b : Nat) : (ifB b).oneCell' = true := rfl
abbrev kTh : Kd Nat := Kd.scalar ifB ifB_one
theorem info96 : (Tryz.prog.info? 96).map (fun i => (i.zero, i.size, i.bytes)) = some (some .nilIface, 1, 16) := by kernel_rfl
theorem m_kind (a : Addr) (w : World) : (method 499 130 (.pointer (some a)) "portage/heap.kind").run Tryz.prog w = .ok (326, .pointer (some a)) w := by kernel_rfl
set_option maxRecDepth 100000 in
theorem kind_calls (a : Addr) (w : World) : Calls Tryz.prog 326 #[.pointer (some a)] w fun e w' => e = .returned (.int .i64 8) ∧ w = w' := by
  go_enter Tryz.func326, Tryz.ntmps326
  go_wp2_with fail
  go_ret
  exact ⟨rfl, rfl⟩
theorem set2_row (w : World) (g : Nat) (a b x y : Value) (t : TypeId) (h : w.heap[g]? = some (.cells #[a, b] t (0, 0))) : ((w.setCell ⟨g, 0, none⟩ x).setCell ⟨g, 1, none⟩ y).heap[g]? = some (.cells #[x, y] t (0, 0)) := by
  have hlt := (Array.getElem?_eq_some_iff.1 h).1
  have h2 := (Array.getElem?_eq_some_iff.1 h).2
  simp [World.setCell, hlt, Array.getElem_modify, h2]
theorem set3_row (w : World) (g : Nat) (a b c x : Value) (t : TypeId) (h : w.heap[g]? = some (.cells #[a, b, c] t (0, 0))) : (w.setCell ⟨g, 2, none⟩ x).heap[g]? = some (.cells #[a, b, x] t (0, 0)) := by
  have hlt := (Array.getElem?_eq_some_iff.1 h).1
  have h2 := (Array.getElem?_eq_some_iff.1 h).2
  simp [World.setCell, hlt, Array.getElem_modify, h2]
theorem put_end (W w2 w3 X : World) (n0 hp t g cap : Nat) (sp cost : Int) (v : Value) (bs : List Nat) (hlt : hp < W.heap.size) (hk2 : Kp (W.alloc (.cells #[.int .i64 0, .int .i64 0] 41)) w2 (fun k => k = hp))
    (h : kTh.R 96 w3 n0 (fun _ => True) (.slice (some ⟨g, 0, none⟩) (bs ++ [t]).length cap) (bs ++ [t]) ∧ Below n0 w2 w3 ∧ w2.grownBy w3 v.ownBlock ∧ ((Value.slice (some ⟨g, 0, none⟩) (bs ++ [t]).length cap).ownBlock = v.ownBlock ∨ ∃ b, (Value.slice (some ⟨g, 0, none⟩) (bs ++ [t]).length cap).ownBlock = some b ∧ w2.heap.size ≤ b) ∧ w3.heap[hp]? = some (.cells #[.int .i64 1048576, .int .i64 (sp + cost), v] 94 (0, 0)) ∧ w3.heap[W.heap.size]? = some (.cells #[.int .i64 0, .int .i64 0] 41 (0, 0)))
    (hX : X = (((w3.setCell ⟨hp, 2, none⟩ (.slice (some ⟨g, 0, none⟩) (bs.length + 1) cap)).setCell ⟨W.heap.size, 0, none⟩ (.int .i64 8)).setCell ⟨W.heap.size, 1, none⟩ (.int .i64 (bs.length : Int))).drew) :
    ∃ v', X.heap[hp]? = some (.cells #[.int .i64 1048576, .int .i64 (sp + cost), v'] 94 (0, 0)) ∧ kTh.R 96 X n0 (fun _ => True) v' (bs ++ [t]) ∧ Kp W X (fun k => k = hp ∨ some k = v.ownBlock) := by
  obtain ⟨h1, h2, h3, h4, h5, h6⟩ := h
  have hlen : (bs ++ [t]).length = bs.length + 1 := by simp
  rw [hlen] at h1
  clear h4
  have hd : ∀ k : Nat, X.heap[k]? = (((w3.setCell ⟨hp, 2, none⟩ (.slice (some ⟨g, 0, none⟩) (bs.length + 1) cap)).setCell ⟨W.heap.size, 0, none⟩ (.int .i64 8)).setCell ⟨W.heap.size, 1, none⟩ (.int .i64 (bs.length : Int))).heap[k]? := fun k => by rw [hX]; rfl
  have ho : ∀ k : Nat, k ≠ hp → k ≠ W.heap.size → X.heap[k]? = w3.heap[k]? := fun k k1 k2 => by
    rw [hd, Below.heap_setCell _ _ _ _ k2, Below.heap_setCell _ _ _ _ k2, Below.heap_setCell _ _ _ _ k1]
  refine ⟨.slice (some ⟨g, 0, none⟩) (bs.length + 1) cap, ?_, ?_, ?_⟩
  · have hne : hp ≠ W.heap.size := by omega
    rw [hd, Below.heap_setCell _ _ _ _ hne, Below.heap_setCell _ _ _ _ hne]
    exact set3_row _ _ _ _ _ _ _ h5
  · have r1 := Kd.R_types (Kd.R_types h1 h5 (by decide)) h6 (by decide)
    exact Kd.R_mono (Kd.R_step r1 (fun k hk _ => ho k hk.1.2 hk.2)) (fun _ _ => trivial)
  · have k1 : Kp W w2 (fun k => k = hp ∨ some k = v.ownBlock) := ((Kp.refl W _).alloc _).trans hk2 (fun j hj => .inl (.inl hj))
    have k2 := k1.grown h3 (fun j hj => .inl (.inr hj.symm))
    have k3 := ((k2.setCell (p := ⟨hp, 2, none⟩) (.inl (.inl rfl)) (.slice (some ⟨g, 0, none⟩) (bs.length + 1) cap)).setCell (p := ⟨W.heap.size, 0, none⟩) (.inr (Nat.le_refl _)) (.int .i64 8)).setCell (p := ⟨W.heap.size, 1, none⟩) (.inr (Nat.le_refl _)) (.int .i64 (bs.length : Int))
    rw [hX]
    exact ⟨k3.os, k3.tape, k3.output, k3.size, k3.block⟩
set_option maxRecDepth 100000 in
set_option maxHeartbeats 2000000 in
theorem put_calls (W : World) (n0 hp t : Nat) (sp cost : Int) (v : Value) (bs : List Nat) (hh : W.heap[hp]? = some (.cells #[.int .i64 1048576, .int .i64 sp, v] 94 (0, 0))) (hth : kTh.R 96 W n0 (fun _ => True) v bs) (h0 : 0 ≤ cost) (hsp : 0 ≤ sp) (hb : sp + cost ≤ 1048576) (hlen : bs.length ≤ 8) (hn0 : n0 ≤ W.heap.size) :
    Calls Tryz.prog 91 #[.pointer (some ⟨hp, 0, none⟩), .int .i64 cost, .iface 130 (.pointer (some ⟨t, 0, none⟩))] W fun e w' => e = .returned (.tuple #[.agg #[.int .i64 8, .int .i64 (bs.length : Int)], .bool true]) ∧ ∃ v', w'.heap[hp]? = some (.cells #[.int .i64 1048576, .int .i64 (sp + cost), v'] 94 (0, 0)) ∧ kTh.R 96 w' n0 (fun _ => True) v' (bs ++ [t]) ∧ Kp W w' (fun k => k = hp ∨ some k = v.ownBlock) := by
  have HH := Aside0.mk hh
  have HTH := Aside0.mk hth
  have HN := Aside0.mk (And.intro h0 (And.intro hsp (And.intro hb hlen)))
  have hlt := (Array.getElem?_eq_some_iff.1 hh).1
  clear hh hth h0 hsp hb hlen
  go_enter Tryz.func91, Tryz.ntmps91
  go_wp2_with fail
  refine (spend_callsV _ hp 1048576 sp cost v ((Below.heap_alloc _ _ _ hlt).trans HH.out) HN.out.1 HN.out.2.1 HN.out.2.2.1 (by omega)).mono ?_
  rintro e w2 ⟨rfl, hh2, hk2⟩
  have c2 : w2.cell? ⟨hp, 2, none⟩ = some v := by rw [cell_of_row _ _ 2 _ _ _ hh2]; rfl
  have hT1 := Kd.R_types HTH.out HH.out (by decide)
  have hT2 := Kd.R_step hT1 (w1 := w2) (fun k hk hk' => (hk2.block k (by simp; omega) hk.2).trans (Below.heap_alloc _ _ _ hk'))
  have HT2 := Aside0.mk (Kd.R_mono hT2 (fun k _ => trivial))
  have HE := Aside0.mk (Kd.R_types (Kd.R_mono hT2 (ok' := fun _ => True) (fun k _ => trivial)) hh2 (by decide))
  have HK2 := Aside0.mk hk2
  have HH2 := Aside0.mk hh2
  have hz2 : W.heap.size < w2.heap.size := by have := hk2.size; simp at this; omega
  have hne : some hp ≠ v.ownBlock := Kd.R_ne HT2.out hh2 (by decide)
  have hr2 := (hk2.block W.heap.size (by simp) (by omega)).trans (heap_alloc_last W (.cells #[.int .i64 0, .int .i64 0] 41))
  have hne2 : some W.heap.size ≠ v.ownBlock := Kd.R_ne HT2.out hr2 (by decide)
  clear hT1 hT2 hk2 hh2
  go_wp2_with (first | ((with_reducible refine gate_builtin (b := .append) (xs := #[.tmp 17, .tmp 19]) rfl ?_); at_builtin; refine Kd.R_append kTh (w0 := w2) n0 rfl (.tmp 17) (.tmp 19) 92 96 .nilIface 16 rfl Tryz.underlying92 info96 rfl (by decide) (by omega) v bs t [.iface 130 (.pointer (some ⟨t, 0, none⟩))] (fun _ => True) (fun _ => False) rfl rfl ?aP (fun _ h => h.elim) (fun _ _ => trivial) ?aO ?aB ?aS ?aL ?_; (case aP => exact rfl); (case aO => exact HT2.out); (case aB => exact Below.refl _ _); (case aS => omega); (case aL => have := HN.out; omega); intro v1 w3 ho hb hg hat; obtain ⟨g, cap, rfl, hg0, hg1, cells, hgc⟩ := Kd.R_form ho (by simp); have hh3 := (hg.block hp (by omega) hne).trans HH2.out; have hr3 := (hg.block W.heap.size hz2 hne2).trans hr2; have c3 : w3.cell? ⟨hp, 2, none⟩ = some v := (by rw [cell_of_row _ _ 2 _ _ _ hh3]; rfl); have f3 : w3.frozen? ⟨hp, 2, none⟩ = false := frozen_of_row w3 _ 2 _ _ hh3; have c4 : w3.cell? ⟨W.heap.size, 0, none⟩ = some (.int .i64 0) := (by rw [cell_of_row _ _ 0 _ _ _ hr3]; rfl); have c5 : w3.cell? ⟨W.heap.size, 1, none⟩ = some (.int .i64 0) := (by rw [cell_of_row _ _ 1 _ _ _ hr3]; rfl); have f4 : w3.frozen? ⟨W.heap.size, 0, none⟩ = false := frozen_of_row w3 _ 0 _ _ hr3; have f5 : w3.frozen? ⟨W.heap.size, 1, none⟩ = false := frozen_of_row w3 _ 1 _ _ hr3; have HO := Aside0.mk (And.intro ho (And.intro hb (And.intro hg (And.intro hat (And.intro hh3 hr3))))); clear ho hb hg hat hh3 hr3 c2 hr2))
  have s1 : IntKind.i64.wrap (bs.length : Int) = (bs.length : Int) := IntWalk.i64_in _ (by have := HN.out; omega)
  have q := m_kind ⟨t, 0, none⟩
  go_region_with (go_at_call 326; refine (kind_calls _ _).mono ?_; rintro e _ ⟨rfl, rfl⟩)
  all_goals (try go_simp)
  all_goals (try go_wp2_with fail)
  all_goals
    refine bodyPost_ret (results_ct rfl _ _ W.heap.size 41 #[.int .i64 8, .int .i64 (bs.length : Int)] (0, 0) _ rfl ?_ Tryz.underlying41 rfl (by kernel_rfl)) rfl ⟨rfl, put_end W w2 w3 _ n0 hp t g cap sp cost v bs hlt HK2.out HO.out ?_⟩
  all_goals first
    | exact set2_row (w3.setCell ⟨hp, 2, none⟩ (.slice (some ⟨g, 0, none⟩) (bs.length + 1) cap)) W.heap.size _ _ _ _ _ ((Below.heap_setCell _ _ _ _ (show W.heap.size ≠ hp by omega)).trans HO.out.2.2.2.2.2)
    | rfl
end Go.Proofs.YtkeneiahhmbojaaGreatDoor

namespace Go.Proofs.YtkeneiahhmbojaaGreatDoor
open Go.RowKit Go.MapKept
open Go.Proofs.YtkeneiahhmbojaaGreatDoorW.PrintWords Go.Proofs.YtkeneiahhmbojaaGreatDoorW.PrintMore
open POpsBinds

set_option maxRecDepth 100000 in
set_option maxHeartbeats 2000000 in
theorem heapBound_calls (W : World) (n0 hp : Nat) (sp fn : Int) (v : Value) (bs : List Nat) (A : Option Addr) (c : Nat) (l : List S41) (hh : W.heap[hp]? = some (.cells #[.int .i64 1048576, .int .i64 sp, v] 94 (0, 0))) (hth : kTh.R 96 W n0 (fun _ => True) v bs) (hr : Kd.C k41 W A l.length l) (hl : l.length ≤ 64) (hfn : 0 ≤ fn) (hsp : 0 ≤ sp) (hb : sp + (2 + (l.length : Int)) ≤ 1048576) (hlen : bs.length ≤ 8) (hn0 : n0 ≤ W.heap.size) :
    Calls Tryz.prog 93 #[.pointer (some ⟨hp, 0, none⟩), .int .i64 fn, .slice A l.length c] W fun e w' => e = .returned (.tuple #[.agg #[.int .i64 8, .int .i64 (bs.length : Int)], .bool true]) ∧ ∃ t v' vi, w'.heap[hp]? = some (.cells #[.int .i64 1048576, .int .i64 (sp + (2 + (l.length : Int))), v'] 94 (0, 0)) ∧ kTh.R 96 w' n0 (fun _ => True) v' (bs ++ [t]) ∧ w'.heap[t]? = some (.cells #[.int .i64 fn, vi] 132 (0, 0)) ∧ k41.R 41 w' W.heap.size (fun _ => True) vi l ∧ Kp W w' (fun k => k = hp ∨ some k = v.ownBlock) ∧ W.heap.size ≤ t := by
  have HH := Aside0.mk hh
  have HTH := Aside0.mk hth
  have HR := Aside0.mk hr
  have HN := Aside0.mk (And.intro hfn (And.intro hsp (And.intro hb (And.intro hlen (And.intro hl hn0)))))
  have hlt := (Array.getElem?_eq_some_iff.1 hh).1
  have f1 : decide (fn < 0) = false := by simp; omega
  have f2 : decide ((4096 : Int) < (l.length : Int)) = false := by simp; omega
  have s1 : IntKind.i64.wrap (2 + (l.length : Int)) = 2 + (l.length : Int) := IntWalk.i64_in _ (by omega)
  clear hh hth hr hfn hsp hb hlen hl hn0
  go_enter Tryz.func93, Tryz.ntmps93
  go_wp2_with fail
  refine (clone_calls A c l _ (Kd.C_below HR.out (below_alloc (Below.refl _ W) _)) (by have := HN.out; omega)).mono ?_
  rintro e w1 ⟨vi, rfl, hvi, hb1⟩
  obtain ⟨A1, cc1, rfl⟩ := Kd.R_slice hvi
  have hB := (below_alloc (Below.refl W.heap.size W) (.cells #[.int .i64 0, .int .i64 0] 41)).trans (hb1.mono (by simp))
  have HB := Aside0.mk hB
  have HVI := Aside0.mk (Kd.R_alloc (Kd.R_bound hvi) (.cells #[.int .i64 fn, .slice A1 l.length cc1] 132))
  have hz : W.heap.size < w1.heap.size := by have := hb1.size; simp at this; omega
  have HR1 := Aside0.mk ((hb1.block W.heap.size (by simp)).trans (heap_alloc_last W (.cells #[.int .i64 0, .int .i64 0] 41)))
  have HP1 := Aside0.mk ((hB.block hp hlt).trans HH.out)
  have HT1 := Aside0.mk (Kd.R_below HTH.out hB)
  clear hvi hb1 hB
  go_wp2_with fail
  refine (put_calls _ n0 hp w1.heap.size sp (2 + (l.length : Int)) v bs ((Below.heap_alloc _ _ _ (by omega)).trans HP1.out) (Kd.R_alloc HT1.out _) (by omega) HN.out.2.1 HN.out.2.2.1 HN.out.2.2.2.1 (by have := HN.out; simp; omega)).mono ?_
  rintro e w2 ⟨rfl, v', h1, h2, hk⟩
  have hne0 : some W.heap.size ≠ v.ownBlock := Kd.R_ne HT1.out HR1.out (by decide)
  have hne1 : some w1.heap.size ≠ v.ownBlock := Kd.R_ne (Kd.R_alloc HT1.out (.cells #[.int .i64 fn, .slice A1 l.length cc1] 132)) (heap_alloc_last w1 _) (by decide)
  have hr2 := (hk.block W.heap.size (by simp; omega) (fun hc => hc.elim (by omega) hne0)).trans ((Below.heap_alloc _ _ _ hz).trans HR1.out)
  have ht2 := (hk.block w1.heap.size (by simp) (fun hc => hc.elim (by omega) hne1)).trans (heap_alloc_last w1 _)
  have c0 : w2.cell? ⟨W.heap.size, 0, none⟩ = some (.int .i64 0) := by rw [cell_of_row _ _ 0 _ _ _ hr2]; rfl
  have c1 : w2.cell? ⟨W.heap.size, 1, none⟩ = some (.int .i64 0) := by rw [cell_of_row _ _ 1 _ _ _ hr2]; rfl
  have f3 : w2.frozen? ⟨W.heap.size, 0, none⟩ = false := frozen_of_row w2 _ 0 _ _ hr2
  have f4 : w2.frozen? ⟨W.heap.size, 1, none⟩ = false := frozen_of_row w2 _ 1 _ _ hr2
  have HX := Aside0.mk (And.intro h1 (And.intro h2 (And.intro hk (And.intro hr2 ht2))))
  have HV2 := Aside0.mk (Kd.R_step (Kd.R_types (Kd.R_apart' HVI.out (Kd.R_typed (Kd.R_alloc HT1.out (.cells #[.int .i64 fn, .slice A1 l.length cc1] 132))) (by decide)) ((Below.heap_alloc w1 (.cells #[.int .i64 fn, .slice A1 l.length cc1] 132) hp (by omega)).trans HP1.out) (by decide)) (fun k hk1 hk2 => hk.block k hk2 (fun hc => hc.elim (fun e => hk1.2 e) (fun e => hk1.1.2 e))))
  clear h1 h2 hk hr2 ht2
  go_wp2_with fail
  obtain ⟨h1, h2, hk, hr2, ht2⟩ := HX.out
  have ho : ∀ k : Nat, k ≠ W.heap.size → ((w2.setCell ⟨W.heap.size, 0, none⟩ (.int .i64 8)).setCell ⟨W.heap.size, 1, none⟩ (.int .i64 (bs.length : Int))).heap[k]? = w2.heap[k]? := fun k h => by
    rw [Below.heap_setCell _ _ _ _ h, Below.heap_setCell _ _ _ _ h]
  refine bodyPost_ret (results_ct rfl _ _ W.heap.size 41 #[.int .i64 8, .int .i64 (bs.length : Int)] (0, 0) _ rfl (set2_row _ _ _ _ _ _ _ hr2) Tryz.underlying41 rfl (by kernel_rfl)) rfl ⟨rfl, w1.heap.size, v', _, (ho hp (by omega)).trans h1, ?_, (ho _ (by omega)).trans ht2, ?_, ?_, by omega⟩
  · exact Kd.R_mono (Kd.R_step (Kd.R_types h2 hr2 (by decide)) (fun k hk _ => ho k hk.2)) (fun _ _ => trivial)
  · exact Kd.R_lower (Kd.R_mono (Kd.R_step HV2.out (fun k hk _ => ho k (by have := hk.1.1.2.1; simp at this; omega))) (fun _ _ => trivial)) (by simp)
  · have k1 : Kp W w1 (fun k => k = hp ∨ some k = v.ownBlock) := ⟨HB.out.os, HB.out.tape, HB.out.output, HB.out.size, fun k h _ => HB.out.block k h⟩
    exact (((k1.alloc _).trans hk (fun j hj => .inl hj)).setCell (p := ⟨W.heap.size, 0, none⟩) (.inr (Nat.le_refl _)) _).setCell (p := ⟨W.heap.size, 1, none⟩) (.inr (Nat.le_refl _)) _
end Go.Proofs.YtkeneiahhmbojaaGreatDoor
