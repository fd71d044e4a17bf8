/-
  An index of texts in memory: what it holds, and the contracts of its methods.
-/
import Derived.Test.YtijmhegccakndaaProg
import Derived.Maps.OwnSet
import Derived.WalkKit
import Derived.WalkLawsBesides
import Derived.WalkSpells
import Derived.Outline
import Derived.Below
import Derived.Deep.QuietTactic
import Derived.BigQuiet
import Derived.Test.YtijmhegccakndaaWWords
import Derived.Test.YtijmhegccakndaaWMore
import Derived.Lib.Hide
import Derived.Deep.AppendLies
import Derived.ChangeMaps4
namespace Go.Proofs.Ytijmhegccakndaa
open Go.RowKit Go.Maps Go.WideMaps
open Go.ChangeMaps (setBlock)
open Go.Proofs.YtijmhegccakndaaW.PrintWords Go.Proofs.YtijmhegccakndaaW.PrintMore

/-- Of what was there, only the blocks in S may have turned. -/
structure Kp (w w' : World) (S : Nat → Prop) : Prop where
  os : w'.os = w.os
  tape : w'.tape = w.tape
  output : w'.output = w.output
  size : w.heap.size ≤ w'.heap.size
  block : ∀ k, k < w.heap.size → ¬ S k → w'.heap[k]? = w.heap[k]?
theorem Kp.refl (w : World) (S : Nat → Prop) : Kp w w S := ⟨rfl, rfl, rfl, Nat.le_refl _, fun _ _ _ => rfl⟩
theorem Kp.trans {a b c : World} {S S' : Nat → Prop} (h : Kp a b S) (k : Kp b c S') (hS : ∀ j, S' j → S j ∨ a.heap.size ≤ j) : Kp a c S :=
  ⟨k.os.trans h.os, k.tape.trans h.tape, k.output.trans h.output, Nat.le_trans h.size k.size, fun i hi hn =>
    (k.block i (Nat.lt_of_lt_of_le hi h.size) (fun hs => by rcases hS i hs with h1 | h1; exact hn h1; omega)).trans (h.block i hi hn)⟩
theorem Kp.grown {a b c : World} {S : Nat → Prop} (h : Kp a b S) {row : Option Nat} (g : b.grownBy c row) (hS : ∀ j, row = some j → S j ∨ a.heap.size ≤ j) : Kp a c S :=
  h.trans (S' := fun j => row = some j) ⟨g.os, g.tape, g.output, g.size, fun k hk hn => g.block k hk (fun e => hn e.symm)⟩ hS
theorem Kp.below {w w' : World} {S : Nat → Prop} {B : Nat} (h : Kp w w' S) (hS : ∀ j, S j → B ≤ j) (hB : B ≤ w.heap.size) : Below B w w' :=
  ⟨h.os, h.tape, h.output, h.size, fun k hk => h.block k (by omega) (fun hs => by have := hS k hs; omega)⟩
theorem Kp.turned {a b c : World} {S : Nat → Prop} {m : Nat} (h : Kp a b S) (t : b.mapTurned c m) (hS : S m) : Kp a c S := by
  obtain ⟨es, cl, es', cl', h1, rfl⟩ := t
  refine h.trans (S' := fun j => j = m) ⟨rfl, rfl, rfl, by simp [setBlock], fun k hk hn => ?_⟩ (fun j hj => .inl (hj ▸ hS))
  simp only [setBlock]
  rw [Array.getElem?_setIfInBounds]
  rw [if_neg (by intro e; exact hn e.symm)]
theorem Kp.setCell {a b : World} {S : Nat → Prop} (h : Kp a b S) {p : Addr} (hp : S p.block ∨ a.heap.size ≤ p.block) (u : Value) : Kp a (b.setCell p u) S :=
  h.trans (S' := fun j => j = p.block) ⟨rfl, rfl, rfl, by simp [World.setCell], fun k hk hn => Below.heap_setCell _ _ _ _ hn⟩ (fun j hj => hj ▸ hp)
theorem Kp.alloc {a b : World} {S : Nat → Prop} (h : Kp a b S) (o : Obj) : Kp a (b.alloc o) S :=
  h.trans (S' := fun _ => False) ⟨rfl, rfl, rfl, by simp, fun k hk hn => Below.heap_alloc _ _ _ hk⟩ (fun j hj => hj.elim)
theorem Kp.drew {a b : World} {S : Nat → Prop} (h : Kp a b S) : Kp a b.drew S := ⟨h.os, h.tape, h.output, h.size, h.block⟩
theorem Kp.drewN {a b : World} {S : Nat → Prop} (h : Kp a b S) (n : Nat) : Kp a (b.drewN n) S := ⟨h.os, h.tape, h.output, h.size, h.block⟩
theorem Kp.mono {a b : World} {S S' : Nat → Prop} (h : Kp a b S) (hS : ∀ j, S j → S' j) : Kp a b S' := ⟨h.os, h.tape, h.output, h.size, fun k hk hn => h.block k hk (fun hs => hn (hS k hs))⟩

/-- the map reads as the row: each text of the row at its place, no other -/
structure Agree (D : DataW Unit) (row : List ByteArray) : Prop where
  tidy : Tidy D
  size : Maps.size D = row.length
  apart : row.Nodup
  small : ∀ t, t ∈ row → t.size ≤ maxLen
  at_ : ∀ (i : Nat) (t : ByteArray), row[i]? = some t → D.atKey (.string t.data.toList) (.lit (.int .i64 0)) = .lit (.int .i64 (i : Int))
  has : ∀ t : ByteArray, t.size ≤ maxLen → (Maps.has D (.string t.data.toList) = true ↔ t ∈ row)

theorem info9 : (Try.prog.info? 9).map (fun i => (i.zero, i.size, i.bytes)) = some (some (.string ⟨#[]⟩), 1, 16) := by kernel_rfl
theorem law9 : Keyed Try.prog 9 := string_keyed Try.underlying9
theorem zero3 (w : World) : (zeroValue 3).run Try.prog w = .ok (.int .i64 0) w := by kernel_rfl
abbrev strs_ (row : List ByteArray) : List Value := encs Value.string row

/-- The index behind the pointer to block b holds the row; all its blocks lie in S. -/
structure Ix (w : World) (b bm : Nat) (v : Value) (D : DataW Unit) (row : List ByteArray) : Prop where
  block : w.heap[b]? = some (.cells #[.map (some bm), v] 96 (0, 0))
  map : w.ownsMap Try.prog 9 (plainElem Try.prog 3) bm row.length D
  agree : Agree D row
  items : w.ownsRow 0 9 1 v row.length (strs_ row)
def Ix.S (b bm : Nat) (v : Value) (k : Nat) : Prop := k = b ∨ k = bm ∨ v.ownBlock = some k

theorem Ix.slice {w : World} {b bm : Nat} {v : Value} {D : DataW Unit} {row : List ByteArray} (h : Ix w b bm v D row) : ∃ A c, v = .slice A row.length c := own_slice h.items

theorem new_any (w : World) :
    Calls Try.prog 10 #[] w fun e w' => e = .returned (.pointer (some ⟨w.heap.size + 1, 0, none⟩)) ∧ (w.alloc (.map #[] 0)).alloc (.cells #[.map (some w.heap.size), .slice none 0 0] 96) = w' := by
  have hmm := @run_makeMap Try.prog
  go_enter Try.func10, Try.ntmps10
  go_wp2
  go_ret
  exact ⟨rfl, rfl⟩

theorem find_yes (w : World) (b bm : Nat) (v : Value) (D : DataW Unit) (row : List ByteArray) (t : ByteArray) (i : Nat) (h : Ix w b bm v D row) (hi : row[i]? = some t) :
    Calls Try.prog 15 #[.pointer (some ⟨b, 0, none⟩), .string t] w fun e w' => e = .returned (.tuple #[.int .i64 (i : Int), .bool true]) ∧ w = w' := by
  have hs := h.agree.small t (List.mem_of_getElem? hi)
  have hkey := keyOf_string_mk Try.underlying9 hs
  have hown := h.map
  have c0 : w.cell? ⟨b, 0, none⟩ = some (.map (some bm)) := by simp [World.cell?, h.block]
  have hh : Maps.has D (.string t.data.toList) = true := (h.agree.has t hs).2 (List.mem_of_getElem? hi)
  have ha := Lib.hid (h.agree.at_ i t hi)
  clear hi h
  go_enter Try.func15, Try.ntmps15
  go_wp2_with (at_lookup; refine wpList_lookup_own_ok_int _ rfl _ _ 94 rfl 9 3 .i64 law9 Try.underlying94 Try.underlying3 (zero3 _) bm _ D rfl hown _ _ rfl hkey ?_; intro c hat hwc)
  go_ret2
  have := ha.out.symm.trans hat
  simp at this
  subst this
  exact ⟨rfl, rfl⟩

theorem find_no (w : World) (b bm : Nat) (v : Value) (D : DataW Unit) (row : List ByteArray) (t : ByteArray) (h : Ix w b bm v D row) (hs : t.size ≤ maxLen) (hi : ¬ t ∈ row) :
    Calls Try.prog 15 #[.pointer (some ⟨b, 0, none⟩), .string t] w fun e w' => e = .returned (.tuple #[.int .i64 0, .bool false]) ∧ w = w' := by
  have hkey := keyOf_string_mk Try.underlying9 hs
  have hown := h.map
  have c0 : w.cell? ⟨b, 0, none⟩ = some (.map (some bm)) := by simp [World.cell?, h.block]
  have hh : Maps.has D (.string t.data.toList) = false := by
    cases e : Maps.has D (.string t.data.toList) with
    | false => rfl
    | true => exact absurd ((h.agree.has t hs).1 e) hi
  have ha := Lib.hid (Maps.atKey_of_not_has hh (.lit (.int .i64 0)))
  clear hi h hs
  go_enter Try.func15, Try.ntmps15
  go_wp2_with (at_lookup; refine wpList_lookup_own_ok_int _ rfl _ _ 94 rfl 9 3 .i64 law9 Try.underlying94 Try.underlying3 (zero3 _) bm _ D rfl hown _ _ rfl hkey ?_; intro c hat hwc)
  go_ret2
  have := ha.out.symm.trans hat
  simp at this
  subst this
  exact ⟨rfl, rfl⟩

theorem len_any (w : World) (b bm : Nat) (v : Value) (D : DataW Unit) (row : List ByteArray) (h : Ix w b bm v D row) :
    Calls Try.prog 14 #[.pointer (some ⟨b, 0, none⟩)] w fun e w' => e = .returned (.int .i64 (row.length : Int)) ∧ w = w' := by
  obtain ⟨A, c, rfl⟩ := h.slice
  have c1 : w.cell? ⟨b, 1, none⟩ = some (.slice A row.length c) := by simp [World.cell?, h.block]
  clear h
  go_enter Try.func14, Try.ntmps14
  go_wp2
  go_ret
  exact ⟨rfl, rfl⟩

theorem at_yes (w : World) (b bm : Nat) (v : Value) (D : DataW Unit) (row : List ByteArray) (t : ByteArray) (i : Nat) (h : Ix w b bm v D row) (hi : row[i]? = some t) :
    Calls Try.prog 17 #[.pointer (some ⟨b, 0, none⟩), .int .i64 (i : Int)] w fun e w' => e = .returned (.tuple #[.string t, .bool true]) ∧ w = w' := by
  have hlt : i < row.length := (List.getElem?_eq_some_iff.1 hi).1
  obtain ⟨g, cap, rfl, _, _⟩ := h.items.form (by omega)
  have c1 : w.cell? ⟨b, 1, none⟩ = some (.slice (some ⟨g, 0, none⟩) row.length cap) := by simp [World.cell?, h.block]
  have ci : w.cell? ⟨g, i, none⟩ = some (.string t) := by
    rw [h.items.cellAt i (by omega)]
    simp [strs_, encs, hi]
  have hm : row.length ≤ 9223372036854775807 := by
    rcases h.items.2 with ⟨_, h1⟩ | ⟨g', cap', cur, he, _, _, h1, h2, _⟩
    · omega
    · simp only [maxLen] at h2; omega
  have p0 : decide ((i : Int) < 0) = false := by simp
  have p1 : decide ((row.length : Int) ≤ (i : Int)) = false := by simp; omega
  have p2 : (i : Int) < (row.length : Int) := by omega
  clear h hi
  go_enter Try.func17, Try.ntmps17
  go_wp2
  repeat (go_quiet (fail); try go_wp2)
  go_ret2
  exact ⟨rfl, rfl⟩

theorem at_no (w : World) (b bm : Nat) (v : Value) (D : DataW Unit) (row : List ByteArray) (i : Int) (h : Ix w b bm v D row) (hi : i < 0 ∨ (row.length : Int) ≤ i) :
    Calls Try.prog 17 #[.pointer (some ⟨b, 0, none⟩), .int .i64 i] w fun e w' => e = .returned (.tuple #[.string ⟨#[]⟩, .bool false]) ∧ w = w' := by
  obtain ⟨A, c, rfl⟩ := h.slice
  have c1 : w.cell? ⟨b, 1, none⟩ = some (.slice A row.length c) := by simp [World.cell?, h.block]
  clear h
  by_cases h0 : i < 0
  · have p0 : decide (i < 0) = true := decide_eq_true h0
    clear h0 hi
    go_enter Try.func17, Try.ntmps17
    go_wp2
    repeat (go_quiet (fail); try go_wp2)
    go_ret2
    exact ⟨rfl, rfl⟩
  · have p0 : decide (i < 0) = false := decide_eq_false h0
    have p1 : decide ((row.length : Int) ≤ i) = true := decide_eq_true (by omega)
    clear h0 hi
    go_enter Try.func17, Try.ntmps17
    go_wp2
    repeat (go_quiet (fail); try go_wp2)
    go_ret2
    exact ⟨rfl, rfl⟩

theorem items_any (w : World) (b bm : Nat) (v : Value) (D : DataW Unit) (row : List ByteArray) (h : Ix w b bm v D row) (hn : row.length * 16 ≤ 281474976710656) :
    Calls Try.prog 13 #[.pointer (some ⟨b, 0, none⟩)] w fun e w' => ∃ v' : Value, e = .returned v' ∧ Kd.string.R 9 w' w.heap.size (fun _ => True) v' row ∧ Below w.heap.size w w' := by
  obtain ⟨A, c, rfl⟩ := h.slice
  have hR : Kd.string.R 9 w 0 (fun _ => True) (.slice A row.length c) row := Kd.R_of_own h.items (fun _ _ => trivial)
  have HC := Aside0.mk (Kd.R_reads' hR).2.2
  have c1 : w.cell? ⟨b, 1, none⟩ = some (.slice A row.length c) := by simp [World.cell?, h.block]
  have hlt : b < w.heap.size := (Array.getElem?_eq_some_iff.1 h.block).1
  have hmk := print_make_of (P := Try.prog) 22 9 (.string ⟨#[]⟩) 16 Try.underlying22 info9 rfl (by omega) row.length hn
  have HM := Aside0.mk (show row.length ≤ 9223372036854775807 by omega)
  have HO := Aside0.mk (show Kd.string.R 9 (w.alloc (.cells (madeCells #[.string ⟨#[]⟩] row.length) 9)) w.heap.size (fun _ => True) (.slice (some ⟨w.heap.size, 0, none⟩) row.length row.length) (List.replicate row.length (⟨#[]⟩ : ByteArray)) from
    Kd.R_of_own (by rw [List.length_replicate]; exact own_made_of (enc := Value.string) (d := (⟨#[]⟩ : ByteArray)) w w.heap.size 9 row.length (Nat.le_refl _) HM.out) (fun _ _ => trivial))
  clear h hR hn
  go_enter Try.func13, Try.ntmps13
  go_wp2_with (first | ((with_reducible refine gate_builtin (b := .copy) (xs := #[.tmp 10, .tmp 14]) rfl ?_); refine Kd.R_copy (enc := Value.string) (h1 := fun _ => rfl) (⟨#[]⟩ : ByteArray) (w0 := w) w.heap.size rfl (.tmp 10) (.tmp 14) 22 22 9 rfl Try.underlying22 (by kernel_rfl) (.slice (some ⟨w.heap.size, 0, none⟩) row.length row.length) (List.replicate row.length (⟨#[]⟩ : ByteArray)) row A row.length c (fun _ => True) rfl rfl HO.out (Kd.C_alloc HC.out _) ?aB ?aS ?_; (case aB => exact below_alloc (Below.refl _ _) _); (case aS => simp); intro w1 hR1 hB1 hg1; replace hR1 := Aside0.mk hR1; replace hB1 := Aside0.mk hB1; replace hg1 := Aside0.mk hg1))
  go_ret
  refine ⟨_, rfl, ?_, hB1.out⟩
  have h2 := hR1.out
  simp at h2
  exact h2

end Go.Proofs.Ytijmhegccakndaa
