/-
  One instruction's line, by the reference. (Printed by wip/tools/lst_in.py.)
-/
import Derived.Test.YtpallcggmaheoaaDoorPq
import Derived.Test.YtpallcggmaheoaaDoorIl
import Derived.Test.YtpallcggmaheoaaDoorRo
namespace Go.Proofs.YtpallcggmaheoaaDoor
open Go.RowKit Go.Proofs.YtpallcggmaheoaaDoorW.PrintWords Go.Proofs.YtpallcggmaheoaaDoorW.PrintMore
open PListInstr
set_option linter.unusedVariables false

/-- the functions' names, as they are read -/
def NmC (w : World) (A : Option Addr) (nms : List ByteArray) : Prop := ∀ (j : Nat) (t : ByteArray), nms[j]? = some t → ∃ ad, A = some ad ∧ w.cell? (ad.add (j * 5)) = some (.string t)
theorem NmC.below {w w' : World} {A : Option Addr} {nms : List ByteArray} (h : NmC w A nms) (hb : Below w.heap.size w w') : NmC w' A nms := fun j t hj => by
  obtain ⟨ad, e, hc⟩ := h j t hj
  exact ⟨ad, e, (hb.cell (World.block_lt_of_cell? w _ hc)).trans hc⟩
/-- an instruction's line -/
def lineOf (nms : List ByteArray) (n : Nat) (a : Int) : ByteArray × Bool :=
  if okA (opRow n).2.1 a = true then
    if (opRow n).2.1 = 0 then (⟨(opRow n).1.toArray⟩, true)
    else if (opRow n).2.1 = 2 then ((⟨(opRow n).1.toArray⟩ : ByteArray) ++ ⟨#[32]⟩ ++ ofL (76 :: Lib.itoa a), true)
    else if (opRow n).2.1 = 5 then (if nms.length ≤ a.toNat then (⟨#[]⟩, false) else ((⟨(opRow n).1.toArray⟩ : ByteArray) ++ ⟨#[32]⟩ ++ nms.getD a.toNat ⟨#[]⟩, true))
    else ((⟨(opRow n).1.toArray⟩ : ByteArray) ++ ⟨#[32]⟩ ++ ofL (Lib.itoa a), true)
  else (⟨#[]⟩, false)
theorem nm_size (n : Nat) (h : n < 67) : (⟨(opRow n).1.toArray⟩ : ByteArray).size ≤ 8 := by
  have : (List.range 67).all (fun n => decide ((opRow n).1.length ≤ 8)) = true := by decide +kernel
  have h2 := of_decide_eq_true (List.all_eq_true.1 this n (List.mem_range.2 h))
  simpa [ByteArray.size] using h2
theorem itoa_len (n : Int) (h0 : -9223372036854775808 ≤ n) (h1 : n ≤ 9223372036854775807) : (Lib.itoa n).length ≤ 21 := by
  unfold Lib.itoa
  split
  · have := dec_len n.natAbs (by omega)
    simp
    omega
  · have := dec_len n.toNat (by omega)
    omega
theorem okA5 {a : Int} (h : okA 5 a = true) : 0 ≤ a ∧ a < 128 := by
  have : decide (0 ≤ a ∧ a < 128) = true := by simpa [okA] using h
  exact of_decide_eq_true this
/-- a program and an instruction in blocks of a call's own -/
structure PF (w : World) (p0 p1 : Value) (n a : Int) (X : World) : Prop where
  bl : Below w.heap.size w X
  c0 : X.cell? ⟨w.heap.size, 0, none⟩ = some p0
  c1 : X.cell? ⟨w.heap.size, 1, none⟩ = some p1
  i0 : X.cell? ⟨w.heap.size + 1, 0, none⟩ = some (.int .i64 n)
  i1 : X.cell? ⟨w.heap.size + 1, 1, none⟩ = some (.int .i64 a)
  lt : w.heap.size + 1 < X.heap.size
theorem PF.start (w : World) (p0 p1 : Value) (n a : Int) : PF w p0 p1 n a ((w.alloc (.cells #[p0, p1] 25)).alloc (.cells #[.int .i64 n, .int .i64 a] 27)) := by
  have h0 := heap_alloc2_old w (.cells #[p0, p1] 25) (.cells #[.int .i64 n, .int .i64 a] 27)
  have h1 := heap_alloc2_new w (.cells #[p0, p1] 25) (.cells #[.int .i64 n, .int .i64 a] 27)
  exact ⟨((Below.refl _ _).alloc (Nat.le_refl _) _).alloc (by simp) _, by rw [cell_of_row _ _ 0 _ _ _ h0]; rfl, by rw [cell_of_row _ _ 1 _ _ _ h0]; rfl, by rw [cell_of_row _ _ 0 _ _ _ h1]; rfl, by rw [cell_of_row _ _ 1 _ _ _ h1]; rfl, by simp⟩
theorem PF.next {w X Y : World} {p0 p1 : Value} {n a : Int} (h : PF w p0 p1 n a X) (hb : Below X.heap.size X Y) : PF w p0 p1 n a Y :=
  ⟨h.bl.trans (hb.mono h.bl.size), (hb.cell (by have := h.lt; show w.heap.size < X.heap.size; omega)).trans h.c0, (hb.cell (by have := h.lt; show w.heap.size < X.heap.size; omega)).trans h.c1, (hb.cell h.lt).trans h.i0, (hb.cell h.lt).trans h.i1, Nat.lt_of_lt_of_le h.lt hb.size⟩
theorem PF.nextD {w X Y : World} {p0 p1 : Value} {n a : Int} (h : PF w p0 p1 n a X) (hb : Below X.drew.heap.size X.drew Y) : PF w p0 p1 n a Y :=
  (h.next (below_drew (Below.refl _ _))).next hb
theorem ne0 {k : Nat} (h : k ≠ 0) : ((k : Int) == 0) = false := by simp; omega
set_option maxRecDepth 100000 in
set_option maxHeartbeats 4000000 in
theorem refInstr_calls (A0 A1 : Option Addr) (n0 c0 c1 : Nat) (nms : List ByteArray) (n : Nat) (a : Int) (w : World) (hn : n < 67) (h0 : -9223372036854775808 ≤ a) (h1 : a ≤ 9223372036854775807) (hN : NmC w A1 nms) (hs : ∀ t, t ∈ nms → t.size ≤ 1048576) (hm : nms.length ≤ 1048576) :
    Calls Tryd.prog 4 #[.agg #[.slice A0 n0 c0, .slice A1 nms.length c1], .agg #[.int .i64 (n : Int), .int .i64 a]] w fun e w' => e = .returned (.tuple #[.string (lineOf nms n a).1, .bool (lineOf nms n a).2]) ∧ Below w.heap.size w w' := by
  have HN := Aside0.mk (And.intro hN hs)
  have hck := check_f n hn a
  have hnm := name_f n hn
  have hop := operand_f n hn
  have hint := refInt_is a h0 h1
  have hlab := label_f a h0 h1
  have hsz := nm_size n hn
  have hil := itoa_len a h0 h1
  unfold lineOf
  obtain ⟨kd, hkd⟩ : ∃ kd, kd = (opRow n).2.1 := ⟨_, rfl⟩
  obtain ⟨nm, hnmd⟩ : ∃ nm : ByteArray, nm = ⟨(opRow n).1.toArray⟩ := ⟨_, rfl⟩
  rw [← hkd] at hck hop ⊢
  rw [← hnmd] at hnm hsz ⊢
  have HH := Aside0.mk (And.intro hck (And.intro hnm (And.intro hop (And.intro hint hlab))))
  have P0 := Aside0.mk (PF.start w (.slice A0 n0 c0) (.slice A1 nms.length c1) (n : Int) a)
  clear hN hs hck hnm hop hint hlab hkd hnmd
  have q1 : (9223372036854775807 < nm.size + 1) = False := eq_false (by omega)
  by_cases hok : okA kd a = true
  · have hck := HH.out.1
    rw [if_pos hok] at hck
    rw [if_pos hok]
    have HK := Aside0.mk (And.intro hck hok)
    clear hck hok
    by_cases k0 : kd = 0
    · subst k0
      rw [if_pos rfl]
      go_enter Tryd.func4, Tryd.ntmps4
      go_wp2_with fail
      (with_reducible refine (portageref07_Check.calls 8 (n : Int) a _ _ HK.out.1).mono ?_)
      rintro e w1 ⟨rfl, hb⟩
      have P1 := Aside0.mk (by first | exact P0.out.next hb | exact P0.out.nextD hb)
      have f1 := P1.out.c1
      have g1 := P1.out.i0
      have j1 := P1.out.i1
      clear hb
      go_wp2_with fail
      (with_reducible refine (portageref07_Name.calls 330 (n : Int) _ _ _ HH.out.2.1).mono ?_)
      rintro e w2 ⟨rfl, hd⟩
      have P2 := Aside0.mk (by first | exact P1.out.next hd.below | exact P1.out.nextD hd.below)
      have f2 := P2.out.c1
      have g2 := P2.out.i0
      have j2 := P2.out.i1
      clear hd
      go_wp2_with fail
      (with_reducible refine (portageref07_Operand.calls 8 (n : Int) _ _ _ HH.out.2.2.1).mono ?_)
      rintro e w3 ⟨rfl, hd⟩
      have P3 := Aside0.mk (by first | exact P2.out.next hd.below | exact P2.out.nextD hd.below)
      have f3 := P3.out.c1
      have g3 := P3.out.i0
      have j3 := P3.out.i1
      clear hd
      go_wp2_with fail
      go_ret2
      exact ⟨rfl, by first | exact P3.out.bl | exact below_drew P3.out.bl | exact pw_below_drewN P3.out.bl _⟩
    · have k0b := ne0 k0
      rw [if_neg k0]
      by_cases k2 : kd = 2
      · subst k2
        rw [if_pos rfl]
        have q2 : (9223372036854775807 < nm.size + 1 + (ofL (76 :: Lib.itoa a)).size) = False := eq_false (by rw [ofL_size]; simp only [List.length_cons]; omega)
        go_enter Tryd.func4, Tryd.ntmps4
        go_wp2_with fail
        (with_reducible refine (portageref07_Check.calls 8 (n : Int) a _ _ HK.out.1).mono ?_)
        rintro e w1 ⟨rfl, hb⟩
        have P1 := Aside0.mk (by first | exact P0.out.next hb | exact P0.out.nextD hb)
        have f1 := P1.out.c1
        have g1 := P1.out.i0
        have j1 := P1.out.i1
        clear hb
        go_wp2_with fail
        (with_reducible refine (portageref07_Name.calls 330 (n : Int) _ _ _ HH.out.2.1).mono ?_)
        rintro e w2 ⟨rfl, hd⟩
        have P2 := Aside0.mk (by first | exact P1.out.next hd.below | exact P1.out.nextD hd.below)
        have f2 := P2.out.c1
        have g2 := P2.out.i0
        have j2 := P2.out.i1
        clear hd
        go_wp2_with fail
        (with_reducible refine (portageref07_Operand.calls 8 (n : Int) _ _ _ HH.out.2.2.1).mono ?_)
        rintro e w3 ⟨rfl, hd⟩
        have P3 := Aside0.mk (by first | exact P2.out.next hd.below | exact P2.out.nextD hd.below)
        have f3 := P3.out.c1
        have g3 := P3.out.i0
        have j3 := P3.out.i1
        clear hd
        go_wp2_with fail
        (with_reducible refine (portageref12_label.calls 21 a _ _ HH.out.2.2.2.2).mono ?_)
        rintro e w4 ⟨rfl, hb⟩
        have P4 := Aside0.mk (by first | exact P3.out.next hb | exact P3.out.nextD hb)
        clear hb
        go_wp2_with fail
        go_ret2
        exact ⟨rfl, by first | exact P4.out.bl | exact below_drew P4.out.bl | exact pw_below_drewN P4.out.bl _⟩
      · have k2b : ((kd : Int) == 2) = false := by simp; omega
        rw [if_neg k2]
        by_cases k5 : kd = 5
        · subst k5
          rw [if_pos rfl]
          have hr := okA5 HK.out.2
          have hr0 := hr.1
          by_cases hge : nms.length ≤ a.toNat
          · rw [if_pos hge]
            have hg2 : (nms.length : Int) ≤ a := by omega
            go_enter Tryd.func4, Tryd.ntmps4
            go_wp2_with fail
            (with_reducible refine (portageref07_Check.calls 8 (n : Int) a _ _ HK.out.1).mono ?_)
            rintro e w1 ⟨rfl, hb⟩
            have P1 := Aside0.mk (by first | exact P0.out.next hb | exact P0.out.nextD hb)
            have f1 := P1.out.c1
            have g1 := P1.out.i0
            have j1 := P1.out.i1
            clear hb
            go_wp2_with fail
            (with_reducible refine (portageref07_Name.calls 330 (n : Int) _ _ _ HH.out.2.1).mono ?_)
            rintro e w2 ⟨rfl, hd⟩
            have P2 := Aside0.mk (by first | exact P1.out.next hd.below | exact P1.out.nextD hd.below)
            have f2 := P2.out.c1
            have g2 := P2.out.i0
            have j2 := P2.out.i1
            clear hd
            go_wp2_with fail
            (with_reducible refine (portageref07_Operand.calls 8 (n : Int) _ _ _ HH.out.2.2.1).mono ?_)
            rintro e w3 ⟨rfl, hd⟩
            have P3 := Aside0.mk (by first | exact P2.out.next hd.below | exact P2.out.nextD hd.below)
            have f3 := P3.out.c1
            have g3 := P3.out.i0
            have j3 := P3.out.i1
            clear hd
            go_wp2_with fail
            go_ret2
            exact ⟨rfl, by first | exact P3.out.bl | exact below_drew P3.out.bl | exact pw_below_drewN P3.out.bl _⟩
          · rw [if_neg hge]
            have hg2 : ¬ (nms.length : Int) ≤ a := by omega
            have hg3 : a < (nms.length : Int) := by omega
            obtain ⟨t, ht⟩ : ∃ t, nms[a.toNat]? = some t := ⟨_, List.getElem?_eq_getElem (by omega)⟩
            have htd : nms.getD a.toNat ⟨#[]⟩ = t := by rw [List.getD_eq_getElem?_getD, ht]; rfl
            have hts := HN.out.2 t (List.mem_of_getElem? ht)
            have q2 : (9223372036854775807 < nm.size + 1 + t.size) = False := eq_false (by omega)
            obtain ⟨ad, rfl, hcell⟩ := HN.out.1 _ _ ht
            have HT := Aside0.mk ht
            rw [htd]
            clear ht htd hts
            go_enter Tryd.func4, Tryd.ntmps4
            go_wp2_with fail
            (with_reducible refine (portageref07_Check.calls 8 (n : Int) a _ _ HK.out.1).mono ?_)
            rintro e w1 ⟨rfl, hb⟩
            have P1 := Aside0.mk (by first | exact P0.out.next hb | exact P0.out.nextD hb)
            have f1 := P1.out.c1
            have g1 := P1.out.i0
            have j1 := P1.out.i1
            clear hb
            go_wp2_with fail
            (with_reducible refine (portageref07_Name.calls 330 (n : Int) _ _ _ HH.out.2.1).mono ?_)
            rintro e w2 ⟨rfl, hd⟩
            have P2 := Aside0.mk (by first | exact P1.out.next hd.below | exact P1.out.nextD hd.below)
            have f2 := P2.out.c1
            have g2 := P2.out.i0
            have j2 := P2.out.i1
            clear hd
            go_wp2_with fail
            (with_reducible refine (portageref07_Operand.calls 8 (n : Int) _ _ _ HH.out.2.2.1).mono ?_)
            rintro e w3 ⟨rfl, hd⟩
            have P3 := Aside0.mk (by first | exact P2.out.next hd.below | exact P2.out.nextD hd.below)
            have f3 := P3.out.c1
            have g3 := P3.out.i0
            have j3 := P3.out.i1
            clear hd
            have hc3 := (P3.out.bl.cell (World.block_lt_of_cell? w _ hcell)).trans hcell
            go_wp2_with fail
            all_goals
              go_wp2_with fail
              go_ret2
              exact ⟨rfl, by first | exact P3.out.bl | exact below_drew P3.out.bl | exact pw_below_drewN P3.out.bl _⟩
        · have k5b : ((kd : Int) == 5) = false := by simp; omega
          rw [if_neg k5]
          have q2 : (9223372036854775807 < nm.size + 1 + (ofL (Lib.itoa a)).size) = False := eq_false (by rw [ofL_size]; omega)
          go_enter Tryd.func4, Tryd.ntmps4
          go_wp2_with fail
          (with_reducible refine (portageref07_Check.calls 8 (n : Int) a _ _ HK.out.1).mono ?_)
          rintro e w1 ⟨rfl, hb⟩
          have P1 := Aside0.mk (by first | exact P0.out.next hb | exact P0.out.nextD hb)
          have f1 := P1.out.c1
          have g1 := P1.out.i0
          have j1 := P1.out.i1
          clear hb
          go_wp2_with fail
          (with_reducible refine (portageref07_Name.calls 330 (n : Int) _ _ _ HH.out.2.1).mono ?_)
          rintro e w2 ⟨rfl, hd⟩
          have P2 := Aside0.mk (by first | exact P1.out.next hd.below | exact P1.out.nextD hd.below)
          have f2 := P2.out.c1
          have g2 := P2.out.i0
          have j2 := P2.out.i1
          clear hd
          go_wp2_with fail
          (with_reducible refine (portageref07_Operand.calls 8 (n : Int) _ _ _ HH.out.2.2.1).mono ?_)
          rintro e w3 ⟨rfl, hd⟩
          have P3 := Aside0.mk (by first | exact P2.out.next hd.below | exact P2.out.nextD hd.below)
          have f3 := P3.out.c1
          have g3 := P3.out.i0
          have j3 := P3.out.i1
          clear hd
          go_wp2_with fail
          (with_reducible refine (portageref04_Int.calls 21 a _ _ HH.out.2.2.2.1).mono ?_)
          rintro e w4 ⟨rfl, hb⟩
          have P4 := Aside0.mk (by first | exact P3.out.next hb | exact P3.out.nextD hb)
          clear hb
          go_wp2_with fail
          go_ret2
          exact ⟨rfl, by first | exact P4.out.bl | exact below_drew P4.out.bl | exact pw_below_drewN P4.out.bl _⟩
  · have hck := HH.out.1
    rw [if_neg hok] at hck
    rw [if_neg hok]
    have HK := Aside0.mk (And.intro hck hok)
    clear hck hok
    go_enter Tryd.func4, Tryd.ntmps4
    go_wp2_with fail
    (with_reducible refine (portageref07_Check.calls 8 (n : Int) a _ _ HK.out.1).mono ?_)
    rintro e w1 ⟨rfl, hb⟩
    have P1 := Aside0.mk (by first | exact P0.out.next hb | exact P0.out.nextD hb)
    have f1 := P1.out.c1
    have g1 := P1.out.i0
    have j1 := P1.out.i1
    clear hb
    go_wp2_with fail
    go_ret2
    exact ⟨rfl, by first | exact P1.out.bl | exact below_drew P1.out.bl | exact pw_below_drewN P1.out.bl _⟩
end Go.Proofs.YtpallcggmaheoaaDoor
