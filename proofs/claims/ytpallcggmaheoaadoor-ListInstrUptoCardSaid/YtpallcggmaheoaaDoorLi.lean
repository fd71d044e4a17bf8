/-
  One instruction's line, by the listing. (Printed by wip/tools/lst_in.py.)
-/
import Derived.Test.YtpallcggmaheoaaDoorCh
import Derived.Lib.SmallJoins
namespace Go.Proofs.YtpallcggmaheoaaDoor
open Go.RowKit Go.Proofs.YtpallcggmaheoaaDoorW.PrintWords Go.Proofs.YtpallcggmaheoaaDoorW.PrintMore
open PListInstr
set_option linter.unusedVariables false

theorem tab_below {w X : World} (h : Lib.TabIs Tryd.prog w "internal/strconv.uint64pow10" .u64 Lib.pow10Tab) (hb : Below w.heap.size w X) : Lib.TabIs Tryd.prog X "internal/strconv.uint64pow10" .u64 Lib.pow10Tab :=
  Joins.var_stays gPow h hb (Nat.le_refl _)
set_option maxRecDepth 100000 in
set_option maxHeartbeats 4000000 in
theorem listInstr_calls (A0 A1 : Option Addr) (n0 c0 c1 : Nat) (nms : List ByteArray) (n : Nat) (a : Int) (w : World) (htab : Lib.TabIs Tryd.prog w "internal/strconv.uint64pow10" .u64 Lib.pow10Tab) (hn : n < 67) (h0 : -9223372036854775808 ≤ a) (h1 : a ≤ 9223372036854775807) (hN : NmC w A1 nms) (hs : ∀ t, t ∈ nms → t.size ≤ 1048576) (hm : nms.length ≤ 1048576) :
    Calls Tryd.prog 6 #[.agg #[.slice A0 n0 c0, .slice A1 nms.length c1], .agg #[.int .i64 (n : Int), .int .i64 a]] w fun e w' => e = .returned (.tuple #[.string (lineOf nms n a).1, .bool (lineOf nms n a).2]) ∧ Below w.heap.size w w' := by
  have HN := Aside0.mk (And.intro hN hs)
  have hck := fun X => check_code n a hn X
  have hnm := fun X => name_code n hn X
  have hop := fun X => operand_code n hn X
  have hint := fun X (h : Lib.TabIs Tryd.prog X "internal/strconv.uint64pow10" .u64 Lib.pow10Tab) => int_calls a h0 h1 X h
  have hlab := fun X (h : Lib.TabIs Tryd.prog X "internal/strconv.uint64pow10" .u64 Lib.pow10Tab) => label_code a h0 h1 X h
  have HT0 := Aside0.mk htab
  clear htab
  have hsz := nm_size n hn
  have hil := itoa_len a h0 h1
  unfold lineOf
  obtain ⟨kd, hkd⟩ : ∃ kd, kd = (opRow n).2.1 := ⟨_, rfl⟩
  obtain ⟨nm, hnmd⟩ : ∃ nm : ByteArray, nm = ⟨(opRow n).1.toArray⟩ := ⟨_, rfl⟩
  rw [← hkd] at hck hop ⊢
  rw [← hnmd] at hnm hsz ⊢
  have HH := Aside0.mk (And.intro hck (And.intro hnm (And.intro hop (And.intro hint hlab))))
  have P0 := Aside0.mk (PF.start w (.slice A0 n0 c0) (.slice A1 nms.length c1) (n : Int) a)
  clear hN hs hck hnm hop hint hlab hkd hnmd
  have q1 : (9223372036854775807 < nm.size + 1) = False := eq_false (by omega)
  by_cases hok : okA kd a = true
  · have hck := HH.out.1
    rw [if_pos hok] at hck
    rw [if_pos hok]
    have HK := Aside0.mk (And.intro hck hok)
    clear hck hok
    by_cases k0 : kd = 0
    · subst k0
      rw [if_pos rfl]
      go_enter Tryd.func6, Tryd.ntmps6
      go_wp2_with fail
      (with_reducible refine (HK.out.1 _).mono ?_)
      rintro e w1 ⟨rfl, hb⟩
      have P1 := Aside0.mk (by first | exact P0.out.next hb | exact P0.out.nextD hb)
      have f1 := P1.out.c1
      have g1 := P1.out.i0
      have j1 := P1.out.i1
      clear hb
      go_wp2_with fail
      (with_reducible refine (HH.out.2.1 _).mono ?_)
      rintro e w2 ⟨rfl, hb⟩
      have P2 := Aside0.mk (by first | exact P1.out.next hb | exact P1.out.nextD hb)
      have f2 := P2.out.c1
      have g2 := P2.out.i0
      have j2 := P2.out.i1
      clear hb
      go_wp2_with fail
      (with_reducible refine (HH.out.2.2.1 _).mono ?_)
      rintro e w3 ⟨rfl, hb⟩
      have P3 := Aside0.mk (by first | exact P2.out.next hb | exact P2.out.nextD hb)
      have f3 := P3.out.c1
      have g3 := P3.out.i0
      have j3 := P3.out.i1
      clear hb
      go_wp2_with fail
      go_ret2
      exact ⟨rfl, by first | exact P3.out.bl | exact below_drew P3.out.bl | exact pw_below_drewN P3.out.bl _⟩
    · have k0b := ne0 k0
      rw [if_neg k0]
      by_cases k2 : kd = 2
      · subst k2
        rw [if_pos rfl]
        have q2 : (9223372036854775807 < nm.size + 1 + (ofL (76 :: Lib.itoa a)).size) = False := eq_false (by rw [ofL_size]; simp only [List.length_cons]; omega)
        go_enter Tryd.func6, Tryd.ntmps6
        go_wp2_with fail
        (with_reducible refine (HK.out.1 _).mono ?_)
        rintro e w1 ⟨rfl, hb⟩
        have P1 := Aside0.mk (by first | exact P0.out.next hb | exact P0.out.nextD hb)
        have f1 := P1.out.c1
        have g1 := P1.out.i0
        have j1 := P1.out.i1
        clear hb
        go_wp2_with fail
        (with_reducible refine (HH.out.2.1 _).mono ?_)
        rintro e w2 ⟨rfl, hb⟩
        have P2 := Aside0.mk (by first | exact P1.out.next hb | exact P1.out.nextD hb)
        have f2 := P2.out.c1
        have g2 := P2.out.i0
        have j2 := P2.out.i1
        clear hb
        go_wp2_with fail
        (with_reducible refine (HH.out.2.2.1 _).mono ?_)
        rintro e w3 ⟨rfl, hb⟩
        have P3 := Aside0.mk (by first | exact P2.out.next hb | exact P2.out.nextD hb)
        have f3 := P3.out.c1
        have g3 := P3.out.i0
        have j3 := P3.out.i1
        clear hb
        go_wp2_with fail
        (with_reducible refine (HH.out.2.2.2.2 _ (by first | exact tab_below HT0.out P3.out.bl | exact tab_below HT0.out (below_drew P3.out.bl))).mono ?_)
        rintro e w4 ⟨rfl, hb⟩
        have P4 := Aside0.mk (by first | exact P3.out.next hb | exact P3.out.nextD hb)
        clear hb
        go_wp2_with fail
        go_ret2
        exact ⟨rfl, by first | exact P4.out.bl | exact below_drew P4.out.bl | exact pw_below_drewN P4.out.bl _⟩
      · have k2b : ((kd : Int) == 2) = false := by simp; omega
        rw [if_neg k2]
        by_cases k5 : kd = 5
        · subst k5
          rw [if_pos rfl]
          have hr := okA5 HK.out.2
          have hr0 := hr.1
          by_cases hge : nms.length ≤ a.toNat
          · rw [if_pos hge]
            have hg2 : (nms.length : Int) ≤ a := by omega
            go_enter Tryd.func6, Tryd.ntmps6
            go_wp2_with fail
            (with_reducible refine (HK.out.1 _).mono ?_)
            rintro e w1 ⟨rfl, hb⟩
            have P1 := Aside0.mk (by first | exact P0.out.next hb | exact P0.out.nextD hb)
            have f1 := P1.out.c1
            have g1 := P1.out.i0
            have j1 := P1.out.i1
            clear hb
            go_wp2_with fail
            (with_reducible refine (HH.out.2.1 _).mono ?_)
            rintro e w2 ⟨rfl, hb⟩
            have P2 := Aside0.mk (by first | exact P1.out.next hb | exact P1.out.nextD hb)
            have f2 := P2.out.c1
            have g2 := P2.out.i0
            have j2 := P2.out.i1
            clear hb
            go_wp2_with fail
            (with_reducible refine (HH.out.2.2.1 _).mono ?_)
            rintro e w3 ⟨rfl, hb⟩
            have P3 := Aside0.mk (by first | exact P2.out.next hb | exact P2.out.nextD hb)
            have f3 := P3.out.c1
            have g3 := P3.out.i0
            have j3 := P3.out.i1
            clear hb
            go_wp2_with fail
            go_ret2
            exact ⟨rfl, by first | exact P3.out.bl | exact below_drew P3.out.bl | exact pw_below_drewN P3.out.bl _⟩
          · rw [if_neg hge]
            have hg2 : ¬ (nms.length : Int) ≤ a := by omega
            have hg3 : a < (nms.length : Int) := by omega
            obtain ⟨t, ht⟩ : ∃ t, nms[a.toNat]? = some t := ⟨_, List.getElem?_eq_getElem (by omega)⟩
            have htd : nms.getD a.toNat ⟨#[]⟩ = t := by rw [List.getD_eq_getElem?_getD, ht]; rfl
            have hts := HN.out.2 t (List.mem_of_getElem? ht)
            have q2 : (9223372036854775807 < nm.size + 1 + t.size) = False := eq_false (by omega)
            obtain ⟨ad, rfl, hcell⟩ := HN.out.1 _ _ ht
            have HT := Aside0.mk ht
            rw [htd]
            clear ht htd hts
            go_enter Tryd.func6, Tryd.ntmps6
            go_wp2_with fail
            (with_reducible refine (HK.out.1 _).mono ?_)
            rintro e w1 ⟨rfl, hb⟩
            have P1 := Aside0.mk (by first | exact P0.out.next hb | exact P0.out.nextD hb)
            have f1 := P1.out.c1
            have g1 := P1.out.i0
            have j1 := P1.out.i1
            clear hb
            go_wp2_with fail
            (with_reducible refine (HH.out.2.1 _).mono ?_)
            rintro e w2 ⟨rfl, hb⟩
            have P2 := Aside0.mk (by first | exact P1.out.next hb | exact P1.out.nextD hb)
            have f2 := P2.out.c1
            have g2 := P2.out.i0
            have j2 := P2.out.i1
            clear hb
            go_wp2_with fail
            (with_reducible refine (HH.out.2.2.1 _).mono ?_)
            rintro e w3 ⟨rfl, hb⟩
            have P3 := Aside0.mk (by first | exact P2.out.next hb | exact P2.out.nextD hb)
            have f3 := P3.out.c1
            have g3 := P3.out.i0
            have j3 := P3.out.i1
            clear hb
            have hc3 := (P3.out.bl.cell (World.block_lt_of_cell? w _ hcell)).trans hcell
            go_wp2_with fail
            all_goals
              go_wp2_with fail
              go_ret2
              exact ⟨rfl, by first | exact P3.out.bl | exact below_drew P3.out.bl | exact pw_below_drewN P3.out.bl _⟩
        · have k5b : ((kd : Int) == 5) = false := by simp; omega
          rw [if_neg k5]
          have q2 : (9223372036854775807 < nm.size + 1 + (ofL (Lib.itoa a)).size) = False := eq_false (by rw [ofL_size]; omega)
          go_enter Tryd.func6, Tryd.ntmps6
          go_wp2_with fail
          (with_reducible refine (HK.out.1 _).mono ?_)
          rintro e w1 ⟨rfl, hb⟩
          have P1 := Aside0.mk (by first | exact P0.out.next hb | exact P0.out.nextD hb)
          have f1 := P1.out.c1
          have g1 := P1.out.i0
          have j1 := P1.out.i1
          clear hb
          go_wp2_with fail
          (with_reducible refine (HH.out.2.1 _).mono ?_)
          rintro e w2 ⟨rfl, hb⟩
          have P2 := Aside0.mk (by first | exact P1.out.next hb | exact P1.out.nextD hb)
          have f2 := P2.out.c1
          have g2 := P2.out.i0
          have j2 := P2.out.i1
          clear hb
          go_wp2_with fail
          (with_reducible refine (HH.out.2.2.1 _).mono ?_)
          rintro e w3 ⟨rfl, hb⟩
          have P3 := Aside0.mk (by first | exact P2.out.next hb | exact P2.out.nextD hb)
          have f3 := P3.out.c1
          have g3 := P3.out.i0
          have j3 := P3.out.i1
          clear hb
          go_wp2_with fail
          (with_reducible refine (HH.out.2.2.2.1 _ (by first | exact tab_below HT0.out P3.out.bl | exact tab_below HT0.out (below_drew P3.out.bl))).mono ?_)
          rintro e w4 ⟨rfl, hb⟩
          have P4 := Aside0.mk (by first | exact P3.out.next hb | exact P3.out.nextD hb)
          clear hb
          go_wp2_with fail
          go_ret2
          exact ⟨rfl, by first | exact P4.out.bl | exact below_drew P4.out.bl | exact pw_below_drewN P4.out.bl _⟩
  · have hck := HH.out.1
    rw [if_neg hok] at hck
    rw [if_neg hok]
    have HK := Aside0.mk (And.intro hck hok)
    clear hck hok
    go_enter Tryd.func6, Tryd.ntmps6
    go_wp2_with fail
    (with_reducible refine (HK.out.1 _).mono ?_)
    rintro e w1 ⟨rfl, hb⟩
    have P1 := Aside0.mk (by first | exact P0.out.next hb | exact P0.out.nextD hb)
    have f1 := P1.out.c1
    have g1 := P1.out.i0
    have j1 := P1.out.i1
    clear hb
    go_wp2_with fail
    go_ret2
    exact ⟨rfl, by first | exact P1.out.bl | exact below_drew P1.out.bl | exact pw_below_drewN P1.out.bl _⟩
end Go.Proofs.YtpallcggmaheoaaDoor
