/-
  The walk of InternKinds, out of its callees' contracts.
-/
import Derived.Test.YtijmhegccakndaaKtT
namespace Go.Proofs.Ytijmhegccakndaa
open Go.RowKit Go.Maps Go.WideMaps
open Go.Proofs.YtijmhegccakndaaW.PrintWords Go.Proofs.YtijmhegccakndaaW.PrintMore

theorem cell_lt {w : World} {a : Addr} {v : Value} (h : w.cell? a = some v) : a.block < w.heap.size := by
  unfold World.cell? at h
  cases e : w.heap[a.block]? with
  | none => rw [e] at h; simp at h
  | some o => exact (Array.getElem?_eq_some_iff.1 e).1
theorem length_small : ∀ (m : Nat) (row : List Nat), row.Nodup → (∀ x, x ∈ row → x < m) → row.length ≤ m := by
  intro m
  induction m with
  | zero => intro row _ h; cases row with
    | nil => simp
    | cons a r => exact absurd (h a (by simp)) (by omega)
  | succ m ih =>
    intro row hn h
    by_cases hm : m ∈ row
    · have := ih (row.erase m) (hn.erase m) (fun x hx => by
        have h1 := (List.Nodup.mem_erase_iff hn).1 hx
        have := h x h1.2
        omega)
      rw [List.length_erase_of_mem hm] at this
      omega
    · have := ih row hn (fun x hx => by
        have := h x hx
        have : x ≠ m := fun e => hm (e ▸ hx)
        omega)
      omega
theorem Four.len_b_le {w : World} {B : Nat} {F : Nat → Prop} {a b c d : Nat} {ra rb rc rd : List Nat} (h : Four w B F a b c d ra rb rc rd) : rb.length ≤ 9223372036854775807 := by
  obtain ⟨Sa, Sb, Sc, Sd, h1, ⟨bm, v, D, hI, _⟩, h3, h4, _⟩ := h
  have := length_small 4 rb hI.agree.apart hI.agree.small
  omega
theorem wrap8_of {a : Int} (h0 : -128 ≤ a) (h1 : a < 128) : IntKind.i8.wrap a = a := by
  exact IntWalk.i8_in _ (by omega)
set_option maxRecDepth 100000 in
set_option maxHeartbeats 1000000 in
theorem kinds_walk (A : Option Addr) (c : Nat) (l : List Int) (w : World) (HR : (Kd.int .i64).C w A l.length l) (hn : l.length * 8 ≤ 140737488351232) :
    Calls Try.prog 7 #[.slice A l.length c] w fun e w' => e = .returned (.bool true) ∧ Below w.heap.size w w' := by
  have HR0 := Aside0.mk HR
  have hm : l.length ≤ 17592186043904 := by omega
  clear HR hn
  go_enter Try.func7, Try.ntmps7
  go_wp2_with fail
  refine (newN_S w).mono ?_
  rintro e w1 ⟨a, rfl, ha, ba⟩
  have HA1 := Aside0.mk ha
  have HB1 := Aside0.mk ba
  clear ha ba
  go_wp2_with fail
  refine (newN_P w1).mono ?_
  rintro e w2 ⟨b, rfl, hb, bb⟩
  have HA2 := Aside0.mk hb
  have HB2 := Aside0.mk bb
  clear hb bb
  go_wp2_with fail
  refine (newN_B w2).mono ?_
  rintro e w3 ⟨c3, rfl, hb, bb⟩
  have HA3 := Aside0.mk hb
  have HB3 := Aside0.mk bb
  clear hb bb
  go_wp2_with fail
  refine (newN_A w3).mono ?_
  rintro e w4 ⟨d, rfl, hb, bb⟩
  have HF4 := Aside0.mk (Four.start HA1.out HB1.out HA2.out HB2.out HA3.out HB3.out hb bb)
  clear hb bb HA1 HA2 HA3 HB1 HB2 HB3
  go_wp2_with fail
  refine (lives_any w4).mono ?_
  rintro e w5 ⟨rfl, hb5⟩
  have HF5 := Aside0.mk (HF4.out.1.below hb5)
  have HB5 := Aside0.mk (show Below w.heap.size w w5 from HF4.out.2.trans (hb5.mono HF4.out.2.size))
  clear hb5 HF4
  go_wp2_with fail
  go_loopw [7] (fun i wr => ∃ k : Nat, i = .int .i64 (k : Int) ∧ k ≤ l.length ∧ ∃ row : List Nat, Aside0 (∀ x, x ∈ row → x < 4) ∧ Aside0 (Four wr w.heap.size (fun _ => False) a b c3 d row row row row) ∧ Aside0 (Below w.heap.size w wr)) (fun i _ => l.length - (intOf i).toNat)
  case atStart => exact ⟨0, rfl, Nat.zero_le _, [], ⟨fun x h => by simp at h⟩, HF5, HB5⟩
  case round =>
    obtain ⟨k, rfl, hk, row, HS, HF, HB⟩ := hrel
    by_cases hlt : k < l.length
    · have HRr := Aside0.mk (Kd.C_below HR0.out HB.out)
      obtain ⟨ad, e, hx0⟩ := Kd.at_int HRr.out (k : Int) (by omega) (by omega)
      subst e
      obtain ⟨x, hx⟩ : ∃ x, x = rd l (k : Int) := ⟨_, rfl⟩
      rw [← hx] at hx0
      clear hx
      have hxu : wr.cell? (ad.add k) = some (.int .i64 x) := by simpa using hx0
      clear hx0
      have hl2 : (k : Int) < (l.length : Int) := by omega
      obtain ⟨t, ht, ht4⟩ : ∃ t : Nat, x % 4 = (t : Int) ∧ t < 4 := ⟨(x % 4).toNat, by omega, by omega⟩
      have HT := Aside0.mk ht
      clear ht
      go_wp2_with fail
      refine (pick4 x wr).mono ?_
      rintro e w6 ⟨he, rfl⟩
      rw [HT.out] at he
      subst he
      go_wp2_with fail
      refine (number_calls t ht4 wr).mono ?_
      rintro e w6 ⟨rfl, hb6⟩
      have HF6 := Aside0.mk (HF.out.below hb6)
      have HB6 := Aside0.mk (show Below w.heap.size w w6 from HB.out.trans (hb6.mono HB.out.size))
      have HB6w := Aside0.mk hb6
      clear hb6
      obtain ⟨a0, h0⟩ : ∃ a : Int, a = ((t / 2 : Nat) : Int) := ⟨_, rfl⟩
      obtain ⟨a1, h1⟩ : ∃ a : Int, a = ((t % 2 : Nat) : Int) := ⟨_, rfl⟩
      obtain ⟨c0, h2⟩ : ∃ a : Bool, a = decide (t / 2 = 1) := ⟨_, rfl⟩
      obtain ⟨c1, h3⟩ : ∃ a : Bool, a = decide (t % 2 = 1) := ⟨_, rfl⟩
      obtain ⟨tt, h4⟩ : ∃ a : Int, a = (t : Int) := ⟨_, rfl⟩
      obtain ⟨text, h5⟩ : ∃ a, a = tx t := ⟨_, rfl⟩
      have hq : Int.tdiv tt 2 = a0 := by rw [h4, h0, Int.tdiv_eq_ediv_of_nonneg (by omega)]; omega
      have hr : Int.tmod tt 2 = a1 := by rw [h4, h1, Int.tmod_eq_emod_of_nonneg (by omega)]; omega
      have hc0 : (a0 == 1) = c0 := by rw [h0, h2]; by_cases h : t / 2 = 1 <;> simp [h] <;> omega
      have hc1 : (a1 == 1) = c1 := by rw [h1, h3]; by_cases h : t % 2 = 1 <;> simp [h] <;> omega
      have hw8 : IntKind.i8.wrap (tt - 2) = tt - 2 := wrap8_of (by omega) (by omega)
      have hw64 : wrap64 a0 = a0 := by unfold wrap64; omega
      have HP := Aside0.mk (show KTp.val t = .agg #[.int .i64 a0, .int .i64 a1] by rw [h0, h1]; rfl)
      have HQ := Aside0.mk (show KTa.val t = .agg #[.bool c0, .bool c1] by rw [h2, h3]; rfl)
      have HB1 := Aside0.mk (show KTb.val t = .int .i8 (tt - 2) by rw [h4]; rfl)
      have HS1 := Aside0.mk (show KTs.val t = .string text by rw [h5]; rfl)
      have H4 := Aside0.mk h4
      rw [← h4, ← h5]
      have ht0 : 0 ≤ tt := by omega
      have ht5 : tt < 4 := by omega
      have hlt6 : (ad.add k).block < w6.heap.size := Nat.lt_of_lt_of_le (cell_lt hxu) HB6w.out.size
      clear h0 h1 h2 h3 h4 h5
      go_upto_region 14 with (fail)
      obtain ⟨W, hW⟩ : ∃ W, W = (w6.alloc (.cells #[.int .i64 a0, .int .i64 a1] 44)).alloc (.cells #[.bool c0, .bool c1] 50) := ⟨_, rfl⟩
      rw [← hW]
      have HBW := Aside0.mk (show Below w6.heap.size w6 W by rw [hW]; exact ((Below.refl _ _).alloc (Nat.le_refl _) _).alloc (by simp) _)
      have hp := show W.heap[w6.heap.size]? = some (.cells #[.int .i64 a0, .int .i64 a1] 44 (0, 0)) by rw [hW]; exact (Below.heap_alloc _ _ _ (by simp)).trans (heap_alloc_new w6 _)
      have hq1 := show W.heap[w6.heap.size + 1]? = some (.cells #[.bool c0, .bool c1] 50 (0, 0)) by rw [hW]; have := heap_alloc_new (w6.alloc (.cells #[.int .i64 a0, .int .i64 a1] 44)) (.cells #[.bool c0, .bool c1] 50); rw [show (w6.alloc (.cells #[.int .i64 a0, .int .i64 a1] 44)).heap.size = w6.heap.size + 1 by simp] at this; exact this
      have HSZ := Aside0.mk (show w6.heap.size + 2 = W.heap.size by rw [hW]; simp)
      have HPB := Aside0.mk hp
      have HQB := Aside0.mk hq1
      have hxw : W.cell? (ad.add k) = some (.int .i64 x) := (World.cell?_of_block (HBW.out.block _ hlt6)).trans ((World.cell?_of_block (HB6w.out.block _ (cell_lt hxu))).trans hxu)
      have HFW := Four.apart (F' := fun j => j = w6.heap.size ∨ j = w6.heap.size + 1 ∨ False) HF6.out HBW.out (fun j hj => by rcases hj with e | e | e <;> first | omega | exact e.elim)
      have HBB := show Below w.heap.size w W from HB6.out.trans (HBW.out.mono HB6.out.size)
      obtain ⟨P, hP⟩ : ∃ P, P = w6.heap.size := ⟨_, rfl⟩
      rw [← hP] at hp hq1 HFW HSZ ⊢
      have HX := Aside0.mk (show St w W P (.int .i64 a0) (.int .i64 a1) (.bool c0) (.bool c1) (fun _ => False) a b c3 d row row row row from ⟨HFW, HBB, hp, hq1, fun j hj => by have := HSZ.out; rcases hj with e | e | e <;> first | omega | exact e.elim⟩)
      clear hp hq1 hW hxu hP hq hr hc0 hc1 hw64 HF6 HB6 HB6w HBW HFW HBB hlt6 HF HB HRr HSZ
      by_cases hneg : x < 0
      · go_wp2_with fail
        refine (HX.out.cut_a (n := tt)).mono ?_
        rintro e w7 ⟨hs, rfl⟩
        have HX := Aside0.mk hs
        clear hs
        go_wp2_with fail
        refine (HX.out.cut_b (n := tt)).mono ?_
        rintro e w8 ⟨hs, rfl⟩
        have HX := Aside0.mk hs
        clear hs
        go_wp2_with fail
        refine (HX.out.cut_c (n := tt)).mono ?_
        rintro e w9 ⟨hs, rfl⟩
        have HX := Aside0.mk hs
        clear hs
        go_wp2_with fail
        refine (HX.out.cut_d (n := tt)).mono ?_
        rintro e w10 ⟨hs, rfl⟩
        obtain ⟨row2, hrow2⟩ : ∃ r, r = row.take tt.toNat := ⟨_, rfl⟩
        rw [← hrow2] at hs
        have HX := Aside0.mk hs
        have HS2 := Aside0.mk (show ∀ x, x ∈ row2 → x < 4 by rw [hrow2]; exact fun x hx => HS.out x (List.mem_of_mem_take hx))
        clear hs hrow2 HS
        go_wp2_with fail
        refine (HX.out.find_a HS1.out ht4).mono ?_
        rintro e w11 ⟨hs, rfl⟩
        obtain ⟨e0, e1, _, _⟩ := hs.cells
        have HX := Aside0.mk hs
        clear hs
        obtain ⟨n, hn⟩ : ∃ n : Int, n = (fiN row2 t : Int) := ⟨_, rfl⟩
        obtain ⟨ok, hok⟩ : ∃ n : Bool, n = decide (t ∈ row2) := ⟨_, rfl⟩
        rw [← hn, ← hok]
        have HN := Aside0.mk hn
        have HO := Aside0.mk hok
        clear hn hok
        go_wp2_with fail
        refine (HX.out.find_b HP.out ht4).mono ?_
        rintro e w12 ⟨hs, he⟩
        rw [← HN.out, ← HO.out] at he
        subst he
        have HX := Aside0.mk hs
        clear hs
        go_wp2_with fail
        refine (HX.out.find_c HB1.out ht4).mono ?_
        rintro e w13 ⟨hs, he⟩
        rw [← HN.out, ← HO.out] at he
        subst he
        obtain ⟨_, _, e2, e3⟩ := hs.cells
        have HX := Aside0.mk hs
        clear hs
        go_wp2_with fail
        refine (HX.out.find_d HQ.out ht4).mono ?_
        rintro e w14 ⟨hs, he⟩
        rw [← HN.out, ← HO.out] at he
        subst he
        have HX := Aside0.mk hs
        clear hs
        have hnn : (n != n) = false := by simp
        have hoo : (ok != ok) = false := by simp
        go_wp2_with fail
        go_roundw
        case rel => exact ⟨k + 1, by go_num, by omega, row2, HS2, ⟨HX.out.four.apart (Below.refl _ _) (fun _ h => h.elim)⟩, ⟨HX.out.below⟩⟩
        case measure => simp [intOf]; omega
      · go_wp2_with fail
        refine (HX.out.add_a HS1.out ht4).mono ?_
        rintro e w7 ⟨hs, rfl, _⟩
        have HX := Aside0.mk hs
        clear hs
        by_cases hmem : t ∈ row
        · have HM := Aside0.mk hmem
          clear hmem
          go_wp2_with fail
          refine (HX.out.at_yes HP.out HM.out).mono ?_
          rintro e w8 ⟨hs, rfl⟩
          have HX := Aside0.mk hs
          clear hs
          go_upto_region 27 with (fail)
          obtain ⟨W, hW⟩ : ∃ W, W = w8.alloc (.cells #[.int .i64 a0, .int .i64 a1] 44) := ⟨_, rfl⟩
          rw [← hW]
          obtain ⟨hs, hR⟩ := HX.out.more hW
          obtain ⟨R, hRe⟩ : ∃ R, R = w8.heap.size := ⟨_, rfl⟩
          rw [← hRe] at hs hR ⊢
          obtain ⟨e0, e1, _, _⟩ := hs.cells
          have HX := Aside0.mk hs
          have HR := Aside0.mk hR
          clear hs hR hRe hW
          go_wp2_with fail
          refine (HX.out.add_b HP.out ht4).mono ?_
          rintro e w9 ⟨hs, rfl, hg⟩
          have HX := Aside0.mk hs
          have HR := Aside0.mk ((hg R rfl).trans HR.out)
          clear hs hg
          have hnn : (((poN row t : Nat) : Int) != ((poN row t : Nat) : Int)) = false := by simp
          go_wp2_with fail
          refine (HX.out.add_c HB1.out ht4).mono ?_
          rintro e w10 ⟨hs, rfl, hg⟩
          obtain ⟨_, _, e2, e3⟩ := hs.cells
          have HX := Aside0.mk hs
          have HR := Aside0.mk ((hg R rfl).trans HR.out)
          clear hs hg
          go_wp2_with fail
          refine (HX.out.add_d HQ.out ht4).mono ?_
          rintro e w11 ⟨hs, rfl, hg⟩
          obtain ⟨e4, e5, _, _⟩ := hs.cells
          have HX := Aside0.mk hs
          have hR := (hg R rfl).trans HR.out
          have r0 : w11.cell? ⟨R, 0, none⟩ = some (.int .i64 a0) := by simp [World.cell?, hR]
          have r1 : w11.cell? ⟨R, 1, none⟩ = some (.int .i64 a1) := by simp [World.cell?, hR]
          clear hs hg HR hR
          go_wp2_with fail
          go_roundw
          case rel => exact ⟨k + 1, by go_num, by omega, addN row t, ⟨addN_small HS.out ht4⟩, ⟨HX.out.four.apart (Below.refl _ _) (fun _ h => h.elim)⟩, ⟨HX.out.below⟩⟩
          case measure => simp [intOf]; omega
        · have HM := Aside0.mk hmem
          clear hmem
          go_wp2_with fail
          refine (HX.out.at_no HM.out (HX.out.four.len_b_le)).mono ?_
          rintro e w8 ⟨hs, rfl⟩
          have HX := Aside0.mk hs
          clear hs
          go_upto_region 27 with (fail)
          obtain ⟨W, hW⟩ : ∃ W, W = w8.alloc (.cells #[.int .i64 0, .int .i64 0] 44) := ⟨_, rfl⟩
          rw [← hW]
          obtain ⟨hs, hR⟩ := HX.out.more hW
          obtain ⟨R, hRe⟩ : ∃ R, R = w8.heap.size := ⟨_, rfl⟩
          rw [← hRe] at hs hR ⊢
          obtain ⟨e0, e1, _, _⟩ := hs.cells
          have HX := Aside0.mk hs
          have HR := Aside0.mk hR
          clear hs hR hRe hW
          go_wp2_with fail
          refine (HX.out.add_b HP.out ht4).mono ?_
          rintro e w9 ⟨hs, rfl, hg⟩
          have HX := Aside0.mk hs
          have HR := Aside0.mk ((hg R rfl).trans HR.out)
          clear hs hg
          have hnn : (((poN row t : Nat) : Int) != ((poN row t : Nat) : Int)) = false := by simp
          go_wp2_with fail
          refine (HX.out.add_c HB1.out ht4).mono ?_
          rintro e w10 ⟨hs, rfl, hg⟩
          obtain ⟨_, _, e2, e3⟩ := hs.cells
          have HX := Aside0.mk hs
          have HR := Aside0.mk ((hg R rfl).trans HR.out)
          clear hs hg
          go_wp2_with fail
          refine (HX.out.add_d HQ.out ht4).mono ?_
          rintro e w11 ⟨hs, rfl, hg⟩
          obtain ⟨e4, e5, _, _⟩ := hs.cells
          have HX := Aside0.mk hs
          have hR := (hg R rfl).trans HR.out
          have r0 : w11.cell? ⟨R, 0, none⟩ = some (.int .i64 0) := by simp [World.cell?, hR]
          have r1 : w11.cell? ⟨R, 1, none⟩ = some (.int .i64 0) := by simp [World.cell?, hR]
          clear hs hg HR hR
          go_wp2_with fail
          go_roundw
          case rel => exact ⟨k + 1, by go_num, by omega, addN row t, ⟨addN_small HS.out ht4⟩, ⟨HX.out.four.apart (Below.refl _ _) (fun _ h => h.elim)⟩, ⟨HX.out.below⟩⟩
          case measure => simp [intOf]; omega
    · have hl2 : ¬ (k : Int) < (l.length : Int) := by omega
      go_wp2_with fail
      refine (HF.out.len_a).mono ?_
      rintro e w6 ⟨rfl, rfl⟩
      go_wp2_with fail
      refine (HF.out.len_b).mono ?_
      rintro e w6 ⟨rfl, rfl⟩
      go_wp2_with fail
      refine (HF.out.len_a).mono ?_
      rintro e w6 ⟨rfl, rfl⟩
      go_wp2_with fail
      refine (HF.out.len_c).mono ?_
      rintro e w6 ⟨rfl, rfl⟩
      go_wp2_with fail
      refine (HF.out.len_a).mono ?_
      rintro e w6 ⟨rfl, rfl⟩
      go_wp2_with fail
      refine (HF.out.len_d).mono ?_
      rintro e w6 ⟨rfl, rfl⟩
      go_wp2_with fail
      go_ret
      exact ⟨rfl, HB.out⟩
end Go.Proofs.Ytijmhegccakndaa
