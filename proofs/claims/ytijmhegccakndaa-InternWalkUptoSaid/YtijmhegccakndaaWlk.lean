/-
  The walk of InternWalk.
-/
import Derived.Test.YtijmhegccakndaaRg
import Derived.LoopN
import Derived.StillTailTactics
namespace Go.Proofs.Ytijmhegccakndaa
open Go.RowKit Go.Maps Go.WideMaps
open Go.Proofs.YtijmhegccakndaaW.PrintWords Go.Proofs.YtijmhegccakndaaW.PrintMore
open PInternWalk
attribute [local go_sem] Oper.semAt_some

set_option maxRecDepth 100000 in
set_option maxHeartbeats 4000000 in
theorem walk_law (A1 A2 A3 : Option Addr) (c1 c2 c3 : Nat) (l1 : List ByteArray) (l2 l3 : List S72) (stop other : Int) (w : World)
    (h1 : Kd.string.C w A1 l1.length l1) (h2 : Kd.C k72 w A2 l2.length l2) (h3 : Kd.C k72 w A3 l3.length l3) (hc3 : l3.length ≤ c3) (hn : l1.length + l2.length + l3.length ≤ 1048576)
    (s1 : ∀ t, t ∈ l1 → t.size ≤ maxLen) (s2 : ∀ a, a ∈ l2 → a.f2.size ≤ maxLen) (s3 : ∀ a, a ∈ l3 → a.f2.size ≤ maxLen) :
    Calls Try.prog 8 #[.agg #[.slice A1 l1.length c1, .slice A2 l2.length c2, .slice A3 l3.length c3, .int .i64 stop, .int .i64 other]] w fun e W' => e = .returned (.bool true) ∧ Below w.heap.size w W' := by
  have H1 := Aside0.mk (And.intro h1 s1)
  have H2 := Aside0.mk (And.intro h2 s2)
  have H3 := Aside0.mk (And.intro h3 (And.intro s3 hc3))
  have HN := Aside0.mk hn
  have m1 : l1.length ≤ 1048576 := by omega
  have m2 : l2.length ≤ 1048576 := by omega
  have m3 : l3.length ≤ 1048576 := by omega
  clear h1 h2 h3 s1 s2 s3 hc3 hn
  refine (callsIn_wide (n := 5)).1 ?_
  refine callsIn_of_wp_marks Try.func8 rfl trivial ?_ rfl
  simp only [Try.ntmps8, List.size_toArray, List.length_cons, List.length_nil, Nat.reduceAdd, Nat.reduceSub, Array.replicate_succ, Array.replicate_zero, List.push_toArray, List.append_toArray, List.nil_append, List.cons_append]
  refine wpIn_wide.2 ?_
  obtain ⟨tv, htv⟩ : ∃ tv : Array Value, tv = #[.slice A1 l1.length c1, .slice A2 l2.length c2, .slice A3 l3.length c3, .int .i64 stop, .int .i64 other] := ⟨_, rfl⟩
  have HTV := Aside0.mk htv
  go_wp2_with fail
  refine (new_any _).mono ?_
  rintro e w1 ⟨rfl, hw1⟩
  rw [← htv] at hw1
  simp only [World.size_alloc] at hw1
  obtain ⟨hz, hi1⟩ := new_st w tv w1 hw1
  have HI1 := Aside0.mk hi1
  clear hw1 htv hi1
  go_wp2_with fail
  try rw [hz]
  clear hz
  generalize w1.alloc (Obj.cells #[Value.pointer (some ⟨w.heap.size + 1 + 1 + 1, 0, none⟩)] 23) = w2 at *
  go_loopw [4, 5] (fun rv i wr => ∃ k : Nat, i = .int .i64 (k : Int) ∧ k ≤ l1.length ∧ Aside0 (Inv w tv none [] (rowOf (l1.take k)) rv (rowOf (l1.take k)) wr)) (fun _ i _ => l1.length - (intOf i).toNat)
  case atStart => exact ⟨0, rfl, Nat.zero_le _, HI1⟩
  case round =>
    obtain ⟨k, rfl, hk, HI⟩ := hrel
    have ct : wr.cell? ⟨w.heap.size, 0, none⟩ = some (.slice A1 l1.length c1) := by rw [cell_of_row _ _ 0 _ _ _ HI.out.1.t, HTV.out]; rfl
    have cx : wr.cell? ⟨w.heap.size + 1 + 1 + 1 + 1, 0, none⟩ = some (.pointer (some ⟨w.heap.size + 1 + 1 + 1, 0, none⟩)) := by rw [cell_of_row _ _ 0 _ _ _ HI.out.1.x]; rfl
    by_cases hlt : k < l1.length
    · obtain ⟨u, hu⟩ : ∃ u, l1[k]? = some u := ⟨_, List.getElem?_eq_getElem hlt⟩
      obtain ⟨ad, e, hxu⟩ := cell_str (Kd.C_below H1.out.1 HI.out.1.bl) hu
      subst e
      have hl2 : (k : Int) < (l1.length : Int) := by omega
      have HU := Aside0.mk hu
      clear hu
      go_wp2_with fail
      go_still_tail 6, (by kernel_rfl)
      change wpList _ _ _ _ _ wr.drew
      have HI2 := Aside0.mk (HI.out.below (below_drew (Below.refl _ _)))
      clear ct cx HI hxu
      generalize wr.drew = w3 at *
      go_wp2_with fail
      refine (add_st w3 _ _ _ _ _ _ u HI2.out.2 (H1.out.2 u (List.mem_of_getElem? HU.out)) (by have := length_rowOf (l1.take k); rw [List.length_take] at this; omega)).mono ?_
      rintro e w4 ⟨⟨q, rfl⟩, hs, hf, hb⟩
      have HI4 := Aside0.mk (show Inv w tv none [] (rowOf (l1.take (k + 1))) u4 (rowOf (l1.take k)) w4 from ⟨HI2.out.1.fr hf (HI2.out.1.bl.trans hb), by rw [rowOf_take_succ HU.out]; exact hs⟩)
      clear hs hf hb HI2
      have ct : w4.cell? ⟨w.heap.size, 0, none⟩ = some (.slice (some ad) l1.length c1) := by rw [cell_of_row _ _ 0 _ _ _ HI4.out.1.t, HTV.out]; rfl
      obtain ⟨ad', e, hxu⟩ := cell_str (Kd.C_below H1.out.1 HI4.out.1.bl) HU.out
      injection e with e
      subst e
      go_wp2_with fail
      refine (refAdd_st w w4 _ _ _ _ _ u HI4.out.2 HI4.out.1.bl (by have := length_rowOf (l1.take k); rw [List.length_take] at this; omega)).mono ?_
      rintro e w5 ⟨v', q', rfl, hs, hf, hb⟩
      have HI5 := Aside0.mk (show Inv w tv none [] (rowOf (l1.take (k + 1))) v' (rowOf (l1.take (k + 1))) w5 from ⟨HI4.out.1.fr hf hb, by rw [rowOf_take_succ HU.out]; rw [rowOf_take_succ HU.out] at hs; exact hs⟩)
      clear hs hf hb HI4 ct hxu
      go_wp2_with fail
      go_roundw
      case rel => exact ⟨k + 1, by go_num, by omega, HI5⟩
      case measure => simp [intOf]; omega
    · obtain rfl : k = l1.length := by omega
      rw [List.take_length] at HI
      have hl2 : ¬ (l1.length : Int) < (l1.length : Int) := by omega
      go_wp2_with fail
      refine (all_calls _ _).mono ?_
      rintro e w3 ⟨rfl, hw3⟩
      have HI3 := Aside0.mk (hw3 ▸ HI.out.box)
      have HRL := Aside0.mk (length_rowOf l1)
      clear hw3 HI ct cx hl2 HI1
      obtain ⟨bx, hbx⟩ : ∃ bx, wr.heap.size = bx := ⟨_, rfl⟩
      rw [hbx] at HI3 ⊢
      clear hbx
      generalize rowOf l1 = r0 at *
      obtain ⟨A0, c0, hv0⟩ := Kd.R_slice HI3.out.2.rr
      subst hv0
      have cx : w3.cell? ⟨w.heap.size + 1 + 1 + 1 + 1, 0, none⟩ = some (.pointer (some ⟨w.heap.size + 1 + 1 + 1, 0, none⟩)) := by rw [cell_of_row _ _ 0 _ _ _ HI3.out.1.x]; rfl
      have hcn := cmpNil bx
      go_wp2_with fail
      obtain ⟨vi, D, hix⟩ := HI3.out.2.ixd
      refine (len_any w3 _ _ vi D r0 hix).mono ?_
      rintro e w4 ⟨rfl, rfl⟩
      have hnn : ((r0.length : Int) != (r0.length : Int)) = false := by simp
      clear hix
      go_wp2_with fail
      clear hcn hnn cx vi D
      go_loopw [4, 7] (fun rv i wr => ∃ k : Nat, i = .int .i64 (k : Int) ∧ k ≤ l2.length ∧ Aside0 (Inv w tv (some bx) [] ((l2.take k).foldl doneRow r0) rv ((l2.take k).foldl doneRow r0) wr)) (fun _ i _ => l2.length - (intOf i).toNat)
      case atStart => exact ⟨0, rfl, Nat.zero_le _, HI3⟩
      case round =>
        clear HI3
        obtain ⟨k, rfl, hk, HI⟩ := hrel
        have ct : wr.cell? ⟨w.heap.size, 1, none⟩ = some (.slice A2 l2.length c2) := by rw [cell_of_row _ _ 1 _ _ _ HI.out.1.t, HTV.out]; rfl
        have cx : wr.cell? ⟨w.heap.size + 1 + 1 + 1 + 1, 0, none⟩ = some (.pointer (some ⟨w.heap.size + 1 + 1 + 1, 0, none⟩)) := by rw [cell_of_row _ _ 0 _ _ _ HI.out.1.x]; rfl
        have hfl := fold_length (l2.take k) r0
        rw [List.length_take] at hfl
        have HFL := Aside0.mk (show ((l2.take k).foldl doneRow r0).length ≤ 2097152 by have := HRL.out; omega)
        clear hfl
        by_cases hlt : k < l2.length
        · obtain ⟨u, hu⟩ : ∃ u, l2[k]? = some u := ⟨_, List.getElem?_eq_getElem hlt⟩
          obtain ⟨ad, e, q0, q1, q2⟩ := cell_act (Kd.C_below H2.out.1 HI.out.1.bl) hu
          subst e
          have hl2 : (k : Int) < (l2.length : Int) := by omega
          have HU := Aside0.mk hu
          clear hu
          go_wp2_with fail
          go_still_tail 6, (by kernel_rfl)
          change wpList _ _ _ _ _ wr.drew
          have HI2 := Aside0.mk (HI.out.below (below_drew (Below.refl _ _)))
          clear ct cx HI q0 q1 q2
          generalize wr.drew = w5 at *
          go_wp2_with fail
          refine (done_st w5 _ _ _ _ _ _ u HI2.out.2 HI2.out.1.bl.size (H2.out.2 u (List.mem_of_getElem? HU.out)) (by have := HFL.out; omega)).mono ?_
          rintro e w6 ⟨rfl, hs, hf, hb⟩
          have HI4 := Aside0.mk (show Inv w tv (some bx) [] ((l2.take (k + 1)).foldl doneRow r0) u4 ((l2.take k).foldl doneRow r0) w6 from ⟨HI2.out.1.fr hf (HI2.out.1.bl.trans hb), by rw [fold_snoc HU.out]; exact hs⟩)
          clear hs hf hb HI2
          have ct : w6.cell? ⟨w.heap.size, 1, none⟩ = some (.slice (some ad) l2.length c2) := by rw [cell_of_row _ _ 1 _ _ _ HI4.out.1.t, HTV.out]; rfl
          obtain ⟨ad', e, q0, q1, q2⟩ := cell_act (Kd.C_below H2.out.1 HI4.out.1.bl) HU.out
          injection e with e
          subst e
          go_wp2_with fail
          refine (refDone_st w w6 _ _ _ _ _ u HI4.out.2 HI4.out.1.bl (by have := HFL.out; omega)).mono ?_
          rintro e w7 ⟨v', rfl, hs, hf, hb⟩
          have HI5 := Aside0.mk (show Inv w tv (some bx) [] ((l2.take (k + 1)).foldl doneRow r0) v' ((l2.take (k + 1)).foldl doneRow r0) w7 from ⟨HI4.out.1.fr hf hb, by rw [fold_snoc HU.out]; rw [fold_snoc HU.out] at hs; exact hs⟩)
          clear hs hf hb HI4 ct q0 q1 q2
          go_wp2_with fail
          go_roundw
          case rel => exact ⟨k + 1, by go_num, by omega, HI5⟩
          case measure => simp [intOf]; omega
        · obtain rfl : k = l2.length := by omega
          rw [List.take_length] at HI HFL
          have hl2 : ¬ (l2.length : Int) < (l2.length : Int) := by omega
          go_wp2_with fail
          generalize l2.foldl doneRow r0 = r1 at *
          clear ct cx hl2 HRL
          refine wp_loop_rounds 3 ?_
          rw [rounds_succ]
          have cs2 : wr.cell? ⟨w.heap.size, 2, none⟩ = some (.slice A3 l3.length c3) := by rw [cell_of_row _ _ 2 _ _ _ HI.out.1.t, HTV.out]; rfl
          have cs3 : wr.cell? ⟨w.heap.size, 3, none⟩ = some (.int .i64 stop) := by rw [cell_of_row _ _ 3 _ _ _ HI.out.1.t, HTV.out]; rfl
          go_wp2_with fail
          obtain ⟨want, next, hw, hnl⟩ := walk_ends (acts := l3) (stop := stop) (n0 := r1.length) (M := r1.length + r1.length) (by have := HFL.out; omega) (by have := HFL.out; omega) r1.length (2 * r1.length + (r1.length + r1.length) + 4) r1 [] (by simp) (Nat.le_refl _) (by omega)
          refine (portageref05_Walk.calls (2 * r1.length + (r1.length + r1.length) + 4) _ _ r1 A3 c3 l3 stop want next w wr HI.out.1.bl HI.out.2.rr (Kd.C_kept_came heap72 H3.out.1 HI.out.1.bl fun k hk => (own_lo HI.out.2.rr k hk).1) H3.out.2.2 hw).mono ?_
          rintro e w5 ⟨wv, vn, rfl, hRw, hRn, hb5, hk5⟩
          obtain ⟨Aw, cw, hv⟩ := Kd.R_slice hRw
          subst hv
          obtain ⟨An, cn0, hv⟩ := Kd.R_slice hRn
          have HVN := Aside0.mk hv
          clear hv
          have HK5 := Aside0.mk (HI.out.2.ref hRn hk5)
          have HI5 := Aside0.mk (show Lw w tv (some bx) [] w5 from HI.out.1.fr HK5.out.2 hb5)
          have HW5 := Aside0.mk (R78_self hRw)
          have HWK := Aside0.mk (And.intro hw hnl)
          clear hRw hRn hb5 hk5 HI cs2 cs3 hw hnl
          go_wp2_with fail
          obtain ⟨w6, hw6⟩ : ∃ w6, (w5.alloc (Obj.cells #[Value.slice Aw want.length cw] 74)).alloc (Obj.cells #[Value.int IntKind.i64 0] 3) = w6 := ⟨_, rfl⟩
          rw [hw6]
          have hb6 : Below w5.heap.size w5 w6 := by rw [← hw6]; exact ((Below.refl _ w5).alloc (Nat.le_refl _) _).alloc (by simp) _
          have hs6 : w6.heap.size = w5.heap.size + 2 := by rw [← hw6]; simp
          have hlw6 := HI5.out.fr (Fr.of_below hb6) (HI5.out.bl.trans (hb6.mono HI5.out.bl.size))
          have HG := Aside0.mk (show Rg w tv bx [] l3 stop r1.length w5.heap.size (w5.heap.size + 1) (.slice Aw want.length cw) vn want next (2 * r1.length + (r1.length + r1.length) + 4 + r1.length) [] w6 from
            ⟨hlw6, ⟨r1, _, HK5.out.1.below hb6, ⟨by omega, fun _ => rfl⟩, HWK.out.1⟩, by rw [← hw6]; exact (Below.heap_alloc _ _ _ (by simp)).trans (World.alloc_heap_new _ _), by rw [← hw6]; have := World.alloc_heap_new (w5.alloc (Obj.cells #[Value.slice Aw want.length cw] 74)) (Obj.cells #[Value.int IntKind.i64 0] 3); rwa [World.size_alloc] at this, Kd.R_below HW5.out hb6⟩)
          have z1 : w.heap.size + 5 ≤ w6.heap.size := by have := (Array.getElem?_eq_some_iff.1 hlw6.x).1; omega
          have z2 : bx < w6.heap.size := (Array.getElem?_eq_some_iff.1 (hlw6.c bx rfl).1).1
          have HZ6 := Aside0.mk (And.intro hs6 (And.intro z1 z2))
          have HZD := Aside0.mk (show ∀ D, D ∈ ([] : List Nat) → D < w6.heap.size from fun D hD => (Array.getElem?_eq_some_iff.1 (hlw6.d D hD).1).1)
          have HZ5 := Aside0.mk (show w.heap.size ≤ w5.heap.size from HI5.out.bl.size)
          clear hw6 hb6 hs6 hlw6 z1 z2
          refine (wpIn_wide (n := 5)).1 (wp_rf2 (n := 5) (id := 6) rfl (by omega) (gf := 52) (lb := #[.pointer (some ⟨bx, 0, none⟩)]) rfl trivial (enters_of Try.func52 (by kernel_rfl) rfl) (encs := enc2) (X := Nxt (w.heap.size + 1 + 1 + 1) (w.heap.size + 1 + 1) r1.length) (E := Ran (w.heap.size + 1 + 1 + 1) (w.heap.size + 1 + 1) r1.length)
            (Rg w tv bx [] l3 stop r1.length w5.heap.size (w5.heap.size + 1) (.slice Aw want.length cw) vn want next (2 * r1.length + (r1.length + r1.length) + 4 + r1.length)) (Rz w tv bx [] w5.heap.size (w5.heap.size + 1) (.slice Aw want.length cw) vn want next)
            (all_iter 4 (w.heap.size + 1 + 1 + 1) (w.heap.size + 1 + 1) bx r1.length (by omega) _ ?i110 ?i210) ?ps10
            (Rg.own HZ6.out.2.1 HZ6.out.2.2 HZD.out (by have := HZ6.out.1; omega) (by have := HZ6.out.1; omega)) (nxt_own (by have := HZ6.out.2.1; omega)) (ran_own (by have := HZ6.out.2.1; omega)) (Rz.own HZ6.out.2.1 HZ6.out.2.2 HZD.out (by have := HZ6.out.1; omega) (by have := HZ6.out.1; omega)) HG.out ?a110 ?assign10 ?body10 (fun pre W h he => h.over he) ?hQ10 ?fin10)
          case i110 =>
            intro pre W h
            obtain ⟨row, _, h1, _⟩ := h.st
            exact ⟨by rw [cell_of_row _ _ 0 _ _ _ (h.lw.c bx rfl).1]; rfl, row, h1.ixd⟩
          case i210 =>
            intro W h
            obtain ⟨row, _, h1, h2, _⟩ := h.st
            exact ⟨row, h1.ixd, h2.2 rfl⟩
          case ps10 => exact fun _ => rfl
          case assign10 =>
            intro l x W K hK
            gi_wp2
            exact hK
          case body10 =>
            rintro l pre ⟨x1, t⟩ W hI ⟨hx1, hlt, row', hix', ht⟩
            obtain ⟨row, k, hSt, ⟨hM, _⟩, hwalk⟩ := hI.st
            obtain rfl := hSt.ixd.unique hix'
            have hx1' : x1 = (pre.length : Int) := hx1
            subst hx1'
            obtain ⟨hwant, hcase⟩ := round_pre hM (by have := HFL.out; omega) hwalk hlt ht
            have hwl : pre.length < want.length := (List.getElem?_eq_some_iff.1 hwant).1
            obtain ⟨ad, e, q0, q1⟩ := cell_giv (Kd.R_reads' hI.wr).2.2 hwant
            subst e
            have cn : W.cell? ⟨w5.heap.size + 1, 0, none⟩ = some (.int .i64 (pre.length : Int)) := by rw [cell_of_row _ _ 0 _ _ _ hI.wn]; rfl
            have cwt : W.cell? ⟨w5.heap.size, 0, none⟩ = some (.slice (some ad) want.length cw) := by rw [cell_of_row _ _ 0 _ _ _ hI.ww]; rfl
            have cx : W.cell? ⟨w.heap.size + 1 + 1 + 1 + 1, 0, none⟩ = some (.pointer (some ⟨w.heap.size + 1 + 1 + 1, 0, none⟩)) := by rw [cell_of_row _ _ 0 _ _ _ hI.lw.x]; rfl
            have c4 : W.cell? ⟨w.heap.size, 4, none⟩ = some (.int .i64 other) := by rw [cell_of_row _ _ 4 _ _ _ hI.lw.t, HTV.out]; rfl
            have HI := Aside0.mk hI
            have HS := Aside0.mk (And.intro hSt (And.intro hM hcase))
            have w1' : decide ((want.length : Int) ≤ (pre.length : Int)) = false := decide_eq_false (by omega)
            have w2' : (pre.length : Int) < (want.length : Int) := by omega
            have w3' : ((pre.length : Int) != (pre.length : Int)) = false := by simp
            have w4' : (t.toList != t.toList) = false := by simp
            have HPL := Aside0.mk (show (pre.length : Int) ≤ 4194304 by have := HFL.out; have := hlt; omega)
            clear hI hSt hM hwalk hcase hix' hx1 hlt ht hwant hwl
            have hmix : Try.prog.follows .mixedOrders = true := by kernel_rfl
            gi_wp2_with fail
            by_cases ho : (pre.length : Int) = other
            · have ho' : ((pre.length : Int) == other) = true := by simp [ho]
              have HGN := Aside0.mk (gone_calls W.drew _ _ row (HS.out.1.ixd.below (below_drew (Below.refl _ _))))
              clear ho
              refine reg_cut ?A11 (fun w' => Below W.heap.size W w') ?reg11 ?rest11
              case reg11 =>
                gi_region_with_o (first | ((first | (refine ⟨trivial, ?_⟩; gi_at_call 43) | gi_at_call 43); refine (CallsIn.inRound l (callsIn_wide.2 HGN.out)).mono ?_; rintro e w7 ⟨rfl, hb7⟩; have cx7 := (hb7.cell (p := ⟨w.heap.size + 1 + 1 + 1 + 1, 0, none⟩) (World.block_lt_of_cell? W _ cx)).trans cx; obtain ⟨vi7, D7, hix7⟩ := HS.out.1.ixd.below ((below_drew (Below.refl _ _)).trans hb7)) | ((first | (refine ⟨trivial, ?_⟩; gi_at_call 14) | gi_at_call 14); refine (CallsIn.inRound l (callsIn_wide.2 (len_any w7 _ _ vi7 D7 row hix7))).mono ?_; rintro e w9 ⟨rfl, rfl⟩; have hrr : ((row.length : Int) != (row.length : Int)) = false := by simp))
                all_goals (refine ⟨?_, (below_drew (Below.refl _ _)).trans hb7⟩; exact rfl)
              case rest11 =>
                intro w8 hb2
                have HK2 := Aside0.mk (HI.out.keep (Fr.of_below hb2) (HI.out.lw.bl.trans (hb2.mono HI.out.lw.bl.size)))
                have HS2 := Aside0.mk (HS.out.1.below hb2)
                have HKF2 := Aside0.mk ((Fr.of_below (bm := w.heap.size + 1 + 1) hb2).from (B := w6.heap.size) (by have := HZ6.out.2.1; omega))
                have cn2 : w8.cell? ⟨w5.heap.size + 1, 0, none⟩ = some (.int .i64 (pre.length : Int)) := by rw [cell_of_row _ _ 0 _ _ _ HK2.out.2.2.1]; rfl
                have ci2 : w8.cell? ⟨w.heap.size, 2, none⟩ = some (.slice A3 l3.length c3) := by rw [cell_of_row _ _ 2 _ _ _ HK2.out.1.t, HTV.out]; rfl
                have cx2 : w8.cell? ⟨w.heap.size + 1 + 1 + 1 + 1, 0, none⟩ = some (.pointer (some ⟨w.heap.size + 1 + 1 + 1, 0, none⟩)) := by rw [cell_of_row _ _ 0 _ _ _ HK2.out.1.x]; rfl
                clear hb2 cn cwt cx c4 q0 q1 w1' w2' w3' w4' ho'
                by_cases ha : pre.length < l3.length
                · obtain ⟨u, hu⟩ : ∃ u, l3[pre.length]? = some u := ⟨_, List.getElem?_eq_getElem ha⟩
                  obtain ⟨ad3, e3, p0, p1, p2⟩ := cell_act (Kd.C_below H3.out.1 HK2.out.1.bl) hu
                  subst e3
                  have ha2 : (pre.length : Int) < (l3.length : Int) := by omega
                  have HU := Aside0.mk hu
                  have HAR := Aside0.mk (show actRow l3 row pre.length = doneRow row u by unfold actRow; rw [hu])
                  have HD := Aside0.mk (done_st w8.drew _ _ _ row next vn u (HS2.out.below (below_drew (Below.refl _ _))) (HK2.out.1.bl.size) (H3.out.2.1 u (List.mem_of_getElem? hu)) (by have := HS.out.2.1; have := HFL.out; omega))
                  clear hu
                  gi_wp2_with fail
                  refine reg_cut ?A12 (fun W' => St w.heap.size (w.heap.size + 1 + 1 + 1) (w.heap.size + 1 + 1) (doneRow row u) vn next W' ∧ Fr (w.heap.size + 1 + 1) w8.drew W' ∧ Below w.heap.size w8.drew W') ?reg12 ?rest12
                  case reg12 =>
                    gi_region_with_o ((first | (refine ⟨trivial, ?_⟩; gi_at_call 40) | gi_at_call 40); refine (CallsIn.inRound l (callsIn_wide.2 HD.out)).mono ?_; rintro e w9 ⟨rfl, hs9, hf9, hb9⟩)
                    all_goals (refine ⟨?_, hs9, hf9, hb9⟩; exact rfl)
                  case rest12 =>
                    rintro w9 ⟨hs9, hf9, hb9⟩
                    have HK9 := Aside0.mk (Rg.keep2 HK2.out HS2.out ((Fr.of_below (below_drew (Below.refl _ _))).trans hf9) ((show Below w.heap.size w w8.drew from HK2.out.1.bl.drew).trans hb9))
                    have HS9 := Aside0.mk (HAR.out.symm ▸ hs9)
                    have HKF9 := Aside0.mk (HKF2.out.trans (((Fr.of_below (bm := w.heap.size + 1 + 1) (below_drew (Below.refl w8.heap.size w8))).trans hf9).from (B := w6.heap.size) (by have := HZ6.out.2.1; omega)))
                    clear cn2 ci2 cx2 p0 p1 p2 hs9 hf9 hb9 ha2
                    have hpl := HPL.out
                    have cn9 : w9.cell? ⟨w5.heap.size + 1, 0, none⟩ = some (.int .i64 (pre.length : Int)) := by rw [cell_of_row _ _ 0 _ _ _ HK9.out.2.2.1]; rfl
                    have fn9 : w9.frozen? ⟨w5.heap.size + 1, 0, none⟩ = false := frozen_of_row w9 _ 0 _ _ HK9.out.2.2.1
                    have cs9 : w9.cell? ⟨w.heap.size, 3, none⟩ = some (.int .i64 stop) := by rw [cell_of_row _ _ 3 _ _ _ HK9.out.1.t, HTV.out]; rfl
                    have HC9 := Aside0.mk (kept_count (.int .i64 ((pre.length : Int) + 1)) HK9.out HS9.out (by have := HZ5.out; omega))
                    rcases HS.out.2.2 with ⟨hs, hwl, hnx⟩ | ⟨hs, k', hk', hw'⟩
                    · have hs' : ((pre.length : Int) + 1 == stop) = true := by simp [hs]
                      have HWL := Aside0.mk (And.intro hwl hnx)
                      clear hs hwl hnx
                      gi_wp2_with fail
                      refine ⟨HKF9.out.trans ((KeepsOthers.setCell _ _ _).from _), rfl, HC9.out.1, ?_, HC9.out.2.2.1, ?_, HC9.out.2.2.2.2⟩
                      · have := HC9.out.2.1; rw [← HWL.out.2] at this; exact this
                      · rw [HC9.out.2.2.2.1, HWL.out.1]; first | done | simp
                    · have hs' : ((pre.length : Int) + 1 == stop) = false := by simp [hs]
                      have HWL := Aside0.mk (And.intro hk' hw')
                      clear hs hk' hw'
                      gi_wp2_with fail
                      refine ⟨HKF9.out.trans ((KeepsOthers.setCell _ _ _).from _), HC9.out.1, ⟨_, k', HC9.out.2.1, ⟨HWL.out.1, fun h => by simp at h⟩, HWL.out.2⟩, HC9.out.2.2.1, ?_, HC9.out.2.2.2.2⟩
                      rw [HC9.out.2.2.2.1]; simp
                · have ha2 : ¬ (pre.length : Int) < (l3.length : Int) := by omega
                  have HAR := Aside0.mk (show actRow l3 row pre.length = row by unfold actRow; rw [List.getElem?_eq_none (by omega)])
                  obtain ⟨w9, hw9⟩ : ∃ w9, w9 = w8 := ⟨_, rfl⟩
                  subst hw9
                  have HK9 := HK2
                  have HS9 := Aside0.mk (HAR.out.symm ▸ HS2.out)
                  have HKF9 := HKF2
                  have hpl := HPL.out
                  have cn9 : w9.cell? ⟨w5.heap.size + 1, 0, none⟩ = some (.int .i64 (pre.length : Int)) := by rw [cell_of_row _ _ 0 _ _ _ HK9.out.2.2.1]; rfl
                  have fn9 : w9.frozen? ⟨w5.heap.size + 1, 0, none⟩ = false := frozen_of_row w9 _ 0 _ _ HK9.out.2.2.1
                  have cs9 : w9.cell? ⟨w.heap.size, 3, none⟩ = some (.int .i64 stop) := by rw [cell_of_row _ _ 3 _ _ _ HK9.out.1.t, HTV.out]; rfl
                  have HC9 := Aside0.mk (kept_count (.int .i64 ((pre.length : Int) + 1)) HK9.out HS9.out (by have := HZ5.out; omega))
                  rcases HS.out.2.2 with ⟨hs, hwl, hnx⟩ | ⟨hs, k', hk', hw'⟩
                  · have hs' : ((pre.length : Int) + 1 == stop) = true := by simp [hs]
                    have HWL := Aside0.mk (And.intro hwl hnx)
                    clear hs hwl hnx
                    gi_wp2_with fail
                    refine ⟨HKF9.out.trans ((KeepsOthers.setCell _ _ _).from _), rfl, HC9.out.1, ?_, HC9.out.2.2.1, ?_, HC9.out.2.2.2.2⟩
                    · have := HC9.out.2.1; rw [← HWL.out.2] at this; exact this
                    · rw [HC9.out.2.2.2.1, HWL.out.1]; first | done | simp
                  · have hs' : ((pre.length : Int) + 1 == stop) = false := by simp [hs]
                    have HWL := Aside0.mk (And.intro hk' hw')
                    clear hs hk' hw'
                    gi_wp2_with fail
                    refine ⟨HKF9.out.trans ((KeepsOthers.setCell _ _ _).from _), HC9.out.1, ⟨_, k', HC9.out.2.1, ⟨HWL.out.1, fun h => by simp at h⟩, HWL.out.2⟩, HC9.out.2.2.1, ?_, HC9.out.2.2.2.2⟩
                    rw [HC9.out.2.2.2.1]; simp
            · have ho' : ((pre.length : Int) == other) = false := by simp [ho]
              clear ho
              refine reg_cut ?A13 (fun w' => Below W.heap.size W w') ?reg13 ?rest13
              case reg13 =>
                gi_region_with_o (refine ⟨trivial, ?_⟩)
                all_goals (refine ⟨?_, below_drew (Below.refl _ _)⟩; exact rfl)
              case rest13 =>
                intro w8 hb2
                have HK2 := Aside0.mk (HI.out.keep (Fr.of_below hb2) (HI.out.lw.bl.trans (hb2.mono HI.out.lw.bl.size)))
                have HS2 := Aside0.mk (HS.out.1.below hb2)
                have HKF2 := Aside0.mk ((Fr.of_below (bm := w.heap.size + 1 + 1) hb2).from (B := w6.heap.size) (by have := HZ6.out.2.1; omega))
                have cn2 : w8.cell? ⟨w5.heap.size + 1, 0, none⟩ = some (.int .i64 (pre.length : Int)) := by rw [cell_of_row _ _ 0 _ _ _ HK2.out.2.2.1]; rfl
                have ci2 : w8.cell? ⟨w.heap.size, 2, none⟩ = some (.slice A3 l3.length c3) := by rw [cell_of_row _ _ 2 _ _ _ HK2.out.1.t, HTV.out]; rfl
                have cx2 : w8.cell? ⟨w.heap.size + 1 + 1 + 1 + 1, 0, none⟩ = some (.pointer (some ⟨w.heap.size + 1 + 1 + 1, 0, none⟩)) := by rw [cell_of_row _ _ 0 _ _ _ HK2.out.1.x]; rfl
                clear hb2 cn cwt cx c4 q0 q1 w1' w2' w3' w4' ho'
                by_cases ha : pre.length < l3.length
                · obtain ⟨u, hu⟩ : ∃ u, l3[pre.length]? = some u := ⟨_, List.getElem?_eq_getElem ha⟩
                  obtain ⟨ad3, e3, p0, p1, p2⟩ := cell_act (Kd.C_below H3.out.1 HK2.out.1.bl) hu
                  subst e3
                  have ha2 : (pre.length : Int) < (l3.length : Int) := by omega
                  have HU := Aside0.mk hu
                  have HAR := Aside0.mk (show actRow l3 row pre.length = doneRow row u by unfold actRow; rw [hu])
                  have HD := Aside0.mk (done_st w8.drew _ _ _ row next vn u (HS2.out.below (below_drew (Below.refl _ _))) (HK2.out.1.bl.size) (H3.out.2.1 u (List.mem_of_getElem? hu)) (by have := HS.out.2.1; have := HFL.out; omega))
                  clear hu
                  gi_wp2_with fail
                  refine reg_cut ?A14 (fun W' => St w.heap.size (w.heap.size + 1 + 1 + 1) (w.heap.size + 1 + 1) (doneRow row u) vn next W' ∧ Fr (w.heap.size + 1 + 1) w8.drew W' ∧ Below w.heap.size w8.drew W') ?reg14 ?rest14
                  case reg14 =>
                    gi_region_with_o ((first | (refine ⟨trivial, ?_⟩; gi_at_call 40) | gi_at_call 40); refine (CallsIn.inRound l (callsIn_wide.2 HD.out)).mono ?_; rintro e w9 ⟨rfl, hs9, hf9, hb9⟩)
                    all_goals (refine ⟨?_, hs9, hf9, hb9⟩; exact rfl)
                  case rest14 =>
                    rintro w9 ⟨hs9, hf9, hb9⟩
                    have HK9 := Aside0.mk (Rg.keep2 HK2.out HS2.out ((Fr.of_below (below_drew (Below.refl _ _))).trans hf9) ((show Below w.heap.size w w8.drew from HK2.out.1.bl.drew).trans hb9))
                    have HS9 := Aside0.mk (HAR.out.symm ▸ hs9)
                    have HKF9 := Aside0.mk (HKF2.out.trans (((Fr.of_below (bm := w.heap.size + 1 + 1) (below_drew (Below.refl w8.heap.size w8))).trans hf9).from (B := w6.heap.size) (by have := HZ6.out.2.1; omega)))
                    clear cn2 ci2 cx2 p0 p1 p2 hs9 hf9 hb9 ha2
                    have hpl := HPL.out
                    have cn9 : w9.cell? ⟨w5.heap.size + 1, 0, none⟩ = some (.int .i64 (pre.length : Int)) := by rw [cell_of_row _ _ 0 _ _ _ HK9.out.2.2.1]; rfl
                    have fn9 : w9.frozen? ⟨w5.heap.size + 1, 0, none⟩ = false := frozen_of_row w9 _ 0 _ _ HK9.out.2.2.1
                    have cs9 : w9.cell? ⟨w.heap.size, 3, none⟩ = some (.int .i64 stop) := by rw [cell_of_row _ _ 3 _ _ _ HK9.out.1.t, HTV.out]; rfl
                    have HC9 := Aside0.mk (kept_count (.int .i64 ((pre.length : Int) + 1)) HK9.out HS9.out (by have := HZ5.out; omega))
                    rcases HS.out.2.2 with ⟨hs, hwl, hnx⟩ | ⟨hs, k', hk', hw'⟩
                    · have hs' : ((pre.length : Int) + 1 == stop) = true := by simp [hs]
                      have HWL := Aside0.mk (And.intro hwl hnx)
                      clear hs hwl hnx
                      gi_wp2_with fail
                      refine ⟨HKF9.out.trans ((KeepsOthers.setCell _ _ _).from _), rfl, HC9.out.1, ?_, HC9.out.2.2.1, ?_, HC9.out.2.2.2.2⟩
                      · have := HC9.out.2.1; rw [← HWL.out.2] at this; exact this
                      · rw [HC9.out.2.2.2.1, HWL.out.1]; first | done | simp
                    · have hs' : ((pre.length : Int) + 1 == stop) = false := by simp [hs]
                      have HWL := Aside0.mk (And.intro hk' hw')
                      clear hs hk' hw'
                      gi_wp2_with fail
                      refine ⟨HKF9.out.trans ((KeepsOthers.setCell _ _ _).from _), HC9.out.1, ⟨_, k', HC9.out.2.1, ⟨HWL.out.1, fun h => by simp at h⟩, HWL.out.2⟩, HC9.out.2.2.1, ?_, HC9.out.2.2.2.2⟩
                      rw [HC9.out.2.2.2.1]; simp
                · have ha2 : ¬ (pre.length : Int) < (l3.length : Int) := by omega
                  have HAR := Aside0.mk (show actRow l3 row pre.length = row by unfold actRow; rw [List.getElem?_eq_none (by omega)])
                  obtain ⟨w9, hw9⟩ : ∃ w9, w9 = w8 := ⟨_, rfl⟩
                  subst hw9
                  have HK9 := HK2
                  have HS9 := Aside0.mk (HAR.out.symm ▸ HS2.out)
                  have HKF9 := HKF2
                  have hpl := HPL.out
                  have cn9 : w9.cell? ⟨w5.heap.size + 1, 0, none⟩ = some (.int .i64 (pre.length : Int)) := by rw [cell_of_row _ _ 0 _ _ _ HK9.out.2.2.1]; rfl
                  have fn9 : w9.frozen? ⟨w5.heap.size + 1, 0, none⟩ = false := frozen_of_row w9 _ 0 _ _ HK9.out.2.2.1
                  have cs9 : w9.cell? ⟨w.heap.size, 3, none⟩ = some (.int .i64 stop) := by rw [cell_of_row _ _ 3 _ _ _ HK9.out.1.t, HTV.out]; rfl
                  have HC9 := Aside0.mk (kept_count (.int .i64 ((pre.length : Int) + 1)) HK9.out HS9.out (by have := HZ5.out; omega))
                  rcases HS.out.2.2 with ⟨hs, hwl, hnx⟩ | ⟨hs, k', hk', hw'⟩
                  · have hs' : ((pre.length : Int) + 1 == stop) = true := by simp [hs]
                    have HWL := Aside0.mk (And.intro hwl hnx)
                    clear hs hwl hnx
                    gi_wp2_with fail
                    refine ⟨HKF9.out.trans ((KeepsOthers.setCell _ _ _).from _), rfl, HC9.out.1, ?_, HC9.out.2.2.1, ?_, HC9.out.2.2.2.2⟩
                    · have := HC9.out.2.1; rw [← HWL.out.2] at this; exact this
                    · rw [HC9.out.2.2.2.1, HWL.out.1]; first | done | simp
                  · have hs' : ((pre.length : Int) + 1 == stop) = false := by simp [hs]
                    have HWL := Aside0.mk (And.intro hk' hw')
                    clear hs hk' hw'
                    gi_wp2_with fail
                    refine ⟨HKF9.out.trans ((KeepsOthers.setCell _ _ _).from _), HC9.out.1, ⟨_, k', HC9.out.2.1, ⟨HWL.out.1, fun h => by simp at h⟩, HWL.out.2⟩, HC9.out.2.2.1, ?_, HC9.out.2.2.2.2⟩
                    rw [HC9.out.2.2.2.1]; simp
          case hQ10 =>
            intro a' W h
            exact h
          case fin10 =>
            intro W hZ hd
            have hIz : Inv w tv (some bx) (w6.heap.size :: []) next vn next W := ⟨⟨hZ.lw.t, hZ.lw.r, hZ.lw.x, hZ.lw.c, fun D hD => by
              rcases List.mem_cons.1 hD with rfl | hD
              · exact ⟨hd, by have := HZ6.out.2.1; omega⟩
              · exact hZ.lw.d D hD, hZ.lw.bl⟩, hZ.st⟩
            have HI := Aside0.mk hIz
            have cn : W.cell? ⟨w5.heap.size + 1, 0, none⟩ = some (.int .i64 (want.length : Int)) := by rw [cell_of_row _ _ 0 _ _ _ hZ.wn]; rfl
            have cwt : W.cell? ⟨w5.heap.size, 0, none⟩ = some (.slice Aw want.length cw) := by rw [cell_of_row _ _ 0 _ _ _ hZ.ww]; rfl
            have cx : W.cell? ⟨w.heap.size + 1 + 1 + 1 + 1, 0, none⟩ = some (.pointer (some ⟨w.heap.size + 1 + 1 + 1, 0, none⟩)) := by rw [cell_of_row _ _ 0 _ _ _ hZ.lw.x]; rfl
            have hnn : ((want.length : Int) != (want.length : Int)) = false := by simp
            obtain ⟨vi, Dm, hix⟩ := hZ.st.ixd
            have HIX := Aside0.mk hix
            have hvn := HVN.out
            subst hvn
            have HNL := Aside0.mk HWK.out.2
            clear hZ hd hIz hix HG HW5 HI5 HK5 HWK
            go_wp2_with fail
            refine (items_any W _ _ vi Dm next HIX.out (by have := HNL.out; have := HFL.out; omega)).mono ?_
            rintro e w7 ⟨v7, rfl, hR7, hb7⟩
            obtain ⟨A7, c7, rfl⟩ := Kd.R_slice hR7
            have HI7 := Aside0.mk (HI.out.below hb7)
            have HR7 := Aside0.mk hR7
            clear hR7 hb7 HI HIX cn cwt cx
            go_wp2_with fail
            refine (portageref0_SameTexts.calls (next.length + 1) A7 c7 next An cn0 next true w7 (Kd.R_reads' HR7.out).2.2 (Kd.R_reads' HR7.out).2.1 (Kd.R_reads' HI7.out.2.rr).2.2 (Kd.R_reads' HI7.out.2.rr).2.1 (same_f next _ (by have := HNL.out; have := HFL.out; omega) (by omega))).mono ?_
            rintro e wr ⟨rfl, hdr⟩
            have HI := Aside0.mk (HI7.out.below hdr.below)
            have HFL2 := Aside0.mk (show next.length ≤ 4194304 by have := HNL.out; have := HFL.out; omega)
            clear hdr HI7 HR7 hnn
            go_wp2_with fail
            obtain ⟨r2, hr2⟩ : ∃ r2, next = r2 := ⟨_, rfl⟩
            obtain ⟨D1, hD1⟩ : ∃ D1, w6.heap.size = D1 := ⟨_, rfl⟩
            rw [hr2, hD1] at HI
            rw [hr2] at HFL2
            have HZ0 := Aside0.mk (show w.heap.size ≤ D1 by have := HZ6.out.2.1; omega)
            rw [hr2, hD1]
            clear hr2 hD1 HFL HZ6 HZD HZ5 HNL HVN
            have HFL := HFL2
            clear HFL2
            rw [rounds_succ]
            have cs2 : wr.cell? ⟨w.heap.size, 2, none⟩ = some (.slice A3 l3.length c3) := by rw [cell_of_row _ _ 2 _ _ _ HI.out.1.t, HTV.out]; rfl
            have cs3 : wr.cell? ⟨w.heap.size, 3, none⟩ = some (.int .i64 stop) := by rw [cell_of_row _ _ 3 _ _ _ HI.out.1.t, HTV.out]; rfl
            go_wp2_with fail
            obtain ⟨want, next, hw, hnl⟩ := walk_ends (acts := l3) (stop := stop) (n0 := r2.length) (M := r2.length + r2.length) (by have := HFL.out; omega) (by have := HFL.out; omega) r2.length (2 * r2.length + (r2.length + r2.length) + 4) r2 [] (by simp) (Nat.le_refl _) (by omega)
            refine (portageref05_Walk.calls (2 * r2.length + (r2.length + r2.length) + 4) _ _ r2 A3 c3 l3 stop want next w wr HI.out.1.bl HI.out.2.rr (Kd.C_kept_came heap72 H3.out.1 HI.out.1.bl fun k hk => (own_lo HI.out.2.rr k hk).1) H3.out.2.2 hw).mono ?_
            rintro e w5 ⟨wv, vn, rfl, hRw, hRn, hb5, hk5⟩
            obtain ⟨Aw, cw, hv⟩ := Kd.R_slice hRw
            subst hv
            obtain ⟨An, cn0, hv⟩ := Kd.R_slice hRn
            have HVN := Aside0.mk hv
            clear hv
            have HK5 := Aside0.mk (HI.out.2.ref hRn hk5)
            have HI5 := Aside0.mk (show Lw w tv (some bx) [D1] w5 from HI.out.1.fr HK5.out.2 hb5)
            have HW5 := Aside0.mk (R78_self hRw)
            have HWK := Aside0.mk (And.intro hw hnl)
            clear hRw hRn hb5 hk5 HI cs2 cs3 hw hnl
            go_wp2_with fail
            obtain ⟨w6, hw6⟩ : ∃ w6, (w5.alloc (Obj.cells #[Value.slice Aw want.length cw] 74)).alloc (Obj.cells #[Value.int IntKind.i64 0] 3) = w6 := ⟨_, rfl⟩
            rw [hw6]
            have hb6 : Below w5.heap.size w5 w6 := by rw [← hw6]; exact ((Below.refl _ w5).alloc (Nat.le_refl _) _).alloc (by simp) _
            have hs6 : w6.heap.size = w5.heap.size + 2 := by rw [← hw6]; simp
            have hlw6 := HI5.out.fr (Fr.of_below hb6) (HI5.out.bl.trans (hb6.mono HI5.out.bl.size))
            have HG := Aside0.mk (show Rg w tv bx [D1] l3 stop r2.length w5.heap.size (w5.heap.size + 1) (.slice Aw want.length cw) vn want next (2 * r2.length + (r2.length + r2.length) + 4 + r2.length) [] w6 from
              ⟨hlw6, ⟨r2, _, HK5.out.1.below hb6, ⟨by omega, fun _ => rfl⟩, HWK.out.1⟩, by rw [← hw6]; exact (Below.heap_alloc _ _ _ (by simp)).trans (World.alloc_heap_new _ _), by rw [← hw6]; have := World.alloc_heap_new (w5.alloc (Obj.cells #[Value.slice Aw want.length cw] 74)) (Obj.cells #[Value.int IntKind.i64 0] 3); rwa [World.size_alloc] at this, Kd.R_below HW5.out hb6⟩)
            have z1 : w.heap.size + 5 ≤ w6.heap.size := by have := (Array.getElem?_eq_some_iff.1 hlw6.x).1; omega
            have z2 : bx < w6.heap.size := (Array.getElem?_eq_some_iff.1 (hlw6.c bx rfl).1).1
            have HZ6 := Aside0.mk (And.intro hs6 (And.intro z1 z2))
            have HZD := Aside0.mk (show ∀ D, D ∈ ([D1] : List Nat) → D < w6.heap.size from fun D hD => (Array.getElem?_eq_some_iff.1 (hlw6.d D hD).1).1)
            have HZ5 := Aside0.mk (show w.heap.size ≤ w5.heap.size from HI5.out.bl.size)
            clear hw6 hb6 hs6 hlw6 z1 z2
            refine (wpIn_wide (n := 5)).1 (wp_rf2 (n := 5) (id := 6) rfl (by omega) (gf := 52) (lb := #[.pointer (some ⟨bx, 0, none⟩)]) rfl trivial (enters_of Try.func52 (by kernel_rfl) rfl) (encs := enc2) (X := Nxt (w.heap.size + 1 + 1 + 1) (w.heap.size + 1 + 1) r2.length) (E := Ran (w.heap.size + 1 + 1 + 1) (w.heap.size + 1 + 1) r2.length)
              (Rg w tv bx [D1] l3 stop r2.length w5.heap.size (w5.heap.size + 1) (.slice Aw want.length cw) vn want next (2 * r2.length + (r2.length + r2.length) + 4 + r2.length)) (Rz w tv bx [D1] w5.heap.size (w5.heap.size + 1) (.slice Aw want.length cw) vn want next)
              (all_iter 4 (w.heap.size + 1 + 1 + 1) (w.heap.size + 1 + 1) bx r2.length (by omega) _ ?i120 ?i220) ?ps20
              (Rg.own HZ6.out.2.1 HZ6.out.2.2 HZD.out (by have := HZ6.out.1; omega) (by have := HZ6.out.1; omega)) (nxt_own (by have := HZ6.out.2.1; omega)) (ran_own (by have := HZ6.out.2.1; omega)) (Rz.own HZ6.out.2.1 HZ6.out.2.2 HZD.out (by have := HZ6.out.1; omega) (by have := HZ6.out.1; omega)) HG.out ?a120 ?assign20 ?body20 (fun pre W h he => h.over he) ?hQ20 ?fin20)
            case i120 =>
              intro pre W h
              obtain ⟨row, _, h1, _⟩ := h.st
              exact ⟨by rw [cell_of_row _ _ 0 _ _ _ (h.lw.c bx rfl).1]; rfl, row, h1.ixd⟩
            case i220 =>
              intro W h
              obtain ⟨row, _, h1, h2, _⟩ := h.st
              exact ⟨row, h1.ixd, h2.2 rfl⟩
            case ps20 => exact fun _ => rfl
            case assign20 =>
              intro l x W K hK
              gi_wp2
              exact hK
            case body20 =>
              rintro l pre ⟨x1, t⟩ W hI ⟨hx1, hlt, row', hix', ht⟩
              obtain ⟨row, k, hSt, ⟨hM, _⟩, hwalk⟩ := hI.st
              obtain rfl := hSt.ixd.unique hix'
              have hx1' : x1 = (pre.length : Int) := hx1
              subst hx1'
              obtain ⟨hwant, hcase⟩ := round_pre hM (by have := HFL.out; omega) hwalk hlt ht
              have hwl : pre.length < want.length := (List.getElem?_eq_some_iff.1 hwant).1
              obtain ⟨ad, e, q0, q1⟩ := cell_giv (Kd.R_reads' hI.wr).2.2 hwant
              subst e
              have cn : W.cell? ⟨w5.heap.size + 1, 0, none⟩ = some (.int .i64 (pre.length : Int)) := by rw [cell_of_row _ _ 0 _ _ _ hI.wn]; rfl
              have cwt : W.cell? ⟨w5.heap.size, 0, none⟩ = some (.slice (some ad) want.length cw) := by rw [cell_of_row _ _ 0 _ _ _ hI.ww]; rfl
              have cx : W.cell? ⟨w.heap.size + 1 + 1 + 1 + 1, 0, none⟩ = some (.pointer (some ⟨w.heap.size + 1 + 1 + 1, 0, none⟩)) := by rw [cell_of_row _ _ 0 _ _ _ hI.lw.x]; rfl
              have c4 : W.cell? ⟨w.heap.size, 4, none⟩ = some (.int .i64 other) := by rw [cell_of_row _ _ 4 _ _ _ hI.lw.t, HTV.out]; rfl
              have HI := Aside0.mk hI
              have HS := Aside0.mk (And.intro hSt (And.intro hM hcase))
              have w1' : decide ((want.length : Int) ≤ (pre.length : Int)) = false := decide_eq_false (by omega)
              have w2' : (pre.length : Int) < (want.length : Int) := by omega
              have w3' : ((pre.length : Int) != (pre.length : Int)) = false := by simp
              have w4' : (t.toList != t.toList) = false := by simp
              have HPL := Aside0.mk (show (pre.length : Int) ≤ 4194304 by have := HFL.out; have := hlt; omega)
              clear hI hSt hM hwalk hcase hix' hx1 hlt ht hwant hwl
              have hmix : Try.prog.follows .mixedOrders = true := by kernel_rfl
              gi_wp2_with fail
              by_cases ho : (pre.length : Int) = other
              · have ho' : ((pre.length : Int) == other) = true := by simp [ho]
                have HGN := Aside0.mk (gone_calls W.drew _ _ row (HS.out.1.ixd.below (below_drew (Below.refl _ _))))
                clear ho
                refine reg_cut ?A21 (fun w' => Below W.heap.size W w') ?reg21 ?rest21
                case reg21 =>
                  gi_region_with_o (first | ((first | (refine ⟨trivial, ?_⟩; gi_at_call 43) | gi_at_call 43); refine (CallsIn.inRound l (callsIn_wide.2 HGN.out)).mono ?_; rintro e w7 ⟨rfl, hb7⟩; have cx7 := (hb7.cell (p := ⟨w.heap.size + 1 + 1 + 1 + 1, 0, none⟩) (World.block_lt_of_cell? W _ cx)).trans cx; obtain ⟨vi7, D7, hix7⟩ := HS.out.1.ixd.below ((below_drew (Below.refl _ _)).trans hb7)) | ((first | (refine ⟨trivial, ?_⟩; gi_at_call 14) | gi_at_call 14); refine (CallsIn.inRound l (callsIn_wide.2 (len_any w7 _ _ vi7 D7 row hix7))).mono ?_; rintro e w9 ⟨rfl, rfl⟩; have hrr : ((row.length : Int) != (row.length : Int)) = false := by simp))
                  all_goals (refine ⟨?_, (below_drew (Below.refl _ _)).trans hb7⟩; exact rfl)
                case rest21 =>
                  intro w8 hb2
                  have HK2 := Aside0.mk (HI.out.keep (Fr.of_below hb2) (HI.out.lw.bl.trans (hb2.mono HI.out.lw.bl.size)))
                  have HS2 := Aside0.mk (HS.out.1.below hb2)
                  have HKF2 := Aside0.mk ((Fr.of_below (bm := w.heap.size + 1 + 1) hb2).from (B := w6.heap.size) (by have := HZ6.out.2.1; omega))
                  have cn2 : w8.cell? ⟨w5.heap.size + 1, 0, none⟩ = some (.int .i64 (pre.length : Int)) := by rw [cell_of_row _ _ 0 _ _ _ HK2.out.2.2.1]; rfl
                  have ci2 : w8.cell? ⟨w.heap.size, 2, none⟩ = some (.slice A3 l3.length c3) := by rw [cell_of_row _ _ 2 _ _ _ HK2.out.1.t, HTV.out]; rfl
                  have cx2 : w8.cell? ⟨w.heap.size + 1 + 1 + 1 + 1, 0, none⟩ = some (.pointer (some ⟨w.heap.size + 1 + 1 + 1, 0, none⟩)) := by rw [cell_of_row _ _ 0 _ _ _ HK2.out.1.x]; rfl
                  clear hb2 cn cwt cx c4 q0 q1 w1' w2' w3' w4' ho'
                  by_cases ha : pre.length < l3.length
                  · obtain ⟨u, hu⟩ : ∃ u, l3[pre.length]? = some u := ⟨_, List.getElem?_eq_getElem ha⟩
                    obtain ⟨ad3, e3, p0, p1, p2⟩ := cell_act (Kd.C_below H3.out.1 HK2.out.1.bl) hu
                    subst e3
                    have ha2 : (pre.length : Int) < (l3.length : Int) := by omega
                    have HU := Aside0.mk hu
                    have HAR := Aside0.mk (show actRow l3 row pre.length = doneRow row u by unfold actRow; rw [hu])
                    have HD := Aside0.mk (done_st w8.drew _ _ _ row next vn u (HS2.out.below (below_drew (Below.refl _ _))) (HK2.out.1.bl.size) (H3.out.2.1 u (List.mem_of_getElem? hu)) (by have := HS.out.2.1; have := HFL.out; omega))
                    clear hu
                    gi_wp2_with fail
                    refine reg_cut ?A22 (fun W' => St w.heap.size (w.heap.size + 1 + 1 + 1) (w.heap.size + 1 + 1) (doneRow row u) vn next W' ∧ Fr (w.heap.size + 1 + 1) w8.drew W' ∧ Below w.heap.size w8.drew W') ?reg22 ?rest22
                    case reg22 =>
                      gi_region_with_o ((first | (refine ⟨trivial, ?_⟩; gi_at_call 40) | gi_at_call 40); refine (CallsIn.inRound l (callsIn_wide.2 HD.out)).mono ?_; rintro e w9 ⟨rfl, hs9, hf9, hb9⟩)
                      all_goals (refine ⟨?_, hs9, hf9, hb9⟩; exact rfl)
                    case rest22 =>
                      rintro w9 ⟨hs9, hf9, hb9⟩
                      have HK9 := Aside0.mk (Rg.keep2 HK2.out HS2.out ((Fr.of_below (below_drew (Below.refl _ _))).trans hf9) ((show Below w.heap.size w w8.drew from HK2.out.1.bl.drew).trans hb9))
                      have HS9 := Aside0.mk (HAR.out.symm ▸ hs9)
                      have HKF9 := Aside0.mk (HKF2.out.trans (((Fr.of_below (bm := w.heap.size + 1 + 1) (below_drew (Below.refl w8.heap.size w8))).trans hf9).from (B := w6.heap.size) (by have := HZ6.out.2.1; omega)))
                      clear cn2 ci2 cx2 p0 p1 p2 hs9 hf9 hb9 ha2
                      have hpl := HPL.out
                      have cn9 : w9.cell? ⟨w5.heap.size + 1, 0, none⟩ = some (.int .i64 (pre.length : Int)) := by rw [cell_of_row _ _ 0 _ _ _ HK9.out.2.2.1]; rfl
                      have fn9 : w9.frozen? ⟨w5.heap.size + 1, 0, none⟩ = false := frozen_of_row w9 _ 0 _ _ HK9.out.2.2.1
                      have cs9 : w9.cell? ⟨w.heap.size, 3, none⟩ = some (.int .i64 stop) := by rw [cell_of_row _ _ 3 _ _ _ HK9.out.1.t, HTV.out]; rfl
                      have HC9 := Aside0.mk (kept_count (.int .i64 ((pre.length : Int) + 1)) HK9.out HS9.out (by have := HZ5.out; omega))
                      rcases HS.out.2.2 with ⟨hs, hwl, hnx⟩ | ⟨hs, k', hk', hw'⟩
                      · have hs' : ((pre.length : Int) + 1 == stop) = true := by simp [hs]
                        have HWL := Aside0.mk (And.intro hwl hnx)
                        clear hs hwl hnx
                        gi_wp2_with fail
                        refine ⟨HKF9.out.trans ((KeepsOthers.setCell _ _ _).from _), rfl, HC9.out.1, ?_, HC9.out.2.2.1, ?_, HC9.out.2.2.2.2⟩
                        · have := HC9.out.2.1; rw [← HWL.out.2] at this; exact this
                        · rw [HC9.out.2.2.2.1, HWL.out.1]; first | done | simp
                      · have hs' : ((pre.length : Int) + 1 == stop) = false := by simp [hs]
                        have HWL := Aside0.mk (And.intro hk' hw')
                        clear hs hk' hw'
                        gi_wp2_with fail
                        refine ⟨HKF9.out.trans ((KeepsOthers.setCell _ _ _).from _), HC9.out.1, ⟨_, k', HC9.out.2.1, ⟨HWL.out.1, fun h => by simp at h⟩, HWL.out.2⟩, HC9.out.2.2.1, ?_, HC9.out.2.2.2.2⟩
                        rw [HC9.out.2.2.2.1]; simp
                  · have ha2 : ¬ (pre.length : Int) < (l3.length : Int) := by omega
                    have HAR := Aside0.mk (show actRow l3 row pre.length = row by unfold actRow; rw [List.getElem?_eq_none (by omega)])
                    obtain ⟨w9, hw9⟩ : ∃ w9, w9 = w8 := ⟨_, rfl⟩
                    subst hw9
                    have HK9 := HK2
                    have HS9 := Aside0.mk (HAR.out.symm ▸ HS2.out)
                    have HKF9 := HKF2
                    have hpl := HPL.out
                    have cn9 : w9.cell? ⟨w5.heap.size + 1, 0, none⟩ = some (.int .i64 (pre.length : Int)) := by rw [cell_of_row _ _ 0 _ _ _ HK9.out.2.2.1]; rfl
                    have fn9 : w9.frozen? ⟨w5.heap.size + 1, 0, none⟩ = false := frozen_of_row w9 _ 0 _ _ HK9.out.2.2.1
                    have cs9 : w9.cell? ⟨w.heap.size, 3, none⟩ = some (.int .i64 stop) := by rw [cell_of_row _ _ 3 _ _ _ HK9.out.1.t, HTV.out]; rfl
                    have HC9 := Aside0.mk (kept_count (.int .i64 ((pre.length : Int) + 1)) HK9.out HS9.out (by have := HZ5.out; omega))
                    rcases HS.out.2.2 with ⟨hs, hwl, hnx⟩ | ⟨hs, k', hk', hw'⟩
                    · have hs' : ((pre.length : Int) + 1 == stop) = true := by simp [hs]
                      have HWL := Aside0.mk (And.intro hwl hnx)
                      clear hs hwl hnx
                      gi_wp2_with fail
                      refine ⟨HKF9.out.trans ((KeepsOthers.setCell _ _ _).from _), rfl, HC9.out.1, ?_, HC9.out.2.2.1, ?_, HC9.out.2.2.2.2⟩
                      · have := HC9.out.2.1; rw [← HWL.out.2] at this; exact this
                      · rw [HC9.out.2.2.2.1, HWL.out.1]; first | done | simp
                    · have hs' : ((pre.length : Int) + 1 == stop) = false := by simp [hs]
                      have HWL := Aside0.mk (And.intro hk' hw')
                      clear hs hk' hw'
                      gi_wp2_with fail
                      refine ⟨HKF9.out.trans ((KeepsOthers.setCell _ _ _).from _), HC9.out.1, ⟨_, k', HC9.out.2.1, ⟨HWL.out.1, fun h => by simp at h⟩, HWL.out.2⟩, HC9.out.2.2.1, ?_, HC9.out.2.2.2.2⟩
                      rw [HC9.out.2.2.2.1]; simp
              · have ho' : ((pre.length : Int) == other) = false := by simp [ho]
                clear ho
                refine reg_cut ?A23 (fun w' => Below W.heap.size W w') ?reg23 ?rest23
                case reg23 =>
                  gi_region_with_o (refine ⟨trivial, ?_⟩)
                  all_goals (refine ⟨?_, below_drew (Below.refl _ _)⟩; exact rfl)
                case rest23 =>
                  intro w8 hb2
                  have HK2 := Aside0.mk (HI.out.keep (Fr.of_below hb2) (HI.out.lw.bl.trans (hb2.mono HI.out.lw.bl.size)))
                  have HS2 := Aside0.mk (HS.out.1.below hb2)
                  have HKF2 := Aside0.mk ((Fr.of_below (bm := w.heap.size + 1 + 1) hb2).from (B := w6.heap.size) (by have := HZ6.out.2.1; omega))
                  have cn2 : w8.cell? ⟨w5.heap.size + 1, 0, none⟩ = some (.int .i64 (pre.length : Int)) := by rw [cell_of_row _ _ 0 _ _ _ HK2.out.2.2.1]; rfl
                  have ci2 : w8.cell? ⟨w.heap.size, 2, none⟩ = some (.slice A3 l3.length c3) := by rw [cell_of_row _ _ 2 _ _ _ HK2.out.1.t, HTV.out]; rfl
                  have cx2 : w8.cell? ⟨w.heap.size + 1 + 1 + 1 + 1, 0, none⟩ = some (.pointer (some ⟨w.heap.size + 1 + 1 + 1, 0, none⟩)) := by rw [cell_of_row _ _ 0 _ _ _ HK2.out.1.x]; rfl
                  clear hb2 cn cwt cx c4 q0 q1 w1' w2' w3' w4' ho'
                  by_cases ha : pre.length < l3.length
                  · obtain ⟨u, hu⟩ : ∃ u, l3[pre.length]? = some u := ⟨_, List.getElem?_eq_getElem ha⟩
                    obtain ⟨ad3, e3, p0, p1, p2⟩ := cell_act (Kd.C_below H3.out.1 HK2.out.1.bl) hu
                    subst e3
                    have ha2 : (pre.length : Int) < (l3.length : Int) := by omega
                    have HU := Aside0.mk hu
                    have HAR := Aside0.mk (show actRow l3 row pre.length = doneRow row u by unfold actRow; rw [hu])
                    have HD := Aside0.mk (done_st w8.drew _ _ _ row next vn u (HS2.out.below (below_drew (Below.refl _ _))) (HK2.out.1.bl.size) (H3.out.2.1 u (List.mem_of_getElem? hu)) (by have := HS.out.2.1; have := HFL.out; omega))
                    clear hu
                    gi_wp2_with fail
                    refine reg_cut ?A24 (fun W' => St w.heap.size (w.heap.size + 1 + 1 + 1) (w.heap.size + 1 + 1) (doneRow row u) vn next W' ∧ Fr (w.heap.size + 1 + 1) w8.drew W' ∧ Below w.heap.size w8.drew W') ?reg24 ?rest24
                    case reg24 =>
                      gi_region_with_o ((first | (refine ⟨trivial, ?_⟩; gi_at_call 40) | gi_at_call 40); refine (CallsIn.inRound l (callsIn_wide.2 HD.out)).mono ?_; rintro e w9 ⟨rfl, hs9, hf9, hb9⟩)
                      all_goals (refine ⟨?_, hs9, hf9, hb9⟩; exact rfl)
                    case rest24 =>
                      rintro w9 ⟨hs9, hf9, hb9⟩
                      have HK9 := Aside0.mk (Rg.keep2 HK2.out HS2.out ((Fr.of_below (below_drew (Below.refl _ _))).trans hf9) ((show Below w.heap.size w w8.drew from HK2.out.1.bl.drew).trans hb9))
                      have HS9 := Aside0.mk (HAR.out.symm ▸ hs9)
                      have HKF9 := Aside0.mk (HKF2.out.trans (((Fr.of_below (bm := w.heap.size + 1 + 1) (below_drew (Below.refl w8.heap.size w8))).trans hf9).from (B := w6.heap.size) (by have := HZ6.out.2.1; omega)))
                      clear cn2 ci2 cx2 p0 p1 p2 hs9 hf9 hb9 ha2
                      have hpl := HPL.out
                      have cn9 : w9.cell? ⟨w5.heap.size + 1, 0, none⟩ = some (.int .i64 (pre.length : Int)) := by rw [cell_of_row _ _ 0 _ _ _ HK9.out.2.2.1]; rfl
                      have fn9 : w9.frozen? ⟨w5.heap.size + 1, 0, none⟩ = false := frozen_of_row w9 _ 0 _ _ HK9.out.2.2.1
                      have cs9 : w9.cell? ⟨w.heap.size, 3, none⟩ = some (.int .i64 stop) := by rw [cell_of_row _ _ 3 _ _ _ HK9.out.1.t, HTV.out]; rfl
                      have HC9 := Aside0.mk (kept_count (.int .i64 ((pre.length : Int) + 1)) HK9.out HS9.out (by have := HZ5.out; omega))
                      rcases HS.out.2.2 with ⟨hs, hwl, hnx⟩ | ⟨hs, k', hk', hw'⟩
                      · have hs' : ((pre.length : Int) + 1 == stop) = true := by simp [hs]
                        have HWL := Aside0.mk (And.intro hwl hnx)
                        clear hs hwl hnx
                        gi_wp2_with fail
                        refine ⟨HKF9.out.trans ((KeepsOthers.setCell _ _ _).from _), rfl, HC9.out.1, ?_, HC9.out.2.2.1, ?_, HC9.out.2.2.2.2⟩
                        · have := HC9.out.2.1; rw [← HWL.out.2] at this; exact this
                        · rw [HC9.out.2.2.2.1, HWL.out.1]; first | done | simp
                      · have hs' : ((pre.length : Int) + 1 == stop) = false := by simp [hs]
                        have HWL := Aside0.mk (And.intro hk' hw')
                        clear hs hk' hw'
                        gi_wp2_with fail
                        refine ⟨HKF9.out.trans ((KeepsOthers.setCell _ _ _).from _), HC9.out.1, ⟨_, k', HC9.out.2.1, ⟨HWL.out.1, fun h => by simp at h⟩, HWL.out.2⟩, HC9.out.2.2.1, ?_, HC9.out.2.2.2.2⟩
                        rw [HC9.out.2.2.2.1]; simp
                  · have ha2 : ¬ (pre.length : Int) < (l3.length : Int) := by omega
                    have HAR := Aside0.mk (show actRow l3 row pre.length = row by unfold actRow; rw [List.getElem?_eq_none (by omega)])
                    obtain ⟨w9, hw9⟩ : ∃ w9, w9 = w8 := ⟨_, rfl⟩
                    subst hw9
                    have HK9 := HK2
                    have HS9 := Aside0.mk (HAR.out.symm ▸ HS2.out)
                    have HKF9 := HKF2
                    have hpl := HPL.out
                    have cn9 : w9.cell? ⟨w5.heap.size + 1, 0, none⟩ = some (.int .i64 (pre.length : Int)) := by rw [cell_of_row _ _ 0 _ _ _ HK9.out.2.2.1]; rfl
                    have fn9 : w9.frozen? ⟨w5.heap.size + 1, 0, none⟩ = false := frozen_of_row w9 _ 0 _ _ HK9.out.2.2.1
                    have cs9 : w9.cell? ⟨w.heap.size, 3, none⟩ = some (.int .i64 stop) := by rw [cell_of_row _ _ 3 _ _ _ HK9.out.1.t, HTV.out]; rfl
                    have HC9 := Aside0.mk (kept_count (.int .i64 ((pre.length : Int) + 1)) HK9.out HS9.out (by have := HZ5.out; omega))
                    rcases HS.out.2.2 with ⟨hs, hwl, hnx⟩ | ⟨hs, k', hk', hw'⟩
                    · have hs' : ((pre.length : Int) + 1 == stop) = true := by simp [hs]
                      have HWL := Aside0.mk (And.intro hwl hnx)
                      clear hs hwl hnx
                      gi_wp2_with fail
                      refine ⟨HKF9.out.trans ((KeepsOthers.setCell _ _ _).from _), rfl, HC9.out.1, ?_, HC9.out.2.2.1, ?_, HC9.out.2.2.2.2⟩
                      · have := HC9.out.2.1; rw [← HWL.out.2] at this; exact this
                      · rw [HC9.out.2.2.2.1, HWL.out.1]; first | done | simp
                    · have hs' : ((pre.length : Int) + 1 == stop) = false := by simp [hs]
                      have HWL := Aside0.mk (And.intro hk' hw')
                      clear hs hk' hw'
                      gi_wp2_with fail
                      refine ⟨HKF9.out.trans ((KeepsOthers.setCell _ _ _).from _), HC9.out.1, ⟨_, k', HC9.out.2.1, ⟨HWL.out.1, fun h => by simp at h⟩, HWL.out.2⟩, HC9.out.2.2.1, ?_, HC9.out.2.2.2.2⟩
                      rw [HC9.out.2.2.2.1]; simp
            case hQ20 =>
              intro a' W h
              exact h
            case fin20 =>
              intro W hZ hd
              have hIz : Inv w tv (some bx) (w6.heap.size :: [D1]) next vn next W := ⟨⟨hZ.lw.t, hZ.lw.r, hZ.lw.x, hZ.lw.c, fun D hD => by
                rcases List.mem_cons.1 hD with rfl | hD
                · exact ⟨hd, by have := HZ6.out.2.1; omega⟩
                · exact hZ.lw.d D hD, hZ.lw.bl⟩, hZ.st⟩
              have HI := Aside0.mk hIz
              have cn : W.cell? ⟨w5.heap.size + 1, 0, none⟩ = some (.int .i64 (want.length : Int)) := by rw [cell_of_row _ _ 0 _ _ _ hZ.wn]; rfl
              have cwt : W.cell? ⟨w5.heap.size, 0, none⟩ = some (.slice Aw want.length cw) := by rw [cell_of_row _ _ 0 _ _ _ hZ.ww]; rfl
              have cx : W.cell? ⟨w.heap.size + 1 + 1 + 1 + 1, 0, none⟩ = some (.pointer (some ⟨w.heap.size + 1 + 1 + 1, 0, none⟩)) := by rw [cell_of_row _ _ 0 _ _ _ hZ.lw.x]; rfl
              have hnn : ((want.length : Int) != (want.length : Int)) = false := by simp
              obtain ⟨vi, Dm, hix⟩ := hZ.st.ixd
              have HIX := Aside0.mk hix
              have hvn := HVN.out
              subst hvn
              have HNL := Aside0.mk HWK.out.2
              clear hZ hd hIz hix HG HW5 HI5 HK5 HWK
              go_wp2_with fail
              refine (items_any W _ _ vi Dm next HIX.out (by have := HNL.out; have := HFL.out; omega)).mono ?_
              rintro e w7 ⟨v7, rfl, hR7, hb7⟩
              obtain ⟨A7, c7, rfl⟩ := Kd.R_slice hR7
              have HI7 := Aside0.mk (HI.out.below hb7)
              have HR7 := Aside0.mk hR7
              clear hR7 hb7 HI HIX cn cwt cx
              go_wp2_with fail
              refine (portageref0_SameTexts.calls (next.length + 1) A7 c7 next An cn0 next true w7 (Kd.R_reads' HR7.out).2.2 (Kd.R_reads' HR7.out).2.1 (Kd.R_reads' HI7.out.2.rr).2.2 (Kd.R_reads' HI7.out.2.rr).2.1 (same_f next _ (by have := HNL.out; have := HFL.out; omega) (by omega))).mono ?_
              rintro e wr ⟨rfl, hdr⟩
              have HI := Aside0.mk (HI7.out.below hdr.below)
              have HFL2 := Aside0.mk (show next.length ≤ 8388608 by have := HNL.out; have := HFL.out; omega)
              clear hdr HI7 HR7 hnn
              go_wp2_with fail
              rw [rounds_succ]
              have crr : wr.cell? ⟨w.heap.size + 1, 0, none⟩ = some (.bool false) := by rw [cell_of_row _ _ 0 _ _ _ HI.out.1.r]; rfl
              have frr : wr.frozen? ⟨w.heap.size + 1, 0, none⟩ = false := frozen_of_row wr _ 0 _ _ HI.out.1.r
              have HD2 := Aside0.mk (HI.out.1.d w6.heap.size (by simp)).1
              have HD1 := Aside0.mk (HI.out.1.d D1 (by simp)).1
              have HNE := Aside0.mk (show D1 ≠ w6.heap.size by have := HZD.out D1 (by simp); omega)
              go_wp2_with fail
              have k2 := (KeepsOthers.setCell wr ⟨w.heap.size + 1, 0, none⟩ (.bool true)).same _ _ HD2.out rfl
              have k1 := (KeepsOthers.setCell wr ⟨w.heap.size + 1, 0, none⟩ (.bool true)).same _ _ HD1.out rfl
              have hsz : w.heap.size ≤ w6.heap.size ∧ w.heap.size ≤ D1 := by
                have h1 := HZ6.out.2.1
                have h3 := HI.out.1.bl
                have h4 : ¬ D1 < w.heap.size := fun hlt => by
                  have := HZ0.out
                  omega
                omega
              obtain ⟨wz, hwz⟩ : ∃ wz, (wr.setCell ⟨w.heap.size + 1, 0, none⟩ (.bool true)).putObj w6.heap.size (.deferred none) = wz := ⟨_, rfl⟩
              have k3 : wz.heap[D1]? = some (.deferred (some [])) := by rw [← hwz]; exact (World.putObj_heap_other HNE.out).trans k1
              refine ⟨by simp, .inl ⟨_, _, rfl, run_takeDeferred k2, by simp, .inl ⟨_, _, rfl, run_takeDeferred (by rw [hwz]; exact k3), ?_⟩⟩⟩
              rw [hwz]
              have c1 := cell_kept (World.cell?_setCell_same' wr ⟨w.heap.size + 1, 0, none⟩ (.bool true) (by rw [crr]; rfl)) (grownBy_putObj' _ w6.heap.size (.deferred none)) (fun r e => by cases e; exact ⟨_, k2, rfl⟩)
              rw [hwz] at c1
              have hc5 := cell_kept c1 (grownBy_putObj' wz D1 (.deferred none)) (fun r e => by cases e; exact ⟨_, k3, rfl⟩)
              have hbz : Below w.heap.size w wz := by rw [← hwz]; exact (HI.out.1.bl.setCell (p := ⟨w.heap.size + 1, 0, none⟩) (by simp) _).trans (belowK_b (w := w) (Nat.le_refl _) _ _ _ _ hsz.1 k2 rfl rfl)
              refine ⟨.bool true, ?_, rfl, hbz.trans (belowK_b (w := w) (Nat.le_refl _) _ _ _ _ hsz.2 k3 rfl rfl)⟩
              simp [results, Try.f8, go_sem, hc5]
end Go.Proofs.Ytijmhegccakndaa
