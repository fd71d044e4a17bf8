/-
  The walk of InternOrder, out of its callees' contracts.
-/
import Derived.Test.YtijmhegccakndaaOne
namespace Go.Proofs.Ytijmhegccakndaa
open Go.RowKit Go.Maps Go.WideMaps
open Go.Proofs.YtijmhegccakndaaW.PrintWords Go.Proofs.YtijmhegccakndaaW.PrintMore

theorem below_drawn {w0 w : World} {B : Nat} (h : Below B w0 w) (n : Nat) : Below B w0 (w.drewN n) := ⟨h.os, h.tape, h.output, h.size, h.block⟩

theorem num_le (l : List ByteArray) (t : ByteArray) : num l t ≤ l.length := by
  unfold num
  have := length_rowOf (l.take (posOf l t))
  have h2 := List.length_take_le (posOf l t) l
  have := List.length_take_le' (posOf l t) l
  omega

set_option maxRecDepth 100000 in
set_option maxHeartbeats 1000000 in
theorem order_walk (A : Option Addr) (c : Nat) (l : List ByteArray) (w : World) (HR : Kd.string.C w A l.length l) (hc : l.length ≤ c) (hn : l.length * 16 ≤ 140737488351232) (hs : ∀ t, t ∈ l → t.size ≤ maxLen) :
    Calls Try.prog 3 #[.slice A l.length c] w fun e w' => e = .returned (.bool true) ∧ Below w.heap.size w w' := by
  have HR0 := Aside0.mk HR
  have HN := Aside0.mk hn
  have HS := Aside0.mk hs
  have hm : l.length ≤ 8796093022208 := by omega
  have HC := Aside0.mk hc
  clear HR hn hs hc
  go_enter Try.func3, Try.ntmps3
  go_wp2_with fail
  refine (new_at w).mono ?_
  rintro e w1 ⟨b, rfl, hat1, hbel1⟩
  have HA1 := Aside0.mk hat1
  have HB1 := Aside0.mk hbel1
  clear hat1 hbel1
  go_wp2_with fail
  go_loopw [4, 5, 6] (fun m i _ wr => ∃ k : Nat, i = .int .i64 (k : Int) ∧ k ≤ l.length ∧ m = .int .i64 ((rowOf (l.take k)).length : Int) ∧ Aside0 (At wr w.heap.size b (rowOf (l.take k))) ∧ Aside0 (Below w.heap.size w wr)) (fun _ i _ _ => l.length - (intOf i).toNat)
  case atStart => exact ⟨0, rfl, Nat.zero_le _, rfl, HA1, HB1⟩
  case round =>
    obtain ⟨k, rfl, hk, rfl, HA, HB⟩ := hrel
    by_cases hlt : k < l.length
    · obtain ⟨u, hu⟩ : ∃ u, l[k]? = some u := ⟨_, List.getElem?_eq_getElem hlt⟩
      have HRr := Aside0.mk (Kd.C_below HR0.out HB.out)
      obtain ⟨ad, e, hxu⟩ := cell_str HRr.out hu
      subst e
      have hl2 : (k : Int) < (l.length : Int) := by omega
      have HU := Aside0.mk hu
      clear hu
      have hnum := num_le l u
      go_wp2_with fail
      refine (ahead_ref (some ad) c l k u _ HRr.out HC.out HU.out).mono ?_
      rintro e w2 ⟨rfl, ⟨n2, rfl⟩⟩
      go_wp2_with fail
      refine (add_at _ w.heap.size b (rowOf (l.take k)) u ((HA.out).drewN _) HB.out.size (HS.out u (List.mem_of_getElem? HU.out)) (by have := length_rowOf (l.take k); have := HN.out; rw [List.length_take] at *; omega)).mono ?_
      rintro e w3 ⟨he, hat3, hb3⟩
      rw [add_num HU.out] at he
      subst he
      have HA3 := Aside0.mk (show At w3 w.heap.size b (rowOf (l.take (k + 1))) by rw [rowOf_take_succ HU.out]; exact hat3)
      have HB3 := Aside0.mk (show Below w.heap.size w w3 from (below_drawn HB.out _).trans hb3)
      clear hat3 hb3
      have HL := Aside0.mk (add_length HU.out)
      by_cases hlen : (rowOf (l.take k)).length < num l u + 1
      · have HL2 := Aside0.mk (show (rowOf (l.take (k + 1))).length = num l u + 1 by rw [HL.out, if_pos hlen])
        have hd : decide (((rowOf (l.take k)).length : Int) < (num l u : Int) + 1) = true := by simp; omega
        clear hlen
        go_wp2_with fail
        go_roundw
        case rel => exact ⟨k + 1, by go_num, by omega, by rw [HL2.out]; go_num, HA3, HB3⟩
        case measure => simp [intOf]; omega
      · have HL2 := Aside0.mk (show (rowOf (l.take (k + 1))).length = (rowOf (l.take k)).length by rw [HL.out, if_neg hlen])
        have hd : decide (((rowOf (l.take k)).length : Int) < (num l u : Int) + 1) = false := by simp; omega
        clear hlen
        go_wp2_with fail
        go_roundw
        case rel => exact ⟨k + 1, by go_num, by omega, by rw [HL2.out], HA3, HB3⟩
        case measure => simp [intOf]; omega
    · have hl2 : ¬ (k : Int) < (l.length : Int) := by omega
      have HA9 := Aside0.mk (show At wr w.heap.size b (rowOf l) by have := HA.out; rwa [List.take_of_length_le (by omega)] at this)
      have HK := Aside0.mk (show rowOf (l.take k) = rowOf l by rw [List.take_of_length_le (by omega)])
      rw [HK.out]
      have HLR := Aside0.mk (length_rowOf l)
      go_wp2_with fail
      refine (items_at _ w.heap.size b (rowOf l) HA9.out (by have := HLR.out; have := HN.out; omega)).mono ?_
      rintro e w3 ⟨v3, rfl, hR3, hb3⟩
      obtain ⟨A3, c3, rfl, hc3, hC3⟩ := Kd.R_reads hR3
      have HC3 := Aside0.mk hC3
      have HA3 := Aside0.mk (HA9.out.below hb3)
      have HB3 := Aside0.mk (show Below w.heap.size w w3 from HB.out.trans (hb3.mono HB.out.size))
      clear hR3 hb3 hC3 hc3
      go_wp2_with fail
      refine (len_at _ w.heap.size b (rowOf l) HA3.out).mono ?_
      rintro e w4 ⟨rfl, rfl⟩
      go_wp2_with fail
      clear HA HB HA9
      go_loopw [8] (fun i wr2 => ∃ j : Nat, i = .int .i64 (j : Int) ∧ j ≤ l.length ∧ Drawn0 w3 wr2) (fun i _ => l.length - (intOf i).toNat)
      case atStart => exact ⟨0, rfl, Nat.zero_le _, Drawn0.refl _⟩
      case round =>
        obtain ⟨j, rfl, hj, ⟨m0, rfl⟩⟩ := hrel
        by_cases hjl : j < l.length
        · obtain ⟨u, hu⟩ : ∃ u, l[j]? = some u := ⟨_, List.getElem?_eq_getElem hjl⟩
          have HRr := Aside0.mk (Kd.C_below HR0.out HB3.out)
          obtain ⟨ad, e, hxu⟩ := cell_str HRr.out hu
          subst e
          have hl3 : (j : Int) < (l.length : Int) := by omega
          have hmem := List.mem_of_getElem? hu
          have hget := num_get (k := l.length) (posOf_lt hmem) hmem
          rw [List.take_length] at hget
          obtain ⟨ad3, e3, hx3⟩ := cell_str HC3.out hget
          subst e3
          have hnl := (List.getElem?_eq_some_iff.1 hget).1
          have hl4 : (num l u : Int) < ((rowOf l).length : Int) := by omega
          have hU2 : (u.toList != u.toList) = false := by simp
          have HU := Aside0.mk hu
          have HG := Aside0.mk hget
          have hsz := Aside0.mk (HS.out u hmem)
          have hmr : u ∈ rowOf l := (mem_rowOf l u).2 hmem
          have hfb := Aside0.mk (fB_yes hmr)
          have hfn := Aside0.mk (show fN (rowOf l) u = (num l u : Int) by rw [fN_yes hmr, show posOf (rowOf l) u = num l u from idxOf_unique (nodup_rowOf l) hget])
          clear hu hget hnl hmem hmr
          go_wp2_with fail
          refine (ahead_ref (some ad) c l j u _ (Kd.C_drewN HRr.out _) HC.out HU.out).mono ?_
          rintro e w5 ⟨rfl, ⟨n2, rfl⟩⟩
          go_wp2_with fail
          refine (find_at _ w.heap.size b (rowOf l) u ((HA3.out.drewN _)) hsz.out).mono ?_
          rintro e w6 ⟨he, rfl⟩
          rw [hfb.out, hfn.out] at he
          subst he
          go_wp2_with fail
          repeat (go_quiet (fail); try go_wp2)
          go_roundw
          case rel => exact ⟨j + 1, by go_num, by omega, ⟨⟨_, rfl⟩⟩⟩
          case measure => simp [intOf]; omega
        · have hl3 : ¬ (j : Int) < (l.length : Int) := by omega
          go_wp2_with fail
          go_ret
          exact ⟨rfl, below_drawn HB3.out _⟩
end Go.Proofs.Ytijmhegccakndaa
