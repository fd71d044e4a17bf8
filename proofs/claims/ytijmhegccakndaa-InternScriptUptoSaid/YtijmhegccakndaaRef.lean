/-
  The reference's Find and Ahead, and the index's Add and Find in one word each.
-/
import Derived.Test.YtijmhegccakndaaIdxAdd
import Derived.Test.YtijmhegccakndaaPlain
import Derived.Deep.LoopGhost
import Derived.Outline
namespace Go.Proofs.Ytijmhegccakndaa
open Go.RowKit Go.Maps Go.WideMaps
open Go.Proofs.YtijmhegccakndaaW.PrintWords Go.Proofs.YtijmhegccakndaaW.PrintMore

theorem Drawn0.then {a b c : World} (h : Drawn0 a b) (k : Drawn0 b c) : Drawn0 a c := by
  obtain ⟨n, rfl⟩ := h; obtain ⟨m, rfl⟩ := k
  exact ⟨⟨n + m, by rw [World.drewN_drewN]⟩⟩

theorem toList_eq {a b : ByteArray} : (a.toList == b.toList) = decide (a = b) := by
  rw [Bool.eq_iff_iff]
  simp only [beq_iff_eq, decide_eq_true_eq, ByteArray.toList_eq]
  exact ⟨fun h => ByteArray.ext (Array.toList_inj.mp h), fun h => by rw [h]⟩

theorem rd_get (l : List ByteArray) (k : Nat) (t : ByteArray) (h : l[k]? = some t) : rdOf ByteArray.empty l (k : Int) = t := by
  simp [rdOf, List.getD_eq_getElem?_getD, h]

/-- the cell of an element that is there -/
theorem cell_str {w : World} {A : Option Addr} {l : List ByteArray} (HR : Kd.string.C w A l.length l) {k : Nat} {t : ByteArray} (h : l[k]? = some t) : ∃ ad, A = some ad ∧ w.cell? (ad.add k) = some (.string t) := by
  have hlt : k < l.length := (List.getElem?_eq_some_iff.1 h).1
  obtain ⟨ad, e, hx⟩ := Kd.at_string HR (k : Int) (by omega) (by omega)
  refine ⟨ad, e, ?_⟩
  rw [rd_get l k t h] at hx
  simpa using hx

/-- what Find answers: the place, or 0; and whether it is there -/
def fN (l : List ByteArray) (t : ByteArray) : Int := if t ∈ l then (posOf l t : Int) else 0
def fB (l : List ByteArray) (t : ByteArray) : Bool := decide (t ∈ l)
theorem fN_yes {l : List ByteArray} {t : ByteArray} (h : t ∈ l) : fN l t = (posOf l t : Int) := if_pos h
theorem fN_no {l : List ByteArray} {t : ByteArray} (h : ¬ t ∈ l) : fN l t = 0 := if_neg h
theorem fB_yes {l : List ByteArray} {t : ByteArray} (h : t ∈ l) : fB l t = true := decide_eq_true h
theorem fB_no {l : List ByteArray} {t : ByteArray} (h : ¬ t ∈ l) : fB l t = false := decide_eq_false h

theorem ret_two {k k' : Int} {b b' : Bool} (h : k = k') (g : b = b') : Ending.returned (.tuple #[.int .i64 k, .bool b]) = .returned (.tuple #[.int .i64 k', .bool b']) := by rw [h, g]

set_option maxRecDepth 100000 in
theorem find_ref (A : Option Addr) (c : Nat) (l : List ByteArray) (t : ByteArray) (w : World) (HR : Kd.string.C w A l.length l) :
    Calls Try.prog 51 #[.slice A l.length c, .string t] w fun e w' => e = .returned (.tuple #[.int .i64 (fN l t), .bool (fB l t)]) ∧ w = w' := by
  have HR0 := Aside0.mk HR
  have HM := Aside0.mk (Kd.C_max HR)
  clear HR
  go_enter Try.func51, Try.ntmps51
  go_wp2
  go_loop [6] (fun i => ∃ k : Nat, i = .int .i64 (k : Int) ∧ k ≤ l.length ∧ Aside0 (∀ j, j < k → l[j]? ≠ some t)) (fun i => l.length - (intOf i).toNat)
  case atStart => exact ⟨0, rfl, Nat.zero_le _, ⟨fun j hj => absurd hj (by omega)⟩⟩
  case round =>
    obtain ⟨k, rfl, hk, hf⟩ := hrel
    have hm := HM.out
    by_cases hlt : k < l.length
    · obtain ⟨u, hu⟩ : ∃ u, l[k]? = some u := ⟨_, List.getElem?_eq_getElem hlt⟩
      obtain ⟨ad, e, hx⟩ := cell_str HR0.out hu
      subst e
      have hu' := Aside0.mk hu
      clear hu
      have hl2 : (k : Int) < (l.length : Int) := by omega
      by_cases he : u = t
      · subst he
        have ht : (u.toList == u.toList) = true := by simp
        go_wp2
        go_ret2
        exact ⟨ret_two (by rw [fN_yes (List.mem_of_getElem? hu'.out), show posOf l u = k from idxOf_of hu'.out hf.out]) (fB_yes (List.mem_of_getElem? hu'.out)).symm, rfl⟩
      · have ht : (u.toList == t.toList) = false := by rw [toList_eq]; exact decide_eq_false he
        have he' := Aside0.mk he
        clear he
        go_wp2
        go_round
        case rel => exact ⟨k + 1, by go_num, by omega, ⟨fun j hj e => by
          rcases Nat.lt_or_ge j k with h1 | h1
          · exact hf.out j h1 e
          · obtain rfl : j = k := by omega
            rw [hu'.out] at e
            exact he'.out (Option.some.inj e)⟩⟩
        case measure => simp [intOf]; omega
    · go_wp2
      go_ret2
      have hn : ¬ t ∈ l := by
        have := not_mem_take (l := l) (t := t) (k := k) hf.out
        rwa [List.take_of_length_le (by omega)] at this
      exact ⟨ret_two (fN_no hn).symm (fB_no hn).symm, rfl⟩
theorem find_ref' (A : Option Addr) (c n : Nat) (l : List ByteArray) (t : ByteArray) (w : World) (hn : l.length = n) (HR : Kd.string.C w A n l) :
    Calls Try.prog 51 #[.slice A n c, .string t] w fun e w' => e = .returned (.tuple #[.int .i64 (fN l t), .bool (fB l t)]) ∧ w' = w := by
  subst hn
  exact (find_ref A c l t w HR).mono fun e w' h => ⟨h.1, h.2.symm⟩

theorem find_ref_b (A : Option Addr) (c n : Nat) (l : List ByteArray) (t : ByteArray) (b : Bool) (w : World) (hn : l.length = n) (HR : Kd.string.C w A n l) (hb : fB l t = b) :
    Calls Try.prog 51 #[.slice A n c, .string t] w fun e w' => e = .returned (.tuple #[.int .i64 (fN l t), .bool b]) ∧ w' = w := by
  subst hb
  exact find_ref' A c n l t w hn HR

/-- as Calls.quiet_of_same, where draws stand ahead of the region -/
theorem quiet_same {P : Program} {f : FuncId} {args : Array Value} {w : World} {m n : Nat} {v : Value}
    (h : Calls P f args (w.drewN (m + n)) fun e w' => e = .returned v ∧ w' = w.drewN (m + n)) : Calls P f args (w.drewN (m + n)) fun e w'' => e = .returned v ∧ ∃ q, w'' = w.drewN (m + q) :=
  h.mono fun _ _ ⟨he, hm⟩ => ⟨he, n, hm⟩

theorem num_step_new {l : List ByteArray} {k : Nat} {u : ByteArray} (hu : l[k]? = some u) (hn : ¬ u ∈ l.take k) : (rowOf (l.take (k + 1))).length = (rowOf (l.take k)).length + 1 := by
  rw [rowOf_take_succ hu]
  unfold rowAdd
  rw [if_neg (by rw [mem_rowOf]; exact hn)]
  simp
theorem num_step_old {l : List ByteArray} {k : Nat} {u : ByteArray} (hu : l[k]? = some u) (hn : u ∈ l.take k) : (rowOf (l.take (k + 1))).length = (rowOf (l.take k)).length := by
  rw [rowOf_take_succ hu]
  unfold rowAdd
  rw [if_pos (by rw [mem_rowOf]; exact hn)]

set_option maxRecDepth 100000 in
theorem ahead_ref (A : Option Addr) (c : Nat) (l : List ByteArray) (k : Nat) (t : ByteArray) (w : World) (HR : Kd.string.C w A l.length l) (hc : l.length ≤ c) (ht : l[k]? = some t) :
    Calls Try.prog 11 #[.slice A l.length c, .int .i64 (k : Int)] w fun e w' => e = .returned (.int .i64 (num l t : Int)) ∧ Drawn0 w w' := by
  have hklt : k < l.length := (List.getElem?_eq_some_iff.1 ht).1
  obtain ⟨ad, rfl, hx⟩ := cell_str HR ht
  have HR0 := Aside0.mk HR
  have HM := Aside0.mk (Kd.C_max HR)
  have HT := Aside0.mk ht
  have hm := HM.out
  obtain ⟨i9, hi9, hz0, hz1, hz2⟩ := info_parts info9
  have HC := Aside0.mk (fun (j : Nat) (hj : j ≤ l.length) => cut_to (P := Try.prog) 22 9 .i64 Try.underlying22 hi9 (some ad) l.length c (j : Int) (by omega) (by omega) hc)
  have HS := Aside0.mk hz1
  clear HR ht hc hz0 hz1 hz2
  go_enter Try.func11, Try.ntmps11
  go_wp2
  go_loopw [5, 6, 7, 8] (fun n i _ _ w' => ∃ j : Nat, i = .int .i64 (j : Int) ∧ j ≤ k ∧ n = .int .i64 ((rowOf (l.take j)).length : Int) ∧ Aside0 (∀ q, q < j → l[q]? ≠ some t) ∧ Drawn0 w w') (fun _ i _ _ _ => k - (intOf i).toNat)
  case atStart => exact ⟨0, rfl, Nat.zero_le _, rfl, ⟨fun q hq => absurd hq (by omega)⟩, Drawn0.refl _⟩
  case round =>
    obtain ⟨j, rfl, hj, rfl, hf, ⟨m0, rfl⟩⟩ := hrel
    by_cases hlt : j < k
    · obtain ⟨u, hu⟩ : ∃ u, l[j]? = some u := ⟨_, List.getElem?_eq_getElem (by omega)⟩
      obtain ⟨ad', e, hxu⟩ := cell_str HR0.out hu
      injection e with e
      subst e
      have hl2 : (j : Int) < (k : Int) := by omega
      have hl3 : (j : Int) < (l.length : Int) := by omega
      have hl4 : (k : Int) < (l.length : Int) := by omega
      have hu' := Aside0.mk hu
      clear hu
      by_cases he : u = t
      · subst he
        have htt : (u.toList == u.toList) = true := by simp
        go_wp2
        repeat (go_quiet (fail); try go_wp2)
        go_ret
        refine ⟨?_, Drawn0.step ⟨_, rfl⟩ _⟩
        unfold num
        rw [show posOf l u = j from idxOf_of hu'.out hf.out]
        rfl
      · have htt : (u.toList == t.toList) = false := by rw [toList_eq]; exact decide_eq_false he
        have hcut := HC.out j (by omega)
        have HLT := Aside0.mk (show (l.take j).length = j by rw [List.length_take]; omega)
        have HRT := Aside0.mk (show Kd.string.C w (some ad) j (l.take j) from (by have h1 := Kd.C_take HR0.out (m := j) (by omega); rw [HLT.out] at h1; exact h1))
        have he' := Aside0.mk he
        have hadd := Aside0.mk (length_rowOf (l.take j))
        clear he
        have hnext : ∀ q, q < j + 1 → l[q]? ≠ some t := by
          intro q hq e
          rcases Nat.lt_or_ge q j with h1 | h1
          · exact hf.out q h1 e
          · obtain rfl : q = j := by omega
            rw [hu'.out] at e
            exact he'.out (Option.some.inj e)
        have hnext' := Aside0.mk hnext
        clear hnext
        by_cases hin : u ∈ l.take j
        · have hb := Aside0.mk (fB_yes hin)
          have hstep := Aside0.mk (num_step_old hu'.out hin)
          clear hin
          go_wp2
          go_quiet (fail)
          go_wp2
          go_quiet ((go_at_call 51; exact quiet_same (find_ref_b (some ad) c j (l.take j) u true _ HLT.out (by repeat (first | exact HRT.out | apply Kd.C_drewN)) hb.out)))
          go_wp2
          go_roundw
          case rel => exact ⟨j + 1, by go_num, by omega, by rw [hstep.out], hnext', ⟨⟨_, rfl⟩⟩⟩
          case measure => simp [intOf]; omega
        · have hb := Aside0.mk (fB_no hin)
          have hstep := Aside0.mk (num_step_new hu'.out hin)
          have hle : ((rowOf (l.take j)).length : Int) + 1 ≤ 9223372036854775807 := by
            have := length_rowOf (l.take j)
            rw [List.length_take] at this
            omega
          clear hin
          go_wp2
          go_quiet (fail)
          go_wp2
          go_quiet ((go_at_call 51; exact quiet_same (find_ref_b (some ad) c j (l.take j) u false _ HLT.out (by repeat (first | exact HRT.out | apply Kd.C_drewN)) hb.out)))
          go_wp2
          go_roundw
          case rel => exact ⟨j + 1, by go_num, by omega, by rw [hstep.out]; go_num, hnext', ⟨⟨_, rfl⟩⟩⟩
          case measure => simp [intOf]; omega
    · have hl2 : ¬ (j : Int) < (k : Int) := by omega
      have hjk : j = k := by omega
      subst hjk
      go_wp2
      go_ret
      refine ⟨?_, ⟨_, rfl⟩⟩
      unfold num
      rw [show posOf l t = j from idxOf_of HT.out hf.out]
      rfl
end Go.Proofs.Ytijmhegccakndaa
