/-
  The index's Cut: the first things stay, the others are forgotten.
-/
import Derived.Test.YtijmhegccakndaaTwo
import Derived.Laws.IdiomCopy
namespace Go.Proofs.Ytijmhegccakndaa
open Go.RowKit Go.Maps Go.WideMaps
open Go.ChangeMaps (setBlock)
open Go.Proofs.YtijmhegccakndaaW.PrintWords Go.Proofs.YtijmhegccakndaaW.PrintMore

/-- the map reads as the row without the things from m up to k -/
structure AgreeP (D : DataW Unit) (row : List ByteArray) (m k : Nat) : Prop where
  tidy : Tidy D
  size : Maps.size D + (k - m) = row.length
  at_ : ∀ (i : Nat) (t : ByteArray), row[i]? = some t → (i < m ∨ k ≤ i) → D.atKey (.string t.data.toList) (.lit (.int .i64 0)) = .lit (.int .i64 (i : Int))
  has : ∀ t : ByteArray, t.size ≤ maxLen → (Maps.has D (.string t.data.toList) = true ↔ ∃ i, row[i]? = some t ∧ (i < m ∨ k ≤ i))

theorem AgreeP.start {D : DataW Unit} {row : List ByteArray} (h : Agree D row) (m : Nat) : AgreeP D row m m :=
  ⟨h.tidy, by rw [h.size]; omega, fun i t hi _ => h.at_ i t hi, fun t ht => by
    rw [h.has t ht, List.mem_iff_getElem?]
    exact ⟨fun ⟨i, hi⟩ => ⟨i, hi, by omega⟩, fun ⟨i, hi, _⟩ => ⟨i, hi⟩⟩⟩

theorem place_unique {row : List ByteArray} (hn : row.Nodup) {t : ByteArray} {i j : Nat} (hi : row[i]? = some t) (hj : row[j]? = some t) : i = j := by
  have h1 := idxOf_unique hn hi
  have h2 := idxOf_unique hn hj
  omega

theorem AgreeP.step {D : DataW Unit} {row : List ByteArray} {m k : Nat} {t : ByteArray} (h : AgreeP D row m k) (hn : row.Nodup) (hs : t.size ≤ maxLen) (ht : row[k]? = some t) (hm : m ≤ k) : AgreeP (D.del (.string t.data.toList)) row m (k + 1) := by
  have hyes : Maps.has D (.string t.data.toList) = true := (h.has t hs).2 ⟨k, ht, .inr (Nat.le_refl _)⟩
  refine ⟨h.tidy.del _, ?_, ?_, ?_⟩
  · have := size_del (k := .string t.data.toList) h.tidy
    rw [hyes] at this
    have := h.size
    simp at *
    omega
  · intro i u hi hr
    rw [atKey_del_other]
    · exact h.at_ i u hi (by omega)
    · intro e
      have := lit_inj e
      subst this
      have := place_unique hn hi ht
      omega
  · intro u hu
    by_cases e : u = t
    · subst e
      rw [has_del_same]
      constructor
      · intro h; cases h
      · rintro ⟨i, hi, hr⟩
        have := place_unique hn hi ht
        omega
    · rw [has_del_other (fun q => e (lit_inj q)), h.has u hu]
      constructor
      · rintro ⟨i, hi, hr⟩
        refine ⟨i, hi, ?_⟩
        rcases hr with hr | hr
        · exact .inl hr
        · by_cases hik : i = k
          · subst hik
            rw [ht] at hi
            exact absurd (Option.some.inj hi).symm e
          · exact .inr (by omega)
      · rintro ⟨i, hi, hr⟩
        exact ⟨i, hi, by omega⟩

theorem AgreeP.finish {D : DataW Unit} {row : List ByteArray} {m : Nat} (h : AgreeP D row m row.length) (hn : row.Nodup) (hs : ∀ t, t ∈ row → t.size ≤ maxLen) (hm : m ≤ row.length) : Agree D (row.take m) := by
  have hlen : (row.take m).length = m := by rw [List.length_take]; omega
  have hget : ∀ (i : Nat) (t : ByteArray), (row.take m)[i]? = some t ↔ row[i]? = some t ∧ i < m := by
    intro i t
    rcases Nat.lt_or_ge i m with hi | hi
    · rw [List.getElem?_take_of_lt hi]; exact ⟨fun h => ⟨h, hi⟩, fun h => h.1⟩
    · rw [List.getElem?_eq_none (by omega)]; constructor
      · intro h; cases h
      · intro h; omega
  refine ⟨h.tidy, ?_, hn.sublist (List.take_sublist _ _), fun t ht => hs t (List.mem_of_mem_take ht), ?_, ?_⟩
  · have := h.size; omega
  · intro i t hi
    have := (hget i t).1 hi
    exact h.at_ i t this.1 (.inl this.2)
  · intro t ht
    rw [h.has t ht, List.mem_iff_getElem?]
    constructor
    · rintro ⟨i, hi, hr⟩
      have hlt := (List.getElem?_eq_some_iff.1 hi).1
      exact ⟨i, (hget i t).2 ⟨hi, by omega⟩⟩
    · rintro ⟨i, hi⟩
      have := (hget i t).1 hi
      exact ⟨i, this.1, .inl this.2⟩

theorem zero9 (w : World) : (zeroValue 9).run Try.prog w = .ok (.string ⟨#[]⟩) w := by kernel_rfl

theorem run_clear (ty : TypeId) (g o k c : Nat) (W : World) (cur : Array Value) (hk : 0 < k) (hg : W.heap[g]? = some (.cells cur 9 (0, 0))) (hl : o + k ≤ cur.size) :
    (Builtin.clear_ #[22] ty #[.slice (some ⟨g, o, none⟩) k c]).run Try.prog W = .ok (.tuple #[]) (W.setCells g o (Builtin.zeroCells #[.string ⟨#[]⟩] k).toList) := by
  obtain ⟨k', rfl⟩ : ∃ k', k = k' + 1 := ⟨k - 1, by omega⟩
  have hz : (Builtin.zeroCells #[Value.string ⟨#[]⟩] (k' + 1)).toList.length = k' + 1 := by simp [Builtin.zeroCells]
  have hst := run_storeCells_cells (P := Try.prog) g o (Builtin.zeroCells #[.string ⟨#[]⟩] (k' + 1)).toList 0 W (fun j hj => by rw [hz] at hj; simp [World.cell?, hg]; omega) (fun j hj => by simp [World.frozen?, hg]) (fun v hv => by
    simp [Builtin.zeroCells] at hv
    obtain ⟨i, _, rfl⟩ := hv
    simp [Nat.mod_one]
    rfl)
  have hzc : (Value.string ⟨#[]⟩).cells = #[.string ⟨#[]⟩] := rfl
  have hu : Try.prog.underlying 22 = some (.slice 9) := Try.underlying22
  simp [Builtin.clear_, run_underlying hu, hzc, hst, Result.andThen]
attribute [local go_sem] max2_int max_two

theorem cell0_of2 {w : World} {b : Nat} {m v : Value} (h : w.heap[b]? = some (.cells #[m, v] 96 (0, 0))) : w.cell? ⟨b, 0, none⟩ = some m := by simp [World.cell?, h]

/-- nothing is cut off -/
theorem cut_none (w : World) (b bm : Nat) (v : Value) (D : DataW Unit) (row : List ByteArray) (n k : Int) (h : Ix w b bm v D row) (hk : (if n < 0 then 0 else n) = k) (hn : (row.length : Int) ≤ k) :
    Calls Try.prog 19 #[.pointer (some ⟨b, 0, none⟩), .int .i64 n] w fun e w' => e = .returned (.tuple #[]) ∧ w = w' := by
  obtain ⟨A, cp, rfl⟩ := h.slice
  have c1 := cell1_of2 h.block
  clear h
  have p1 : decide ((row.length : Int) ≤ k) = true := decide_eq_true hn
  clear hn
  go_enter Try.func19, Try.ntmps19
  go_wp2
  refine bodyPost_ret (results_none rfl _ _ _) rfl ?_
  exact ⟨rfl, rfl⟩

def IsCut (w : World) (b bm : Nat) (v : Value) (row : List ByteArray) (m : Nat) (e : Ending) (w' : World) : Prop :=
  e = .returned (.tuple #[]) ∧ ∃ v' D', Ix w' b bm v' D' (row.take m) ∧ Kp w w' (Ix.S b bm v) ∧ v'.ownBlock = v.ownBlock

theorem Ix.apart {w : World} {b bm g n cap : Nat} {D : DataW Unit} {row : List ByteArray} (h : Ix w b bm (.slice (some ⟨g, 0, none⟩) n cap) D row) : b ≠ bm ∧ b ≠ g ∧ g ≠ bm := by
  obtain ⟨es, cl, hb, _⟩ := h.map
  have hg : ∃ cur, w.heap[g]? = some (.cells cur 9 (0, 0)) := by
    rcases h.items.2 with ⟨hv, _⟩ | ⟨g', cap', cur, hv, _, hg, _⟩
    · cases hv
    · cases hv; exact ⟨_, hg⟩
  obtain ⟨cur, hg⟩ := hg
  refine ⟨fun e => ?_, fun e => ?_, fun e => ?_⟩
  · subst e; rw [h.block] at hb; cases hb
  · subst e; rw [h.block] at hg; cases hg
  · subst e; rw [hb] at hg; cases hg

theorem cut_end {w wr : World} {b bm g cap m : Nat} {D Dk : DataW Unit} {row : List ByteArray} (h : Ix w b bm (.slice (some ⟨g, 0, none⟩) row.length cap) D row) (hm : m < row.length)
    (HM : wr.ownsMap Try.prog 9 (plainElem Try.prog 3) bm row.length Dk) (HP : AgreeP Dk row m row.length) (HG : w.grownBy wr (some bm)) :
    IsCut w b bm (.slice (some ⟨g, 0, none⟩) row.length cap) row m (.returned (.tuple #[])) ((wr.setCells g m (Builtin.zeroCells #[.string ⟨#[]⟩] (row.length - m)).toList).setCell ⟨b, 1, none⟩ (.slice (some ⟨g, 0, none⟩) m cap)) := by
  obtain ⟨n1, n2, n3⟩ := h.apart
  have hlen : (row.take m).length = m := by rw [List.length_take]; omega
  have hbr : wr.heap[b]? = some (.cells #[.map (some bm), .slice (some ⟨g, 0, none⟩) row.length cap] 96 (0, 0)) := (HG.block b (h.lt b (.inl rfl)) (by simpa using n1)).trans h.block
  obtain ⟨cur, hgw, hnc, hcm, hcs, htk⟩ : ∃ cur, w.heap[g]? = some (.cells cur 9 (0, 0)) ∧ row.length ≤ cap ∧ cap ≤ maxLen ∧ cur.size = cap * 1 ∧ cur.toList.take (row.length * 1) = strs_ row := by
    rcases h.items.2 with ⟨hv, _⟩ | ⟨g', cap', cur, hv, _, hg, r1, r2, r3, r4⟩
    · cases hv
    · cases hv; exact ⟨cur, hg, r1, r2, r3, r4⟩
  have hgr : wr.heap[g]? = some (.cells cur 9 (0, 0)) := (HG.block g (h.lt g (.inr (.inr rfl))) (by simpa using n3)).trans hgw
  have hz : (Builtin.zeroCells #[Value.string ⟨#[]⟩] (row.length - m)).toList.length = row.length - m := by simp [Builtin.zeroCells]
  obtain ⟨cur', h3, h4, h5⟩ := setCells_row (Builtin.zeroCells #[.string ⟨#[]⟩] (row.length - m)).toList m wr cur hgr (by rw [hz]; omega)
  have hb2 : (wr.setCells g m (Builtin.zeroCells #[.string ⟨#[]⟩] (row.length - m)).toList).heap[b]? = some (.cells #[.map (some bm), .slice (some ⟨g, 0, none⟩) row.length cap] 96 (0, 0)) := (setCells_far _ _ b n2).trans hbr
  obtain ⟨s1, s2, s3, s4⟩ := setCells_same g (Builtin.zeroCells #[.string ⟨#[]⟩] (row.length - m)).toList m wr
  have hkp : Kp w ((wr.setCells g m (Builtin.zeroCells #[.string ⟨#[]⟩] (row.length - m)).toList)) (Ix.S b bm (.slice (some ⟨g, 0, none⟩) row.length cap)) := by
    refine ((Kp.refl w _).grown HG (fun j hj => .inl (.inr (.inl (by injection hj with hj; exact hj.symm))))).trans (S' := fun j => j = g) ⟨s1, s2, s3, by rw [s4]; exact Nat.le_refl _, fun k _ hk => setCells_far _ _ k hk⟩ (fun j hj => .inl (.inr (.inr (by rw [hj]; rfl))))
  refine ⟨rfl, .slice (some ⟨g, 0, none⟩) m cap, Dk, ⟨?_, ?_, HP.finish h.agree.apart h.agree.small (by omega), ?_⟩, hkp.setCell (.inl (.inl rfl)) _, rfl⟩
  · rw [heap_set hb2]; simp
  · obtain ⟨es, cl, hb', F, hs, hD⟩ := HM
    refine ⟨es, cl, ?_, F, ?_, hD⟩
    · rw [Below.heap_setCell _ _ _ _ (show bm ≠ b from fun e => n1 e.symm), setCells_far _ _ bm (fun e => n3 e.symm)]
      exact hb'
    · have h9 := HP.size
      have h10 := (HP.finish h.agree.apart h.agree.small (by omega)).size
      have h11 : Maps.size Dk = es.size := by rw [hD]; simp [Maps.size, length_sorted]
      omega
  · rw [hlen]
    refine ⟨by rw [encs_length, hlen, Nat.mul_one], .inr ⟨g, cap, cur', rfl, Nat.zero_le _, ?_, by omega, hcm, by rw [h4, hcs], ?_⟩⟩
    · rw [Below.heap_setCell _ _ _ _ (show g ≠ b from fun e => n2 e.symm)]
      exact h3
    · rw [h5, Nat.mul_one, List.append_assoc, List.take_append_of_le_length (by rw [List.length_take, Array.length_toList]; omega), List.take_take, Nat.min_self]
      have : cur.toList.take m = (cur.toList.take row.length).take m := by rw [List.take_take, Nat.min_eq_left (by omega)]
      rw [Nat.mul_one] at htk
      rw [this, htk]
      simp [encs, List.map_take]

set_option maxRecDepth 100000 in
theorem cut_some (w : World) (b bm : Nat) (v : Value) (D : DataW Unit) (row : List ByteArray) (n : Int) (m : Nat) (h : Ix w b bm v D row) (hn : (if n < 0 then 0 else n) = (m : Int)) (hm : m < row.length) :
    Calls Try.prog 19 #[.pointer (some ⟨b, 0, none⟩), .int .i64 n] w (IsCut w b bm v row m) := by
  obtain ⟨g, cap, rfl, _, _⟩ := h.items.form (by omega)
  have HI := Aside0.mk h
  have c0 := cell0_of2 h.block
  have c1 := cell1_of2 h.block
  have hcap : row.length ≤ cap := by
    rcases h.items.2 with ⟨hv, _⟩ | ⟨g', cap', cur, hv, _, _, h1, _⟩
    · cases hv
    · cases hv; exact h1
  have hmx : row.length ≤ 9223372036854775807 := by
    rcases h.items.2 with ⟨hv, _⟩ | ⟨g', cap', cur, hv, _, _, h1, h2, _⟩
    · cases hv
    · simp only [maxLen] at h2; omega
  obtain ⟨i9, hi9, hz0, hz1, hz2⟩ := info_parts info9
  have HS := Aside0.mk hz1
  have hcutf := cut_from (P := Try.prog) 22 9 .i64 Try.underlying22 hi9 1 hz1 (some ⟨g, 0, none⟩) row.length cap (m : Int) (by omega) (by omega)
  have hcutt := cut_to (P := Try.prog) 22 9 .i64 Try.underlying22 hi9 (some ⟨g, 0, none⟩) row.length cap (m : Int) (by omega) (by omega) hcap
  have hcm : cap ≠ m := by omega
  have p1 : decide ((row.length : Int) ≤ (m : Int)) = false := decide_eq_false (by omega)
  have p2 : decide (row.length ≤ m) = false := decide_eq_false (by omega)
  simp only [Int.toNat_natCast, if_neg hcm, Option.map_some, Nat.mul_one, add_plain] at hcutf hcutt
  have hml : (m : Int) < (row.length : Int) := by omega
  have HSM := Aside0.mk h.agree.small
  have HAP := Aside0.mk h.agree.apart
  clear h hz0 hz1 hz2
  go_enter Try.func19, Try.ntmps19
  go_wp2
  go_loopw [22, 5] (fun i _ wr => ∃ (k : Nat) (Dk : DataW Unit), i = .int .i64 (k : Int) ∧ k ≤ row.length - m ∧ Aside0 (wr.ownsMap Try.prog 9 (plainElem Try.prog 3) bm row.length Dk) ∧ Aside0 (AgreeP Dk row m (m + k)) ∧ Aside0 (w.grownBy wr (some bm))) (fun i _ _ => row.length - m - (intOf i).toNat)
  case atStart => exact ⟨0, D, rfl, Nat.zero_le _, ⟨HI.out.map⟩, ⟨AgreeP.start HI.out.agree m⟩, ⟨World.grownBy.refl _ _⟩⟩
  case round =>
    obtain ⟨k, Dk, rfl, hk, HM, HP, HG⟩ := hrel
    by_cases hlt : k < row.length - m
    · obtain ⟨t, ht⟩ : ∃ t, row[m + k]? = some t := ⟨_, List.getElem?_eq_getElem (by omega)⟩
      obtain ⟨n1, n2, n3⟩ := HI.out.apart
      have hsz := HSM.out t (List.mem_of_getElem? ht)
      have hkey := keyOf_string_mk Try.underlying9 hsz
      have hbr := (HG.out.block b (HI.out.lt b (.inl rfl)) (by simpa using n1)).trans HI.out.block
      have d0 := cell0_of2 hbr
      have ci : wr.cell? ⟨g, m + k, none⟩ = some (.string t) := by
        rw [World.cell?_of_block (w := w) (HG.out.block g (HI.out.lt g (.inr (.inr rfl))) (by simpa using n3)), HI.out.items.cellAt (m + k) (by omega)]
        simp [encs, ht]
      have hown := HM.out
      have HSTEP := Aside0.mk (HP.out.step HAP.out hsz ht (by omega))
      have hl3 : (k : Int) < ((row.length - m : Nat) : Int) := by omega
      clear ht n1 n2 n3 hsz hbr
      go_wp2_with (at_delete; refine wpList_delete_own _ rfl _ _ 94 9 rfl 3 law9 Try.underlying94 _ bm _ Dk rfl hown _ _ rfl hkey ?_; intro w1 hown1 hturn1; replace hown1 := Aside0.mk hown1; replace hturn1 := Aside0.mk hturn1)
      go_roundw
      case rel => exact ⟨k + 1, _, by go_num, by omega, hown1, HSTEP, ⟨HG.out.trans (turned_grown hturn1.out)⟩⟩
      case measure => simp [intOf]; omega
    · have hl3 : ¬ (k : Int) < ((row.length - m : Nat) : Int) := by omega
      obtain rfl : k = row.length - m := by omega
      have HP2 := Aside0.mk (show AgreeP Dk row m row.length by have := HP.out; rwa [show m + (row.length - m) = row.length by omega] at this)
      obtain ⟨n1, n2, n3⟩ := HI.out.apart
      have hbr := (HG.out.block b (HI.out.lt b (.inl rfl)) (by simpa using n1)).trans HI.out.block
      have d1 := cell1_of2 hbr
      have HEND := Aside0.mk (cut_end HI.out hm HM.out HP2.out HG.out)
      obtain ⟨cur, hgw, hcs⟩ : ∃ cur, w.heap[g]? = some (.cells cur 9 (0, 0)) ∧ cur.size = cap * 1 := by
        rcases HI.out.items.2 with ⟨hv, _⟩ | ⟨g', cap', cur, hv, _, hg, r1, r2, r3, r4⟩
        · cases hv
        · cases hv; exact ⟨cur, hg, r3⟩
      have hgr := (HG.out.block g (HI.out.lt g (.inr (.inr rfl))) (by simpa using n3)).trans hgw
      have hclr := fun ty => run_clear ty g m (row.length - m) (cap - m) wr cur (by omega) hgr (by omega)
      have hb2 := (setCells_far (Builtin.zeroCells #[.string ⟨#[]⟩] (row.length - m)).toList m b n2).trans hbr
      obtain ⟨w2, hw2⟩ : ∃ w2, wr.setCells g m (Builtin.zeroCells #[.string ⟨#[]⟩] (row.length - m)).toList = w2 := ⟨_, rfl⟩
      rw [hw2] at hclr hb2 HEND
      have e1 := cell1_of2 hb2
      have f1 := free1_of2 hb2
      clear hw2 hb2 hgr hcs hgw hbr n1 n2 n3 HP HM HP2
      go_wp2
      go_end0
      exact HEND.out

/-- what Cut leaves -/
def cutRow (row : List ByteArray) (n : Int) : List ByteArray := row.take n.toNat
def IsCutS (w : World) (S : Nat → Prop) (b : Nat) (row : List ByteArray) (n : Int) (e : Ending) (w' : World) : Prop :=
  e = .returned (.tuple #[]) ∧ AtS w' S b (cutRow row n) ∧ Kp w w' S
theorem cut_S (w : World) (S : Nat → Prop) (b : Nat) (row : List ByteArray) (n : Int) (h : AtS w S b row) :
    Calls Try.prog 19 #[.pointer (some ⟨b, 0, none⟩), .int .i64 n] w (IsCutS w S b row n) := by
  obtain ⟨bm, v, D, hI, h1⟩ := h
  by_cases hn : n.toNat < row.length
  · refine (cut_some w b bm v D row n n.toNat hI (by split <;> omega) hn).mono fun e w' ⟨he, v', D', hI', hk, ho⟩ => ?_
    refine ⟨he, ⟨bm, v', D', hI', fun k hk' => h1 k ?_⟩, hk.mono h1⟩
    rcases hk' with h | h | h
    · exact .inl h
    · exact .inr (.inl h)
    · exact .inr (.inr (by rw [← ho]; exact h))
  · refine (cut_none w b bm v D row n (n.toNat : Int) hI (by split <;> omega) (by omega)).mono fun e w' ⟨he, hw⟩ => ?_
    subst hw
    refine ⟨he, ⟨bm, v, D, ?_, h1⟩, Kp.refl _ _⟩
    unfold cutRow
    rw [List.take_of_length_le (by omega)]
    exact hI
end Go.Proofs.Ytijmhegccakndaa
