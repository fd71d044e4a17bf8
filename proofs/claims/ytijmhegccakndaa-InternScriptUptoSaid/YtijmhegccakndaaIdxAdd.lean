/-
  An index of texts in memory: a new thing.
-/
import Derived.Test.YtijmhegccakndaaIdx
namespace Go.Proofs.Ytijmhegccakndaa
open Go.RowKit Go.Maps Go.WideMaps
open Go.ChangeMaps (setBlock)
open Go.Proofs.YtijmhegccakndaaW.PrintWords Go.Proofs.YtijmhegccakndaaW.PrintMore


theorem lit_inj {s t : ByteArray} (h : (Lit.string s.data.toList) = .string t.data.toList) : s = t := by
  injection h with h
  cases s; cases t
  simpa using h

theorem Agree.empty : Agree (.map []) [] :=
  ⟨tidy_empty, rfl, List.nodup_nil, fun t h => by simp at h, fun i t h => by simp at h, fun t _ => by simp [Maps.has_eq]⟩

theorem Agree.push {D : DataW Unit} {row : List ByteArray} {t : ByteArray} (h : Agree D row) (hs : t.size ≤ maxLen) (hn : ¬ t ∈ row) :
    Agree (D.put (.string t.data.toList) (.lit (.int .i64 (row.length : Int)))) (row ++ [t]) := by
  have hk : WideAt.IsKeyLit (.string t.data.toList) := trivial
  have hno : Maps.has D (.string t.data.toList) = false := by
    cases e : Maps.has D (.string t.data.toList) with
    | false => rfl
    | true => exact absurd ((h.has t hs).1 e) hn
  refine ⟨h.tidy.put hk _, ?_, ?_, ?_, ?_, ?_⟩
  · rw [size_put h.tidy, hno]; simp [h.size]
  · rw [List.nodup_append]
    exact ⟨h.apart, by simp, fun a ha b hb => by simp at hb; subst hb; intro e; subst e; exact hn ha⟩
  · intro u hu
    rcases List.mem_append.1 hu with hu | hu
    · exact h.small u hu
    · simp at hu; subst hu; exact hs
  · intro i u hu
    by_cases hi : i < row.length
    · rw [List.getElem?_append_left hi] at hu
      rw [atKey_put_other]
      · exact h.at_ i u hu
      · intro e
        have := lit_inj e
        subst this
        exact hn (List.mem_of_getElem? hu)
    · rw [List.getElem?_append_right (by omega)] at hu
      have hi2 : i - row.length = 0 := by
        rcases Nat.eq_zero_or_pos (i - row.length) with h0 | h0
        · exact h0
        · rw [List.getElem?_eq_none (by simp; omega)] at hu; cases hu
      rw [hi2] at hu
      simp at hu
      subst hu
      rw [atKey_put_same h.tidy.isMap hk]
      have : i = row.length := by omega
      rw [this]
  · intro u hu
    by_cases e : u = t
    · subst e
      rw [has_put_same h.tidy.isMap hk]
      simp
    · rw [has_put_other (fun q => e (lit_inj q)), h.has u hu]
      simp [e]

theorem turned_block {w w' : World} {m : Nat} (h : w.mapTurned w' m) {k : Nat} (hk : k ≠ m) : w'.heap[k]? = w.heap[k]? := by
  obtain ⟨es, cl, es', cl', h1, rfl⟩ := h
  simp only [setBlock]
  rw [Array.getElem?_setIfInBounds, if_neg (by omega)]
theorem turned_size {w w' : World} {m : Nat} (h : w.mapTurned w' m) : w'.heap.size = w.heap.size := by
  obtain ⟨es, cl, es', cl', h1, rfl⟩ := h
  simp [setBlock]
theorem turned_grown {w w' : World} {m : Nat} (h : w.mapTurned w' m) : w.grownBy w' (some m) := by
  have h1 := turned_size h
  have h2 := @turned_block w w' m h
  obtain ⟨es, cl, es', cl', _, rfl⟩ := h
  exact ⟨rfl, rfl, rfl, by omega, fun k _ hne => h2 (fun e => hne (by rw [e]))⟩

theorem cell1_of {w w1 : World} {b bm m : Nat} {v : Value} {A : Option Addr} {n c : Nat} (h : w.heap[b]? = some (.cells #[.map (some bm), v] 96 (0, 0))) (hv : v = .slice A n c) (ht : w.mapTurned w1 m) (hb : b ≠ m) : w1.cell? ⟨b, 1, none⟩ = some (.slice A n c) := by
  have := (turned_block ht hb).trans h
  rw [hv] at this
  simp [World.cell?, this]

theorem Ix.turned_items {w w1 : World} {m : Nat} {v : Value} {row : List ByteArray} (h : w.ownsRow 0 9 1 v row.length (strs_ row)) (ht : w.mapTurned w1 m) (hne : some m ≠ v.ownBlock) : Kd.string.R 9 w1 0 (fun _ => True) v row :=
  Kd.R_of_own (h.kept (turned_grown ht) (by cases hv : v.ownBlock with | none => exact .inl rfl | some k => right; intro e; exact hne (by rw [hv, e]))) (fun _ _ => trivial)

theorem block_grown {w w1 w2 : World} {b bm m : Nat} {v : Value} (h : w.heap[b]? = some (.cells #[.map (some bm), v] 96 (0, 0))) (ht : w.mapTurned w1 m) (hb : b ≠ m) (hg : w1.grownBy w2 v.ownBlock) (hv : some b ≠ v.ownBlock) : w2.heap[b]? = some (.cells #[.map (some bm), v] 96 (0, 0)) := by
  have h1 := (turned_block ht hb).trans h
  have hlt : b < w1.heap.size := (Array.getElem?_eq_some_iff.1 h1).1
  exact (hg.block b hlt hv).trans h1
theorem cell1_of2 {w : World} {b : Nat} {m v : Value} (h : w.heap[b]? = some (.cells #[m, v] 96 (0, 0))) : w.cell? ⟨b, 1, none⟩ = some v := by simp [World.cell?, h]
theorem free1_of2 {w : World} {b : Nat} {m v : Value} (h : w.heap[b]? = some (.cells #[m, v] 96 (0, 0))) : w.frozen? ⟨b, 1, none⟩ = false := by simp [World.frozen?, h]

theorem add_old (w : World) (b bm : Nat) (v : Value) (D : DataW Unit) (row : List ByteArray) (t : ByteArray) (i : Nat) (h : Ix w b bm v D row) (hi : row[i]? = some t) :
    Calls Try.prog 12 #[.pointer (some ⟨b, 0, none⟩), .string t] w fun e w' => e = .returned (.int .i64 (i : Int)) ∧ w = w' := by
  have hs := h.agree.small t (List.mem_of_getElem? hi)
  have hkey := keyOf_string_mk Try.underlying9 hs
  have hown := h.map
  have c0 : w.cell? ⟨b, 0, none⟩ = some (.map (some bm)) := by simp [World.cell?, h.block]
  have hh : Maps.has D (.string t.data.toList) = true := (h.agree.has t hs).2 (List.mem_of_getElem? hi)
  have ha := Lib.hid (h.agree.at_ i t hi)
  clear hi h
  go_enter Try.func12, Try.ntmps12
  go_wp2_with (at_lookup; refine wpList_lookup_own_ok_int _ rfl _ _ 94 rfl 9 3 .i64 law9 Try.underlying94 Try.underlying3 (zero3 _) bm _ D rfl hown _ _ rfl hkey ?_; intro c hat hwc)
  go_ret
  have := ha.out.symm.trans hat
  simp at this
  subst this
  exact ⟨rfl, rfl⟩

def Added (w : World) (b bm : Nat) (v : Value) (row : List ByteArray) (t : ByteArray) (e : Ending) (w' : World) : Prop :=
  e = .returned (.int .i64 (row.length : Int)) ∧ ∃ v' D', Ix w' b bm v' D' (row ++ [t]) ∧ Kp w w' (Ix.S b bm v) ∧ (v'.ownBlock = v.ownBlock ∨ ∃ g, v'.ownBlock = some g ∧ w.heap.size ≤ g)

theorem grown_set (w : World) (b o : Nat) (u : Value) : w.grownBy (w.setCell ⟨b, o, none⟩ u) (some b) :=
  ⟨rfl, rfl, rfl, by simp [World.setCell], fun k _ hne => Below.heap_setCell _ _ _ _ (fun e => hne (by rw [e]))⟩
theorem heap_set {w : World} {b o : Nat} {u : Value} {cs : Array Value} {e : TypeId} {f : Nat × Nat} (h : w.heap[b]? = some (.cells cs e f)) : (w.setCell ⟨b, o, none⟩ u).heap[b]? = some (.cells (cs.setIfInBounds o u) e f) := by
  simp [World.setCell, Array.getElem?_modify, h]
theorem own_ne_of {w : World} {b : Nat} {e e' : TypeId} {cs : Array Value} {base size n : Nat} {v : Value} {xs : List Value} (h : w.heap[b]? = some (.cells cs e (0, 0))) (ho : w.ownsRow base e' size v n xs) (hne : e ≠ e') : v.ownBlock ≠ some b := by
  intro hk
  rcases ho.2 with ⟨rfl, _⟩ | ⟨g, cap, cur, rfl, _, hh, _⟩
  · simp [Value.ownBlock] at hk
  · simp [Value.ownBlock] at hk
    subst hk
    rw [h] at hh
    injection hh with hh
    injection hh with _ ht
    exact hne ht

theorem added_end {w w1 w2 : World} {b bm : Nat} {v : Value} {D' : DataW Unit} {row : List ByteArray} {t : ByteArray} {A1 : Option Addr} {k1 : Nat}
    (HA : Agree D' (row ++ [t])) (HBM : b ≠ bm) (HBMV : some bm ≠ v.ownBlock)
    (hown1 : w1.ownsMap Try.prog 9 (plainElem Try.prog 3) bm (row.length + 1) D') (hturn1 : w.mapTurned w1 bm)
    (hb2 : w2.heap[b]? = some (.cells #[.map (some bm), v] 96 (0, 0))) (hR2 : Kd.string.R 9 w2 0 (fun _ => True) (.slice A1 (row ++ [t]).length k1) (row ++ [t]))
    (hg2 : w1.grownBy w2 v.ownBlock) (hat2 : (Value.slice A1 (row ++ [t]).length k1).ownBlock = v.ownBlock ∨ ∃ b, (Value.slice A1 (row ++ [t]).length k1).ownBlock = some b ∧ w1.heap.size ≤ b) :
    Added w b bm v row t (.returned (.int .i64 (row.length : Int))) (w2.setCell ⟨b, 1, none⟩ (.slice A1 (row.length + 1) k1)) := by
  have el : (row ++ [t]).length = row.length + 1 := by simp
  refine ⟨rfl, .slice A1 (row.length + 1) k1, D', ⟨?_, ?_, HA, ?_⟩, ?_, ?_⟩
  · rw [heap_set hb2]; simp
  · rw [el]
    exact (hown1.kept hg2 HBMV).kept (grown_set _ _ _ _) (by simpa using fun e => HBM e.symm)
  · have ho := Kd.own_of_R hR2
    have hne := own_ne_of hb2 ho (by decide)
    rw [← el]
    exact ho.kept (grown_set _ _ _ _) (.inr hne)
  · have hs := turned_size hturn1
    refine Kp.setCell (((Kp.refl w _).turned hturn1 (.inr (.inl rfl))).grown hg2 ?_) (.inl (.inl rfl)) _
    intro j hj
    exact .inl (.inr (.inr hj))
  · rw [← el]
    rcases hat2 with h | ⟨g, h, hg⟩
    · exact .inl h
    · exact .inr ⟨g, h, by rw [← turned_size hturn1]; exact hg⟩

set_option maxRecDepth 100000 in
theorem add_new (w : World) (b bm : Nat) (v : Value) (D : DataW Unit) (row : List ByteArray) (t : ByteArray) (h : Ix w b bm v D row) (hs : t.size ≤ maxLen) (hi : ¬ t ∈ row) (hn : (row.length + 1) * 16 ≤ 140737488355328) :
    Calls Try.prog 12 #[.pointer (some ⟨b, 0, none⟩), .string t] w (Added w b bm v row t) := by
  have hkey := keyOf_string_mk Try.underlying9 hs
  have hown := h.map
  have hh : Maps.has D (.string t.data.toList) = false := by
    cases e : Maps.has D (.string t.data.toList) with
    | false => rfl
    | true => exact absurd ((h.agree.has t hs).1 e) hi
  have HA := Aside0.mk (h.agree.push hs hi)
  have HB0 := Aside0.mk h.block
  have HI := Aside0.mk h.items
  have hblt : b < w.heap.size := (Array.getElem?_eq_some_iff.1 h.block).1
  have hbm : b ≠ bm := by
    intro e
    obtain ⟨es, cl, hb, _⟩ := h.map
    rw [← e, h.block] at hb
    cases hb
  have hbv : some b ≠ v.ownBlock := by
    intro e
    rcases h.items.2 with ⟨rfl, _⟩ | ⟨g, cap, cur, rfl, _, hg, _⟩
    · simp [Value.ownBlock] at e
    · simp [Value.ownBlock] at e
      subst e
      rw [h.block] at hg
      cases hg
  have hbmv : some bm ≠ v.ownBlock := by
    intro e
    obtain ⟨es, cl, hb, _⟩ := h.map
    rcases h.items.2 with ⟨rfl, _⟩ | ⟨g, cap, cur, rfl, _, hg, _⟩
    · simp [Value.ownBlock] at e
    · simp [Value.ownBlock] at e
      subst e
      rw [hb] at hg
      cases hg
  have c0 : w.cell? ⟨b, 0, none⟩ = some (.map (some bm)) := by simp [World.cell?, h.block]
  have HWF := Aside0.mk (show (Lit.int .i64 (row.length : Int)).wf = true from WalkArith.wf_i64 (by omega))
  have HRL := Aside0.mk (show row.length < maxLen by simp only [maxLen]; omega)
  obtain ⟨A, cp, hv⟩ := h.slice
  have c1 : w.cell? ⟨b, 1, none⟩ = some (.slice A row.length cp) := by simp [World.cell?, h.block, hv]
  have HV := Aside0.mk hv
  have HBM := Aside0.mk hbm
  have HBV := Aside0.mk hbv
  have HBMV := Aside0.mk hbmv
  have HN := Aside0.mk hn
  clear hi h hs hv hbm hbv hbmv hn
  go_enter Try.func12, Try.ntmps12
  go_wp2_with (first
    | (at_lookup; refine wpList_lookup_own_ok_int _ rfl _ _ 94 rfl 9 3 .i64 law9 Try.underlying94 Try.underlying3 (zero3 _) bm _ D rfl hown _ _ rfl hkey ?_; intro c hat hwc; clear hat)
    | (at_mapUpdate; refine wpList_mapUpdate_in _ rfl _ _ _ 94 rfl 9 3 law9 Try.underlying94 _ bm _ D rfl hown HRL.out _ _ _ rfl rfl hkey _ [] (plainElem_int Try.underlying3 HWF.out) ?_; intro w1 hown1 hturn1; have d1 := cell1_of HB0.out HV.out hturn1 HBM.out; replace hown1 := Aside0.mk hown1; replace hturn1 := Aside0.mk hturn1; have HO1 := Aside0.mk (Ix.turned_items HI.out hturn1.out HBMV.out); clear hown)
    | ((with_reducible refine gate_builtin (b := .append) (xs := #[.tmp 34, .tmp 36]) rfl ?_); at_builtin; refine Kd.R_append Kd.string (w0 := w1) 0 rfl (.tmp 34) (.tmp 36) 22 9 (.string ⟨#[]⟩) 16 rfl Try.underlying22 info9 rfl (by decide) (by omega) (.slice A row.length cp) row t [.string t] (fun _ => True) (fun _ => False) rfl rfl ?aP (fun _ hk => hk.elim) ?aF ?aO ?aB ?aS ?aL ?_; (case aP => exact rfl); (case aB => exact Below.refl _ _); (case aF => exact (fun _ _ => trivial)); (case aO => exact (HV.out ▸ HO1.out)); (case aS => omega); (case aL => exact HN.out); intro v1 w2 hR2 hB2 hg2 hat2; obtain ⟨A1, k1, rfl⟩ := Kd.R_slice hR2; replace hg2 : w1.grownBy w2 v.ownBlock := (HV.out ▸ hg2); have hb2 := Aside0.mk (block_grown HB0.out hturn1.out HBM.out hg2 HBV.out); have e1 := cell1_of2 hb2.out; have f1 := free1_of2 hb2.out; replace hR2 := Aside0.mk hR2; replace hg2 := Aside0.mk hg2; replace hat2 := Aside0.mk hat2; clear hB2))
  go_ret
  exact added_end HA.out HBM.out HBMV.out hown1.out hturn1.out hb2.out hR2.out hg2.out (HV.out ▸ hat2.out)

end Go.Proofs.Ytijmhegccakndaa
