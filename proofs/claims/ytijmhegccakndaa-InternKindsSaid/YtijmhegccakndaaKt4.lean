/-
  An index of texts or of bytes: Add. (Printed by wip/tools/kt4.py.)
-/
import Derived.Test.YtijmhegccakndaaKt3
namespace Go.Proofs.Ytijmhegccakndaa
open Go.RowKit Go.Maps Go.WideMaps
open Go.ChangeMaps (setBlock)
open Go.Proofs.YtijmhegccakndaaW.PrintWords Go.Proofs.YtijmhegccakndaaW.PrintMore
variable {K : KT}

theorem nodup_len : ∀ (n : Nat) (l : List Nat), l.Nodup → (∀ x, x ∈ l → x < n) → l.length ≤ n := by
  intro n
  induction n with
  | zero =>
    intro l _ h
    cases l with
    | nil => exact Nat.le_refl _
    | cons a r => exact absurd (h a (by simp)) (Nat.not_lt_zero _)
  | succ n ih =>
    intro l hn h
    have h1 := ih (l.erase n) (hn.erase n) (fun x hx => by
      obtain ⟨h2, h3⟩ := (hn.mem_erase_iff).1 hx
      have := h x h3
      omega)
    rw [List.length_erase] at h1
    split at h1 <;> omega
theorem IxK.small {w : World} {b bm : Nat} {v : Value} {D : DataW Unit} {row : List Nat} (h : IxK K w b bm v D row) : row.length ≤ 4 := by
  exact nodup_len 4 row h.agree.apart h.agree.small

theorem info_S : (Try.prog.info? 9).map (fun i => (i.zero, i.size, i.bytes)) = some (some (.string ⟨#[]⟩), 1, 16) := by kernel_rfl
theorem add_old_S (w : World) (b bm : Nat) (v : Value) (D : DataW Unit) (row : List Nat) (t : Nat) (h : IxK KTs w b bm v D row) (ht : t < 4) (hm : t ∈ row) :
    Calls Try.prog 12 #[.pointer (some ⟨b, 0, none⟩), KTs.val t] w fun e w' => e = .returned (.int .i64 (poN row t : Int)) ∧ w = w' := by
  have c0 := (cell_ofK h.block).1
  have hlk := h.look okS 94 mapT_S t ht
  rw [decide_eq_true hm, show fiN row t = poN row t by unfold fiN; rw [if_pos hm]] at hlk
  obtain ⟨x, hx⟩ : ∃ x, x = KTs.val t := ⟨_, rfl⟩
  rw [← hx] at hlk ⊢
  clear h hx ht hm
  go_enter Try.func12, Try.ntmps12
  go_wp2
  go_ret
  exact ⟨rfl, rfl⟩
set_option maxRecDepth 100000 in
theorem add_new_S (w : World) (b bm : Nat) (v : Value) (D : DataW Unit) (row : List Nat) (t : Nat) (h : IxK KTs w b bm v D row) (ht : t < 4) (hm : ¬ t ∈ row) :
    Calls Try.prog 12 #[.pointer (some ⟨b, 0, none⟩), KTs.val t] w (AddedK KTs w b bm v row t) := by
  have c0 := (cell_ofK h.block).1
  have hlk := h.look okS 94 mapT_S t ht
  rw [decide_eq_false hm] at hlk
  have hsm := h.small
  have HA := Aside0.mk (h.agree.push okS ht hm)
  have HB0 := Aside0.mk h.block
  have HI := Aside0.mk h.items
  have hkey := okS.keyOf t ht
  obtain ⟨hbm, hbv, hbmv⟩ := h.apart okS
  have HWF := Aside0.mk (show (Lit.int .i64 (row.length : Int)).wf = true from WalkArith.wf_i64 (by omega))
  have HRL := Aside0.mk (show row.length < maxLen by simp only [maxLen]; omega)
  obtain ⟨A, cp, hv⟩ := h.slice
  have hown := h.map
  have c1 : w.cell? ⟨b, 1, none⟩ = some (.slice A row.length cp) := by rw [← hv]; exact (cell_ofK h.block).2.1
  have HV := Aside0.mk hv
  have HBM := Aside0.mk hbm
  have HBV := Aside0.mk hbv
  have HBMV := Aside0.mk hbmv
  have HN := Aside0.mk (show (row.length + 1) * 16 ≤ 140737488355328 by omega)
  have HCL := Aside0.mk (show KTs.cells t = [Value.string (tx t)] from rfl)
  rw [show KTs.val t = Value.string (tx t) from rfl] at hlk hkey ⊢
  obtain ⟨x, hx⟩ : ∃ x : ByteArray, x = (tx t) := ⟨_, rfl⟩
  rw [← hx] at hlk hkey HCL ⊢
  clear h ht hm hv hbm hbv hbmv hsm hx
  go_enter Try.func12, Try.ntmps12
  go_wp2_with (first
    | (at_mapUpdate; refine wpList_mapUpdate_in _ rfl _ _ _ 94 rfl 9 3 okS.keyed Try.underlying94 _ bm _ D rfl hown HRL.out _ _ _ rfl rfl hkey _ [] (plainElem_int Try.underlying3 HWF.out) ?_; intro w1 hown1 hturn1; have d1 := (cell_ofK (cell1_ofK HB0.out hturn1 HBM.out)).2.1; rw [HV.out] at d1; replace hown1 := Aside0.mk hown1; replace hturn1 := Aside0.mk hturn1; have HO1 := Aside0.mk (IxK.items_turned HI.out hturn1.out HBMV.out); clear hown hlk)
    | ((with_reducible refine gate_builtin (b := .append) (xs := #[.tmp 34, .tmp 36]) rfl ?_); at_builtin; refine print_append_cells (w0 := w1) 0 rfl (.tmp 34) (.tmp 36) 22 9 (.string ⟨#[]⟩) 1 16 rfl Try.underlying22 info_S rfl (by decide) (by omega) (.slice A row.length cp) row.length (KTs.row row) [Value.string x] rfl rfl rfl ?a1 ?aO ?aB ?aS ?aL ?_; (case a1 => (intro u hu; simp at hu; subst hu; rfl)); (case aO => exact (HV.out ▸ HO1.out)); (case aB => exact Below.refl _ _); (case aS => omega); (case aL => exact HN.out); intro v1 w2 hR2 hB2 hg2 hat2; replace hg2 : w1.grownBy w2 v.ownBlock := (HV.out ▸ hg2); replace hat2 := Aside0.mk hat2; have hb2 := Aside0.mk (block_grownK (cell1_ofK HB0.out hturn1.out HBM.out) hg2 HBV.out); have e1 := (cell_ofK hb2.out).2.1; have f1 := (cell_ofK hb2.out).2.2; obtain ⟨A1, k1, rfl⟩ := own_slice hR2; replace hR2 := Aside0.mk hR2; replace hg2 := Aside0.mk hg2; clear hB2))
  go_ret
  exact added_endK okS HA.out HBM.out HBMV.out hown1.out hturn1.out hb2.out (by rw [HCL.out]; exact hR2.out) hg2.out (HV.out ▸ hat2.out)

theorem info_B : (Try.prog.info? 47).map (fun i => (i.zero, i.size, i.bytes)) = some (some (.int .i8 0), 1, 1) := by kernel_rfl
theorem add_old_B (w : World) (b bm : Nat) (v : Value) (D : DataW Unit) (row : List Nat) (t : Nat) (h : IxK KTb w b bm v D row) (ht : t < 4) (hm : t ∈ row) :
    Calls Try.prog 33 #[.pointer (some ⟨b, 0, none⟩), KTb.val t] w fun e w' => e = .returned (.int .i64 (poN row t : Int)) ∧ w = w' := by
  have c0 := (cell_ofK h.block).1
  have hlk := h.look okB 102 mapT_B t ht
  rw [decide_eq_true hm, show fiN row t = poN row t by unfold fiN; rw [if_pos hm]] at hlk
  obtain ⟨x, hx⟩ : ∃ x, x = KTb.val t := ⟨_, rfl⟩
  rw [← hx] at hlk ⊢
  clear h hx ht hm
  go_enter Try.func33, Try.ntmps33
  go_wp2
  go_ret
  exact ⟨rfl, rfl⟩
set_option maxRecDepth 100000 in
theorem add_new_B (w : World) (b bm : Nat) (v : Value) (D : DataW Unit) (row : List Nat) (t : Nat) (h : IxK KTb w b bm v D row) (ht : t < 4) (hm : ¬ t ∈ row) :
    Calls Try.prog 33 #[.pointer (some ⟨b, 0, none⟩), KTb.val t] w (AddedK KTb w b bm v row t) := by
  have c0 := (cell_ofK h.block).1
  have hlk := h.look okB 102 mapT_B t ht
  rw [decide_eq_false hm] at hlk
  have hsm := h.small
  have HA := Aside0.mk (h.agree.push okB ht hm)
  have HB0 := Aside0.mk h.block
  have HI := Aside0.mk h.items
  have hkey := okB.keyOf t ht
  obtain ⟨hbm, hbv, hbmv⟩ := h.apart okB
  have HWF := Aside0.mk (show (Lit.int .i64 (row.length : Int)).wf = true from WalkArith.wf_i64 (by omega))
  have HRL := Aside0.mk (show row.length < maxLen by simp only [maxLen]; omega)
  obtain ⟨A, cp, hv⟩ := h.slice
  have hown := h.map
  have c1 : w.cell? ⟨b, 1, none⟩ = some (.slice A row.length cp) := by rw [← hv]; exact (cell_ofK h.block).2.1
  have HV := Aside0.mk hv
  have HBM := Aside0.mk hbm
  have HBV := Aside0.mk hbv
  have HBMV := Aside0.mk hbmv
  have HN := Aside0.mk (show (row.length + 1) * 1 ≤ 140737488355328 by omega)
  have HCL := Aside0.mk (show KTb.cells t = [Value.int .i8 ((t : Int) - 2)] from rfl)
  rw [show KTb.val t = Value.int .i8 ((t : Int) - 2) from rfl] at hlk hkey ⊢
  obtain ⟨x, hx⟩ : ∃ x : Int, x = ((t : Int) - 2) := ⟨_, rfl⟩
  rw [← hx] at hlk hkey HCL ⊢
  clear h ht hm hv hbm hbv hbmv hsm hx
  go_enter Try.func33, Try.ntmps33
  go_wp2_with (first
    | (at_mapUpdate; refine wpList_mapUpdate_in _ rfl _ _ _ 102 rfl 47 3 okB.keyed Try.underlying102 _ bm _ D rfl hown HRL.out _ _ _ rfl rfl hkey _ [] (plainElem_int Try.underlying3 HWF.out) ?_; intro w1 hown1 hturn1; have d1 := (cell_ofK (cell1_ofK HB0.out hturn1 HBM.out)).2.1; rw [HV.out] at d1; replace hown1 := Aside0.mk hown1; replace hturn1 := Aside0.mk hturn1; have HO1 := Aside0.mk (IxK.items_turned HI.out hturn1.out HBMV.out); clear hown hlk)
    | ((with_reducible refine gate_builtin (b := .append) (xs := #[.tmp 34, .tmp 36]) rfl ?_); at_builtin; refine print_append_cells (w0 := w1) 0 rfl (.tmp 34) (.tmp 36) 103 47 (.int .i8 0) 1 1 rfl Try.underlying103 info_B rfl (by decide) (by omega) (.slice A row.length cp) row.length (KTb.row row) [Value.int .i8 x] rfl rfl rfl ?a1 ?aO ?aB ?aS ?aL ?_; (case a1 => (intro u hu; simp at hu; subst hu; rfl)); (case aO => exact (HV.out ▸ HO1.out)); (case aB => exact Below.refl _ _); (case aS => omega); (case aL => exact HN.out); intro v1 w2 hR2 hB2 hg2 hat2; replace hg2 : w1.grownBy w2 v.ownBlock := (HV.out ▸ hg2); replace hat2 := Aside0.mk hat2; have hb2 := Aside0.mk (block_grownK (cell1_ofK HB0.out hturn1.out HBM.out) hg2 HBV.out); have e1 := (cell_ofK hb2.out).2.1; have f1 := (cell_ofK hb2.out).2.2; obtain ⟨A1, k1, rfl⟩ := own_slice hR2; replace hR2 := Aside0.mk hR2; replace hg2 := Aside0.mk hg2; clear hB2))
  go_ret
  exact added_endK okB HA.out HBM.out HBMV.out hown1.out hturn1.out hb2.out (by rw [HCL.out]; exact hR2.out) hg2.out (HV.out ▸ hat2.out)
end Go.Proofs.Ytijmhegccakndaa
