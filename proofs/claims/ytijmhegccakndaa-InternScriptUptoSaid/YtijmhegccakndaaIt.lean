/-
  Items hands out a row of its own, without spare room.
-/
import Derived.Test.YtijmhegccakndaaOne
namespace Go.Proofs.Ytijmhegccakndaa
open Go.RowKit Go.Maps Go.WideMaps
open Go.ChangeMaps (setBlock)
open Go.Proofs.YtijmhegccakndaaW.PrintWords Go.Proofs.YtijmhegccakndaaW.PrintMore

theorem items_full (w : World) (b bm : Nat) (v : Value) (D : DataW Unit) (row : List ByteArray) (h : Ix w b bm v D row) (hn : row.length * 16 ≤ 281474976710656) :
    Calls Try.prog 13 #[.pointer (some ⟨b, 0, none⟩)] w fun e w' => e = .returned (.slice (some ⟨w.heap.size, 0, none⟩) row.length row.length) ∧ Kd.string.R 9 w' w.heap.size (fun _ => True) (.slice (some ⟨w.heap.size, 0, none⟩) row.length row.length) row ∧ Below w.heap.size w w' := by
  obtain ⟨A, c, rfl⟩ := h.slice
  have hR : Kd.string.R 9 w 0 (fun _ => True) (.slice A row.length c) row := Kd.R_of_own h.items (fun _ _ => trivial)
  have HC := Aside0.mk (Kd.R_reads' hR).2.2
  have c1 : w.cell? ⟨b, 1, none⟩ = some (.slice A row.length c) := by simp [World.cell?, h.block]
  have hlt : b < w.heap.size := (Array.getElem?_eq_some_iff.1 h.block).1
  have hmk := print_make_of (P := Try.prog) 22 9 (.string ⟨#[]⟩) 16 Try.underlying22 info9 rfl (by omega) row.length hn
  have HM := Aside0.mk (show row.length ≤ 9223372036854775807 by omega)
  have HO := Aside0.mk (show Kd.string.R 9 (w.alloc (.cells (madeCells #[.string ⟨#[]⟩] row.length) 9)) w.heap.size (fun _ => True) (.slice (some ⟨w.heap.size, 0, none⟩) row.length row.length) (List.replicate row.length (⟨#[]⟩ : ByteArray)) from
    Kd.R_of_own (by rw [List.length_replicate]; exact own_made_of (enc := Value.string) (d := (⟨#[]⟩ : ByteArray)) w w.heap.size 9 row.length (Nat.le_refl _) HM.out) (fun _ _ => trivial))
  clear h hR hn
  go_enter Try.func13, Try.ntmps13
  go_wp2_with (first | ((with_reducible refine gate_builtin (b := .copy) (xs := #[.tmp 10, .tmp 14]) rfl ?_); refine Kd.R_copy (enc := Value.string) (h1 := fun _ => rfl) (⟨#[]⟩ : ByteArray) (w0 := w) w.heap.size rfl (.tmp 10) (.tmp 14) 22 22 9 rfl Try.underlying22 (by kernel_rfl) (.slice (some ⟨w.heap.size, 0, none⟩) row.length row.length) (List.replicate row.length (⟨#[]⟩ : ByteArray)) row A row.length c (fun _ => True) rfl rfl HO.out (Kd.C_alloc HC.out _) ?aB ?aS ?_; (case aB => exact below_alloc (Below.refl _ _) _); (case aS => simp); intro w1 hR1 hB1 hg1; replace hR1 := Aside0.mk hR1; replace hB1 := Aside0.mk hB1; replace hg1 := Aside0.mk hg1))
  go_ret
  refine ⟨rfl, ?_, hB1.out⟩
  have h2 := hR1.out
  simp at h2
  exact h2
theorem items_at_full (w : World) (base b : Nat) (row : List ByteArray) (h : At w base b row) (hn : row.length * 16 ≤ 281474976710656) : Calls Try.prog 13 #[.pointer (some ⟨b, 0, none⟩)] w fun e w' => e = .returned (.slice (some ⟨w.heap.size, 0, none⟩) row.length row.length) ∧ Kd.string.R 9 w' w.heap.size (fun _ => True) (.slice (some ⟨w.heap.size, 0, none⟩) row.length row.length) row ∧ Below w.heap.size w w' := by
  obtain ⟨bm, v, D, hI, _⟩ := h
  exact items_full w b bm v D row hI hn
end Go.Proofs.Ytijmhegccakndaa
