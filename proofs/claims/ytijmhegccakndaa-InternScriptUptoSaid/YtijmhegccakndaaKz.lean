/-
  The script's calls, as they are read.
-/
import Derived.Test.YtijmhegccakndaaPl
import Derived.Test.YtijmhegccakndaaTx
namespace Go.Proofs.Ytijmhegccakndaa
open Go.RowKit
open Go.Proofs.YtijmhegccakndaaW.PrintWords Go.Proofs.YtijmhegccakndaaW.PrintMore
set_option linter.unusedVariables false

/-- one call of a script: on which index, of which kind, a number, a text, a list -/
structure S87 where
  f0 : Int
  f1 : Int
  f2 : Int
  f3 : ByteArray
  f4 : List ByteArray
def k87 : Kd S87 := Kd.iso (Kd.pair (Kd.int .i64) (Kd.pair (Kd.int .i64) (Kd.pair (Kd.int .i64) (Kd.pair Kd.string (Kd.slice 9 Kd.string))))) (fun x : S87 => (x.f0, x.f1, x.f2, x.f3, x.f4))
theorem k87_open {w : World} {x : S87} {cs : List Value} (h : k87.K w x cs) : ∃ A4 c4, cs = [.int .i64 x.f0, .int .i64 x.f1, .int .i64 x.f2, .string x.f3, .slice A4 x.f4.length c4] ∧ x.f4.length ≤ c4 ∧ Kd.string.C w A4 x.f4.length x.f4 := by
  obtain ⟨_, _, rfl, rfl, _, _, rfl, rfl, _, _, rfl, rfl, _, _, rfl, rfl, A4, c4, rfl, l4, g4⟩ := h
  exact ⟨A4, c4, rfl, l4, g4⟩
theorem cell_op {w : World} {A : Option Addr} {sc : List S87} (HR : Kd.C k87 w A sc.length sc) {k : Nat} {x : S87} (h : sc[k]? = some x) : ∃ ad A4 c4, A = some ad ∧ w.cell? (ad.add (k * 5)) = some (.int .i64 x.f0) ∧ w.cell? ⟨(ad.add (k * 5)).block, (ad.add (k * 5)).off + 1, none⟩ = some (.int .i64 x.f1) ∧ w.cell? ⟨(ad.add (k * 5)).block, (ad.add (k * 5)).off + 2, none⟩ = some (.int .i64 x.f2) ∧ w.cell? ⟨(ad.add (k * 5)).block, (ad.add (k * 5)).off + 3, none⟩ = some (.string x.f3) ∧ w.cell? ⟨(ad.add (k * 5)).block, (ad.add (k * 5)).off + 4, none⟩ = some (.slice A4 x.f4.length c4) ∧ x.f4.length ≤ c4 ∧ Kd.string.C w A4 x.f4.length x.f4 := by
  have hlt := (List.getElem?_eq_some_iff.1 h).1
  obtain ⟨ad, e, hc⟩ := HR.2.2 (by omega)
  obtain ⟨cs, _, hK, hcc⟩ := hc k x h
  obtain ⟨A4, c4, rfl, l4, g4⟩ := k87_open hK
  have hd : ∀ (j : Nat) (u : Value), ([.int .i64 x.f0, .int .i64 x.f1, .int .i64 x.f2, .string x.f3, .slice A4 x.f4.length c4] : List Value)[j]? = some u → w.cell? (ad.add (k * 5 + j)) = some u := hcc
  exact ⟨ad, A4, c4, e, hd 0 _ rfl, by rw [← add_field _ _ 1 (by omega)]; exact hd 1 _ rfl, by rw [← add_field _ _ 2 (by omega)]; exact hd 2 _ rfl, by rw [← add_field _ _ 3 (by omega)]; exact hd 3 _ rfl, by rw [← add_field _ _ 4 (by omega)]; exact hd 4 _ rfl, l4, g4⟩
end Go.Proofs.Ytijmhegccakndaa
