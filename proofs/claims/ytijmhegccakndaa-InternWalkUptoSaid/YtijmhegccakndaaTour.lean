/-
  The argument of InternWalk, opened.
-/
import Derived.Test.YtijmhegccakndaaOpn
import Derived.Test.YtijmhegccakndaaPw
import Derived.Lib.SmallJoins
namespace Go.Proofs.Ytijmhegccakndaa
open Go.RowKit Go.WideShapes Go.ChangeShapes
open Go.Proofs.YtijmhegccakndaaW.PrintWords
open PInternWalk

theorem opn_act {H : Type} : Opn H Try.prog k72 72 (fun a => (fun x : Bool × Int × ByteArray => (1 + (1 + (x.2.2.size + 1))) + 1) (a.f0, a.f1, a.f2)) (fun a => (fun x : Bool × Int × ByteArray => True ∧ (Lit.int .i64 x.2.1).wf = true ∧ x.2.2.size ≤ maxLen) (a.f0, a.f1, a.f2)) :=
  opn_iso (opn_struct Try.underlying72 (by kernel_rfl) (opnF_cons (opn_bool Try.underlying4 (by kernel_rfl)) (opnF_cons (opn_int Try.underlying3 (by kernel_rfl)) (opnF_one (opn_string Try.underlying9 (by kernel_rfl)))))) _ (fun x => ⟨x.1, x.2.1, x.2.2⟩) fun _ => rfl
set_option maxRecDepth 100000 in
theorem tour_arg {H : Type} {enc : TypeId × Value → H} {W : World} {base base' : Nat} {spare : Nat → Bool} {held : Bool} {r : Reach} {v : Value} {d : DataW H} {ps : List MemPlace} (hv : Value.okWide Try.prog W r base' 64 v) (h : DataW.Trod enc Try.prog W base spare held 64 v d ps) :
    ∃ (A1 A2 A3 : Option Addr) (c1 c2 c3 : Nat) (l1 : List ByteArray) (l2 l3 : List S72) (stop other : Int), v = .agg #[.slice A1 l1.length c1, .slice A2 l2.length c2, .slice A3 l3.length c3, .int .i64 stop, .int .i64 other] ∧
      Kd.string.C W A1 l1.length l1 ∧ Kd.C k72 W A2 l2.length l2 ∧ Kd.C k72 W A3 l3.length l3 ∧ l3.length ≤ c3 ∧ l1.length + l2.length + l3.length ≤ Rows.uptoBulk d ∧ (∀ t, t ∈ l1 → t.size ≤ maxLen) ∧ (∀ a, a ∈ l2 → a.f2.size ≤ maxLen) ∧ (∀ a, a ∈ l3 → a.f2.size ≤ maxLen) := by
  have ho : Opn H Try.prog (Kd.pair (Kd.slice 9 Kd.string) (Kd.pair (Kd.slice 72 k72) (Kd.pair (Kd.slice 72 k72) (Kd.pair (Kd.int .i64) (Kd.int .i64))))) 64 _ _ := opn_struct Try.underlying64 (by kernel_rfl)
    (opnF_cons (opn_slice (opn_string Try.underlying9 (by kernel_rfl)) Try.underlying22 (by kernel_rfl)) (opnF_cons (opn_slice opn_act Try.underlying62 (by kernel_rfl)) (opnF_cons (opn_slice opn_act Try.underlying62 (by kernel_rfl)) (opnF_cons (opn_int Try.underlying3 (by kernel_rfl)) (opnF_one (opn_int Try.underlying3 (by kernel_rfl)))))))
  obtain ⟨cs, rfl, _⟩ := okWide_struct Try.underlying64 hv
  obtain ⟨fuel, hf⟩ := h
  obtain ⟨⟨l1, l2, l3, stop, other⟩, hK, hb, o1, o2, o3, _, _⟩ := ho.2 enc W base spare held fuel _ _ hf
  obtain ⟨_, _, e1, ⟨A1, c1, rfl, _, g1⟩, _, _, rfl, ⟨A2, c2, rfl, _, g2⟩, _, _, rfl, ⟨A3, c3, rfl, n3, g3⟩, _, _, rfl, rfl, rfl⟩ := hK
  have e2 : cs = #[.slice A1 l1.length c1, .slice A2 l2.length c2, .slice A3 l3.length c3, .int .i64 stop, .int .i64 other] := by
    apply Array.toList_inj.mp
    exact e1
  subst e2
  have s1 := sum_length (f := fun s : ByteArray => s.size + 1) (fun s => by omega) l1
  have s2 := sum_length (f := fun a : S72 => (fun x : Bool × Int × ByteArray => (1 + (1 + (x.2.2.size + 1))) + 1) (a.f0, a.f1, a.f2)) (fun a => by dsimp only; omega) l2
  have s3 := sum_length (f := fun a : S72 => (fun x : Bool × Int × ByteArray => (1 + (1 + (x.2.2.size + 1))) + 1) (a.f0, a.f1, a.f2)) (fun a => by dsimp only; omega) l3
  refine ⟨A1, A2, A3, c1, c2, c3, l1, l2, l3, stop, other, rfl, g1, g2, g3, n3, ?_, o1, fun a ha => (o2 a ha).2.2, fun a ha => (o3 a ha).2.2⟩
  have hb' := hb
  dsimp only at hb' s1 s2 s3
  omega
end Go.Proofs.Ytijmhegccakndaa
