/-
  The argument of InternScript, opened.
-/
import Derived.Test.YtijmhegccakndaaOpn
import Derived.Test.YtijmhegccakndaaKz
import Derived.Lib.SmallJoins
namespace Go.Proofs.Ytijmhegccakndaa
open Go.RowKit Go.WideShapes Go.ChangeShapes
open Go.Proofs.YtijmhegccakndaaW.PrintWords

theorem le_sum {α : Type} (f : α → Nat) : ∀ (xs : List α) (x : α), x ∈ xs → f x ≤ (xs.map f).sum := by
  intro xs
  induction xs with
  | nil => intro x h; cases h
  | cons a xs ih =>
    intro x h
    rcases List.mem_cons.1 h with rfl | h2
    · simp
    · have := ih x h2
      simp
      omega
/-- how much one call of a script is -/
def bk87 (a : S87) : Nat := (1 + (1 + (1 + ((a.f3.size + 1) + ((a.f4.map fun s => s.size + 1).sum + 1))))) + 1
theorem opn_op {H : Type} : Opn H Try.prog k87 87 bk87 (fun a => (fun x : Int × Int × Int × ByteArray × List ByteArray => (Lit.int .i64 x.1).wf = true ∧ (Lit.int .i64 x.2.1).wf = true ∧ (Lit.int .i64 x.2.2.1).wf = true ∧ x.2.2.2.1.size ≤ maxLen ∧ ∀ t, t ∈ x.2.2.2.2 → t.size ≤ maxLen) (a.f0, a.f1, a.f2, a.f3, a.f4)) :=
  opn_iso (opn_struct Try.underlying87 (by kernel_rfl) (opnF_cons (opn_int Try.underlying3 (by kernel_rfl)) (opnF_cons (opn_int Try.underlying3 (by kernel_rfl)) (opnF_cons (opn_int Try.underlying3 (by kernel_rfl)) (opnF_cons (opn_string Try.underlying9 (by kernel_rfl)) (opnF_one (opn_slice (opn_string Try.underlying9 (by kernel_rfl)) Try.underlying22 (by kernel_rfl)))))))) _ (fun x => ⟨x.1, x.2.1, x.2.2.1, x.2.2.2.1, x.2.2.2.2⟩) fun _ => rfl
set_option maxRecDepth 100000 in
theorem script_arg {H : Type} {enc : TypeId × Value → H} {W : World} {base base' : Nat} {spare : Nat → Bool} {held : Bool} {r : Reach} {v : Value} {d : DataW H} {ps : List MemPlace} (hv : Value.okWide Try.prog W r base' 82 v) (h : DataW.Trod enc Try.prog W base spare held 82 v d ps) :
    ∃ (A : Option Addr) (c : Nat) (sc : List S87), v = .slice A sc.length c ∧ Kd.C k87 W A sc.length sc ∧ sc.length ≤ Rows.uptoBulk d ∧ ∀ x, x ∈ sc → x.f4.length ≤ Rows.uptoBulk d ∧ x.f3.size ≤ maxLen ∧ ∀ t, t ∈ x.f4 → t.size ≤ maxLen := by
  have ho : Opn H Try.prog (Kd.slice 87 k87) 82 _ _ := opn_slice opn_op Try.underlying82 (by kernel_rfl)
  obtain ⟨a, len, cap, rfl⟩ := okWide_slice Try.underlying82 hv
  obtain ⟨fuel, hf⟩ := h
  obtain ⟨sc, hK, hb, o1⟩ := ho.2 enc W base spare held fuel _ _ hf
  obtain ⟨A, c, e1, _, g1⟩ := hK
  have e2 : Value.slice a len cap = .slice A sc.length c := by simpa [Value.cells] using e1
  cases e2
  have s1 := sum_length (f := bk87) (fun a => by unfold bk87; omega) sc
  dsimp only at hb
  refine ⟨_, _, sc, rfl, g1, by omega, fun x hx => ⟨?_, (o1 x hx).2.2.2.1, (o1 x hx).2.2.2.2⟩⟩
  have h1 := le_sum bk87 sc x hx
  have h2 := sum_length (f := fun s : ByteArray => s.size + 1) (fun s => by omega) x.f4
  unfold bk87 at h1
  unfold bk87 at hb
  omega
end Go.Proofs.Ytijmhegccakndaa
