/-
  The arguments of ListInstr, opened: a program, an instruction.
-/
import Derived.Test.YtpallcggmaheoaaDoorOpn
import Derived.Test.YtpallcggmaheoaaDoorPListInstrx0
import Derived.Lib.SmallJoins
namespace Go.Proofs.YtpallcggmaheoaaDoor
open Go.RowKit Go.WideShapes Go.ChangeShapes
open Go.Proofs.YtpallcggmaheoaaDoorW.PrintWords
open PListInstr
set_option linter.unusedVariables false

theorem le_sum {α : Type} (f : α → Nat) : ∀ (xs : List α) (x : α), x ∈ xs → f x ≤ (xs.map f).sum := by
  intro xs
  induction xs with
  | nil => intro x h; cases h
  | cons a xs ih =>
    intro x h
    rcases List.mem_cons.1 h with rfl | h2
    · simp
    · have := ih x h2
      simp
      omega
/-- how much a constant, an instruction, a handler, a function is -/
def bk44 (a : S44) : Nat := (1 + (1 + (a.f2.size + 1))) + 1
def bk27 (a : S27) : Nat := (1 + 1) + 1
def bk55 (a : S55) : Nat := (1 + (1 + (1 + 1))) + 1
def bk42 (a : S42) : Nat := ((a.f0.size + 1) + (1 + (1 + (((a.f3.map bk27).sum + 1) + ((a.f4.map bk55).sum + 1))))) + 1
theorem opn_44 {H : Type} : Opn H Tryd.prog k44 44 bk44 (fun a => (fun x : Int × Int × ByteArray => (Lit.int .i64 x.1).wf = true ∧ (Lit.int .i64 x.2.1).wf = true ∧ x.2.2.size ≤ maxLen) (a.f0, a.f1, a.f2)) :=
  opn_iso (opn_struct Tryd.underlying44 (by kernel_rfl) (opnF_cons (opn_int Tryd.underlying3 (by kernel_rfl)) (opnF_cons (opn_int Tryd.underlying2 (by kernel_rfl)) (opnF_one (opn_string Tryd.underlying9 (by kernel_rfl)))))) _ (fun x => ⟨x.1, x.2.1, x.2.2⟩) fun _ => rfl
theorem opn_27 {H : Type} : Opn H Tryd.prog k27 27 bk27 (fun a => (fun x : Int × Int => (Lit.int .i64 x.1).wf = true ∧ (Lit.int .i64 x.2).wf = true) (a.f0, a.f1)) :=
  opn_iso (opn_struct Tryd.underlying27 (by kernel_rfl) (opnF_cons (opn_int Tryd.underlying3 (by kernel_rfl)) (opnF_one (opn_int Tryd.underlying2 (by kernel_rfl))))) _ (fun x => ⟨x.1, x.2⟩) fun _ => rfl
theorem opn_55 {H : Type} : Opn H Tryd.prog k55 55 bk55 (fun a => (fun x : Int × Int × Int × Int => (Lit.int .i64 x.1).wf = true ∧ (Lit.int .i64 x.2.1).wf = true ∧ (Lit.int .i64 x.2.2.1).wf = true ∧ (Lit.int .i64 x.2.2.2).wf = true) (a.f0, a.f1, a.f2, a.f3)) :=
  opn_iso (opn_struct Tryd.underlying55 (by kernel_rfl) (opnF_cons (opn_int Tryd.underlying3 (by kernel_rfl)) (opnF_cons (opn_int Tryd.underlying3 (by kernel_rfl)) (opnF_cons (opn_int Tryd.underlying3 (by kernel_rfl)) (opnF_one (opn_int Tryd.underlying3 (by kernel_rfl))))))) _ (fun x => ⟨x.1, x.2.1, x.2.2.1, x.2.2.2⟩) fun _ => rfl
theorem opn_42 {H : Type} : ∃ ok, Opn H Tryd.prog k42 42 bk42 ok :=
  ⟨_, opn_iso (opn_struct Tryd.underlying42 (by kernel_rfl) (opnF_cons (opn_string Tryd.underlying9 (by kernel_rfl)) (opnF_cons (opn_int Tryd.underlying3 (by kernel_rfl)) (opnF_cons (opn_int Tryd.underlying3 (by kernel_rfl)) (opnF_cons (opn_slice opn_27 Tryd.underlying39 (by kernel_rfl)) (opnF_one (opn_slice opn_55 Tryd.underlying40 (by kernel_rfl)))))))) _ (fun x => ⟨x.1, x.2.1, x.2.2.1, x.2.2.2.1, x.2.2.2.2⟩) fun _ => rfl⟩
set_option maxRecDepth 100000 in
theorem prog_arg {H : Type} {enc : TypeId × Value → H} {W : World} {base base' : Nat} {spare : Nat → Bool} {held : Bool} {r : Reach} {v : Value} {d : DataW H} {ps : List MemPlace} (hv : Value.okWide Tryd.prog W r base' 25 v) (h : DataW.Trod enc Tryd.prog W base spare held 25 v d ps) :
    ∃ (A0 A1 : Option Addr) (c0 c1 : Nat) (cs : List S44) (fs : List S42), v = .agg #[.slice A0 cs.length c0, .slice A1 fs.length c1] ∧ Kd.C k44 W A0 cs.length cs ∧ Kd.C k42 W A1 fs.length fs ∧ cs.length ≤ Rows.uptoBulk d ∧ fs.length ≤ Rows.uptoBulk d ∧ ∀ f, f ∈ fs → f.f3.length ≤ Rows.uptoBulk d ∧ f.f4.length ≤ Rows.uptoBulk d ∧ f.f0.size ≤ Rows.uptoBulk d := by
  obtain ⟨ok, h42⟩ := opn_42 (H := H)
  have ho : Opn H Tryd.prog (Kd.pair (Kd.slice 44 k44) (Kd.slice 42 k42)) 25 _ _ := opn_struct Tryd.underlying25 (by kernel_rfl) (opnF_cons (opn_slice opn_44 Tryd.underlying22 (by kernel_rfl)) (opnF_one (opn_slice h42 Tryd.underlying23 (by kernel_rfl))))
  obtain ⟨cs0, rfl, _⟩ := okWide_struct Tryd.underlying25 hv
  obtain ⟨fuel, hf⟩ := h
  obtain ⟨⟨cs, fs⟩, hK, hb, _⟩ := ho.2 enc W base spare held fuel _ _ hf
  obtain ⟨_, _, e1, ⟨A0, c0, rfl, _, g0⟩, A1, c1, rfl, _, g1⟩ := hK
  have e2 : cs0 = #[.slice A0 cs.length c0, .slice A1 fs.length c1] := by
    apply Array.toList_inj.mp
    exact e1
  subst e2
  have s1 := sum_length (f := bk44) (fun a => by unfold bk44; omega) cs
  have s2 := sum_length (f := bk42) (fun a => by unfold bk42; omega) fs
  dsimp only at hb
  refine ⟨A0, A1, c0, c1, cs, fs, rfl, g0, g1, by omega, by omega, fun f hf => ?_⟩
  have h1 := le_sum bk42 fs f hf
  have h2 := sum_length (f := bk27) (fun a => by unfold bk27; omega) f.f3
  have h3 := sum_length (f := bk55) (fun a => by unfold bk55; omega) f.f4
  have h4 : bk42 f = ((f.f0.size + 1) + (1 + (1 + (((f.f3.map bk27).sum + 1) + ((f.f4.map bk55).sum + 1))))) + 1 := rfl
  omega
set_option maxRecDepth 100000 in
theorem instr_arg {H : Type} {enc : TypeId × Value → H} {W : World} {base base' : Nat} {spare : Nat → Bool} {held : Bool} {r : Reach} {v : Value} {d : DataW H} {ps : List MemPlace} (hv : Value.okWide Tryd.prog W r base' 27 v) (h : DataW.Trod enc Tryd.prog W base spare held 27 v d ps) :
    ∃ n a : Int, v = .agg #[.int .i64 n, .int .i64 a] ∧ -9223372036854775808 ≤ a ∧ a ≤ 9223372036854775807 := by
  obtain ⟨cs0, rfl, _⟩ := okWide_struct Tryd.underlying27 hv
  obtain ⟨fuel, hf⟩ := h
  obtain ⟨x, hK, _, o1, o2⟩ := opn_27.2 enc W base spare held fuel _ _ hf
  have e1 := k27_open hK
  have e2 : cs0 = #[.int .i64 x.f0, .int .i64 x.f1] := by
    apply Array.toList_inj.mp
    exact e1
  subst e2
  have hx : -9223372036854775808 ≤ x.f1 ∧ x.f1 ≤ 9223372036854775807 := by simpa [Lit.wf, IntKind.min, IntKind.max, IntKind.signed, IntKind.bits] using o2
  exact ⟨x.f0, x.f1, rfl, hx.1, hx.2⟩
end Go.Proofs.YtpallcggmaheoaaDoor
