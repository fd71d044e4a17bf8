/-
  No cell of these rows narrows 'for every input' (looked for: loops, veiled, ifaces, maps, wideKeys, modest, calm, conditions, laid).
  DERIVED. THE GIVEN ROWS OF THIS SEAT. 7 by the template 'for every input the law returns true; each argument reads behind the call as it read before'; 0 by the template 'total and deterministic' (their statements: YtijmhegccakndaaTotals.lean).
  GIVEN WITH THE SEED: the statements are not yours to turn. If you find one false, say at which input.
  Laid BY PROGRAM, IN A SANDBOX (cutbox-rows.mjs): the forced cells as the released guide's own fill.sh prints them over the translation dab5c4675d76e0dd… (all of the seat's roots in one cut). By AI agents, Wed Nov 11 2026. No macro, syntax, notation, axiom, sorry.
-/
import Derived.Test.YtijmhegccakndaaChecked
import GoSem.Claim
import GoSem.ClaimJoined
import GoSem.ClaimMapViews
import Derived.JoinedTies
import Derived.KernelRfl
namespace Go.Proofs.Ytijmhegccakndaa
/- THE CELL 'sum', in the pinned program and in every row, IS THE sha256 OF THE DUMP (.gsa) THAT YtijmhegccakndaaProg.lean LOADS. Nothing in Lean hashes anything: it is a label: what it is worth is what the hold of that sum in a sandbox is worth. -/
noncomputable def Try.pinned : Pinned := { name := "ytijmhegccakndaa", sum := "dab5c4675d76e0dd34f4bdbfd97b0977c7dc06756a9859c30c1d07781f2e1f31", checked := Try.checked }
namespace Rows
def none {H : Type} : Left H := { results := [], args := [] }

/-- 'portagelaw05.InternOrder': WHATEVER THE INPUT: true; the input reads as it did. -/
def internOrderSpec : ChangeSpec := { name := "internOrder", fn := fun _ => fun
  | [d] => { results := [.lit (.bool true)], args := [d] }
  | _ => none }
def internOrderRow : OpenClaim := { program := "ytijmhegccakndaa", sum := "dab5c4675d76e0dd34f4bdbfd97b0977c7dc06756a9859c30c1d07781f2e1f31", func := "portage/portagelaw05.InternOrder", spec := "internOrder", plainKeys := false, apart := false }
def InternOrderSaid : Prop := internOrderRow.holds Try.pinned (OpenSpec.ofChange internOrderSpec)

/-- ITS FALSE NEIGHBOUR: 'it returns false'. Refute it at one input. -/
def internOrderWrong : ChangeSpec := { name := "internOrder", fn := fun _ => fun
  | [d] => { results := [.lit (.bool false)], args := [d] }
  | _ => none }
def InternOrderWrongFalsely : Prop := internOrderRow.holds Try.pinned (OpenSpec.ofChange internOrderWrong)

/-- 'portagelaw05.InternBack': WHATEVER THE INPUT: true; the input reads as it did. -/
def internBackSpec : ChangeSpec := { name := "internBack", fn := fun _ => fun
  | [d1, d2] => { results := [.lit (.bool true)], args := [d1, d2] }
  | _ => none }
def internBackRow : OpenClaim := { program := "ytijmhegccakndaa", sum := "dab5c4675d76e0dd34f4bdbfd97b0977c7dc06756a9859c30c1d07781f2e1f31", func := "portage/portagelaw05.InternBack", spec := "internBack", plainKeys := false, apart := false }
def InternBackSaid : Prop := internBackRow.holds Try.pinned (OpenSpec.ofChange internBackSpec)

/-- ITS FALSE NEIGHBOUR: 'it returns false'. Refute it at one input. -/
def internBackWrong : ChangeSpec := { name := "internBack", fn := fun _ => fun
  | [d1, d2] => { results := [.lit (.bool false)], args := [d1, d2] }
  | _ => none }
def InternBackWrongFalsely : Prop := internBackRow.holds Try.pinned (OpenSpec.ofChange internBackWrong)

/-- 'portagelaw05.InternFrom': WHATEVER THE INPUT: true; the input reads as it did. -/
def internFromSpec : ChangeSpec := { name := "internFrom", fn := fun _ => fun
  | [d1, d2] => { results := [.lit (.bool true)], args := [d1, d2] }
  | _ => none }
def internFromRow : OpenClaim := { program := "ytijmhegccakndaa", sum := "dab5c4675d76e0dd34f4bdbfd97b0977c7dc06756a9859c30c1d07781f2e1f31", func := "portage/portagelaw05.InternFrom", spec := "internFrom", plainKeys := false, apart := false }
def InternFromSaid : Prop := internFromRow.holds Try.pinned (OpenSpec.ofChange internFromSpec)

/-- ITS FALSE NEIGHBOUR: 'it returns false'. Refute it at one input. -/
def internFromWrong : ChangeSpec := { name := "internFrom", fn := fun _ => fun
  | [d1, d2] => { results := [.lit (.bool false)], args := [d1, d2] }
  | _ => none }
def InternFromWrongFalsely : Prop := internFromRow.holds Try.pinned (OpenSpec.ofChange internFromWrong)

/-- 'portagelaw05.InternCut': WHATEVER THE INPUT: true; the input reads as it did. -/
def internCutSpec : ChangeSpec := { name := "internCut", fn := fun _ => fun
  | [d1, d2] => { results := [.lit (.bool true)], args := [d1, d2] }
  | _ => none }
def internCutRow : OpenClaim := { program := "ytijmhegccakndaa", sum := "dab5c4675d76e0dd34f4bdbfd97b0977c7dc06756a9859c30c1d07781f2e1f31", func := "portage/portagelaw05.InternCut", spec := "internCut", plainKeys := false, apart := false }
def InternCutSaid : Prop := internCutRow.holds Try.pinned (OpenSpec.ofChange internCutSpec)

/-- ITS FALSE NEIGHBOUR: 'it returns false'. Refute it at one input. -/
def internCutWrong : ChangeSpec := { name := "internCut", fn := fun _ => fun
  | [d1, d2] => { results := [.lit (.bool false)], args := [d1, d2] }
  | _ => none }
def InternCutWrongFalsely : Prop := internCutRow.holds Try.pinned (OpenSpec.ofChange internCutWrong)

/-- 'portagelaw05.InternKinds': WHATEVER THE INPUT: true; the input reads as it did. -/
def internKindsSpec : ChangeSpec := { name := "internKinds", fn := fun _ => fun
  | [d] => { results := [.lit (.bool true)], args := [d] }
  | _ => none }
def internKindsRow : OpenClaim := { program := "ytijmhegccakndaa", sum := "dab5c4675d76e0dd34f4bdbfd97b0977c7dc06756a9859c30c1d07781f2e1f31", func := "portage/portagelaw05.InternKinds", spec := "internKinds", plainKeys := false, apart := false }
def InternKindsSaid : Prop := internKindsRow.holds Try.pinned (OpenSpec.ofChange internKindsSpec)

/-- ITS FALSE NEIGHBOUR: 'it returns false'. Refute it at one input. -/
def internKindsWrong : ChangeSpec := { name := "internKinds", fn := fun _ => fun
  | [d] => { results := [.lit (.bool false)], args := [d] }
  | _ => none }
def InternKindsWrongFalsely : Prop := internKindsRow.holds Try.pinned (OpenSpec.ofChange internKindsWrong)

/-- 'portagelaw05.InternWalk': WHATEVER THE INPUT: true; the input reads as it did. -/
def internWalkSpec : ChangeSpec := { name := "internWalk", fn := fun _ => fun
  | [d] => { results := [.lit (.bool true)], args := [d] }
  | _ => none }
def internWalkRow : OpenClaim := { program := "ytijmhegccakndaa", sum := "dab5c4675d76e0dd34f4bdbfd97b0977c7dc06756a9859c30c1d07781f2e1f31", func := "portage/portagelaw05.InternWalk", spec := "internWalk", unfollowed := true, recurses := true, plainKeys := false, apart := false }
def InternWalkSaid : Prop := internWalkRow.holds Try.pinned (OpenSpec.ofChange internWalkSpec)

/-- ITS FALSE NEIGHBOUR: 'it returns false'. Refute it at one input. -/
def internWalkWrong : ChangeSpec := { name := "internWalk", fn := fun _ => fun
  | [d] => { results := [.lit (.bool false)], args := [d] }
  | _ => none }
def InternWalkWrongFalsely : Prop := internWalkRow.holds Try.pinned (OpenSpec.ofChange internWalkWrong)

/-- 'portagelaw05.InternScript': WHATEVER THE INPUT: true; the input reads as it did. -/
def internScriptSpec : ChangeSpec := { name := "internScript", fn := fun _ => fun
  | [d] => { results := [.lit (.bool true)], args := [d] }
  | _ => none }
def internScriptRow : OpenClaim := { program := "ytijmhegccakndaa", sum := "dab5c4675d76e0dd34f4bdbfd97b0977c7dc06756a9859c30c1d07781f2e1f31", func := "portage/portagelaw05.InternScript", spec := "internScript", plainKeys := false, apart := false }
def InternScriptSaid : Prop := internScriptRow.holds Try.pinned (OpenSpec.ofChange internScriptSpec)

/-- ITS FALSE NEIGHBOUR: 'it returns false'. Refute it at one input. -/
def internScriptWrong : ChangeSpec := { name := "internScript", fn := fun _ => fun
  | [d] => { results := [.lit (.bool false)], args := [d] }
  | _ => none }
def InternScriptWrongFalsely : Prop := internScriptRow.holds Try.pinned (OpenSpec.ofChange internScriptWrong)

/- THE SECOND FORM. 'bulk': how many values and letters a reading holds, each counted each time it is reached (what is shared counts as often as it is met; a slice's spare places count too). A statement '..UptoSaid' is the law's where the arguments, and the package variables that the reading takes, are together of bulk at most 1048576: NARROWER than '..Said'. Prove '..Said' where nothing that the law and all that it calls make is longer than what came in: it says more and counts as full. Else prove '..UptoSaid'. A law counts once. -/
mutual
def uptoBulk {H : Type} : DataW H → Nat
  | .lit (.string bytes) => bytes.length + 1
  | .lit _ => 1
  | .nil => 1
  | .ptr d => uptoBulk d + 1
  | .slice elems spare => uptoBulkAll elems + uptoBulkAll spare + 1
  | .agg parts => uptoBulkAll parts + 1
  | .iface _ d => uptoBulk d + 1
  | .map entries => uptoBulkEntries entries + 1
  | .held _ => 1
def uptoBulkAll {H : Type} : List (DataW H) → Nat
  | [] => 0
  | d :: r => uptoBulk d + uptoBulkAll r
def uptoBulkEntries {H : Type} : List (Lit × DataW H) → Nat
  | [] => 0
  | x :: r => uptoBulkEntry x + uptoBulkEntries r
def uptoBulkEntry {H : Type} : Lit × DataW H → Nat
  | (.string bytes, d) => bytes.length + uptoBulk d + 1
  | (_, d) => uptoBulk d + 1
 end
def uptoSmall : (H : Type) → List (DataW H) → Bool := fun _ ds => decide (uptoBulkAll ds ≤ 1048576)
def OpenSpec.upto (s : _root_.Go.ChangeSpec) : _root_.Go.OpenSpec := { _root_.Go.OpenSpec.ofChange s with cond := some uptoSmall }

/-- 'portagelaw05.InternOrder', WHERE WHAT IT READS IS OF BULK AT MOST 1048576: true; the input reads as it did. -/
def internOrderUptoRow : OpenClaim := { program := "ytijmhegccakndaa", sum := "dab5c4675d76e0dd34f4bdbfd97b0977c7dc06756a9859c30c1d07781f2e1f31", func := "portage/portagelaw05.InternOrder", spec := "internOrder", plainKeys := false, apart := false, narrowed := true }
def InternOrderUptoSaid : Prop := internOrderUptoRow.holds Try.pinned (OpenSpec.upto internOrderSpec)

/-- 'portagelaw05.InternBack', WHERE WHAT IT READS IS OF BULK AT MOST 1048576: true; the input reads as it did. -/
def internBackUptoRow : OpenClaim := { program := "ytijmhegccakndaa", sum := "dab5c4675d76e0dd34f4bdbfd97b0977c7dc06756a9859c30c1d07781f2e1f31", func := "portage/portagelaw05.InternBack", spec := "internBack", plainKeys := false, apart := false, narrowed := true }
def InternBackUptoSaid : Prop := internBackUptoRow.holds Try.pinned (OpenSpec.upto internBackSpec)

/-- 'portagelaw05.InternFrom', WHERE WHAT IT READS IS OF BULK AT MOST 1048576: true; the input reads as it did. -/
def internFromUptoRow : OpenClaim := { program := "ytijmhegccakndaa", sum := "dab5c4675d76e0dd34f4bdbfd97b0977c7dc06756a9859c30c1d07781f2e1f31", func := "portage/portagelaw05.InternFrom", spec := "internFrom", plainKeys := false, apart := false, narrowed := true }
def InternFromUptoSaid : Prop := internFromUptoRow.holds Try.pinned (OpenSpec.upto internFromSpec)

/-- 'portagelaw05.InternCut', WHERE WHAT IT READS IS OF BULK AT MOST 1048576: true; the input reads as it did. -/
def internCutUptoRow : OpenClaim := { program := "ytijmhegccakndaa", sum := "dab5c4675d76e0dd34f4bdbfd97b0977c7dc06756a9859c30c1d07781f2e1f31", func := "portage/portagelaw05.InternCut", spec := "internCut", plainKeys := false, apart := false, narrowed := true }
def InternCutUptoSaid : Prop := internCutUptoRow.holds Try.pinned (OpenSpec.upto internCutSpec)

/-- 'portagelaw05.InternKinds', WHERE WHAT IT READS IS OF BULK AT MOST 1048576: true; the input reads as it did. -/
def internKindsUptoRow : OpenClaim := { program := "ytijmhegccakndaa", sum := "dab5c4675d76e0dd34f4bdbfd97b0977c7dc06756a9859c30c1d07781f2e1f31", func := "portage/portagelaw05.InternKinds", spec := "internKinds", plainKeys := false, apart := false, narrowed := true }
def InternKindsUptoSaid : Prop := internKindsUptoRow.holds Try.pinned (OpenSpec.upto internKindsSpec)

/-- 'portagelaw05.InternWalk', WHERE WHAT IT READS IS OF BULK AT MOST 1048576: true; the input reads as it did. -/
def internWalkUptoRow : OpenClaim := { program := "ytijmhegccakndaa", sum := "dab5c4675d76e0dd34f4bdbfd97b0977c7dc06756a9859c30c1d07781f2e1f31", func := "portage/portagelaw05.InternWalk", spec := "internWalk", unfollowed := true, recurses := true, plainKeys := false, apart := false, narrowed := true }
def InternWalkUptoSaid : Prop := internWalkUptoRow.holds Try.pinned (OpenSpec.upto internWalkSpec)

/-- 'portagelaw05.InternScript', WHERE WHAT IT READS IS OF BULK AT MOST 1048576: true; the input reads as it did. -/
def internScriptUptoRow : OpenClaim := { program := "ytijmhegccakndaa", sum := "dab5c4675d76e0dd34f4bdbfd97b0977c7dc06756a9859c30c1d07781f2e1f31", func := "portage/portagelaw05.InternScript", spec := "internScript", plainKeys := false, apart := false, narrowed := true }
def InternScriptUptoSaid : Prop := internScriptUptoRow.holds Try.pinned (OpenSpec.upto internScriptSpec)

end Rows
end Go.Proofs.Ytijmhegccakndaa
