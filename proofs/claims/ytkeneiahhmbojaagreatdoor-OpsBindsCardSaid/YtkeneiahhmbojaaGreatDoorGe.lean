/-
  Values copied and compared: the plain laws.
  What an argument reads as: a slice of structs of two whole numbers.
  A slice of values, as an argument.
-/
import Derived.Test.YtkeneiahhmbojaaGreatDoorGs
import Derived.WalkKit
import Derived.ProofKit
import Derived.OpenShut
import Derived.ShutString
import Derived.ChangeOld
import Derived.Below
import Derived.SizedLaws
import Derived.SliceStrings
import Derived.DataElems
namespace Go.Proofs.YtkeneiahhmbojaaGreatDoor
open Go.RowKit
open Go.Proofs.YtkeneiahhmbojaaGreatDoorW.PrintWords Go.Proofs.YtkeneiahhmbojaaGreatDoorW.PrintMore
open POpsBinds

theorem wrap64_next (i : Nat) (h : i < 4096) : wrap64 ((i : Int) + 1) = ((i + 1 : Nat) : Int) := by
  unfold wrap64
  omega
theorem rd41_at (l : List S41) (i : Nat) (x : S41) (h : l[i]? = some x) : rd_T41 l (i : Int) = x := by
  unfold rd_T41
  simp [List.getD_eq_getElem?_getD, h]
theorem sameV_from (l : List S41) (hl : l.length ≤ 200) : ∀ d k i, i + d = l.length → d < k → portageref0_SameValues.l0 k l l (i : Int) = some true := by
  intro d
  induction d with
  | zero =>
    intro k i hi hk
    obtain ⟨k, rfl⟩ : ∃ q, k = q + 1 := ⟨k - 1, by omega⟩
    unfold portageref0_SameValues.l0
    rw [if_neg (by omega)]
  | succ d ih =>
    intro k i hi hk
    obtain ⟨k, rfl⟩ : ∃ q, k = q + 1 := ⟨k - 1, by omega⟩
    unfold portageref0_SameValues.l0
    rw [if_pos (by omega), if_pos (by omega), if_pos (by omega), if_neg (by simp), wrap64_next i (by omega)]
    exact ih k (i + 1) (by omega) (by omega)
theorem sameV (l : List S41) (hl : l.length ≤ 200) : portageref0_SameValues.f 300 l l = some true := by
  unfold portageref0_SameValues.f
  rw [if_pos rfl]
  exact sameV_from l hl l.length 300 0 (by omega) (by omega)
theorem copyV_from (l : List S41) (hl : l.length ≤ 200) : ∀ d k i, i + d = l.length → d < k → portageref0_CopyValues.l0 k l (l.take i) (i : Int) = some l := by
  intro d
  induction d with
  | zero =>
    intro k i hi hk
    obtain ⟨k, rfl⟩ : ∃ q, k = q + 1 := ⟨k - 1, by omega⟩
    unfold portageref0_CopyValues.l0
    rw [if_neg (by omega), List.take_of_length_le (by omega)]
  | succ d ih =>
    intro k i hi hk
    obtain ⟨k, rfl⟩ : ∃ q, k = q + 1 := ⟨k - 1, by omega⟩
    obtain ⟨x, hx⟩ : ∃ x, l[i]? = some x := ⟨_, List.getElem?_eq_getElem (by omega)⟩
    unfold portageref0_CopyValues.l0
    rw [if_pos (by omega), if_pos (by omega), if_pos (by rw [List.length_take]; omega), wrap64_next i (by omega), rd41_at l i x hx]
    have : l.take i ++ [(⟨x.f0, x.f1⟩ : S41)] = l.take (i + 1) := by rw [List.take_add_one, hx]; rfl
    rw [this]
    exact ih k (i + 1) (by omega) (by omega)
theorem copyV (l : List S41) (hl : l.length ≤ 200) : portageref0_CopyValues.f 300 l = some l := by
  have := copyV_from l hl l.length 300 0 (by omega) (by omega)
  rw [List.take_zero] at this
  exact this
theorem sameO (l : List S41) (hl : l.length ≤ 200) : portageref0_SameObject.f 301 8 l [] 0 0 false 8 l [] 0 0 false = some true := by
  unfold portageref0_SameObject.f
  rw [if_pos rfl, if_pos rfl, if_pos rfl]
  show portageref0_SameObject.j0 (300 + 1) (false != false) 8 l [] 0 0 false 8 l [] 0 0 false = some true
  simp only [portageref0_SameObject.j0]
  rw [if_neg (by decide), sameV l hl]
  rfl
end Go.Proofs.YtkeneiahhmbojaaGreatDoor

namespace Go.Proofs.YtkeneiahhmbojaaGreatDoor
open Go.RowKit Go.WideShapes Go.ChangeShapes Go.ChangeAt Go.ChangeMaps
open Go.Proofs.YtkeneiahhmbojaaGreatDoorW.PrintWords Go.Proofs.YtkeneiahhmbojaaGreatDoorW.PrintMore
open POpsBinds

section
variable {α β : Type} {H : Type} {P : Program}
/-- a value of type t that can be read holds an a -/
def Opn (H : Type) (P : Program) (d : Kd α) (t : TypeId) (ok : α → Prop) : Prop :=
  P.cellsOf t = d.sz ∧ ∀ (enc : TypeId × Value → H) (w : World) (base : Nat) (spare : Nat → Bool) (held : Bool) (fuel : Nat) (cs : List Value) (x : DataW H × List MemPlace),
    DataW.trod enc P w base spare held fuel t cs = some x → ∃ a, d.K w a cs ∧ ok a
theorem opn_int {k : IntKind} {t : TypeId} (hu : P.underlying t = some (.int k)) (hc : P.cellsOf t = 1) : Opn H P (Kd.int k) t (fun a => (Lit.int k a).wf = true) := by
  refine ⟨hc, fun enc w base spare held fuel cs x h => ?_⟩
  obtain ⟨n, rfl, rfl, hw⟩ := DataW.trod_int hu h
  exact ⟨n, rfl, hw⟩
theorem rows_of {Φ : Nat → α → Prop} : ∀ n : Nat, (∀ i, i < n → ∃ a, Φ i a) → ∃ xs : List α, xs.length = n ∧ ∀ i a, xs[i]? = some a → Φ i a := by
  intro n
  induction n with
  | zero => intro _; exact ⟨[], rfl, fun i a h => by simp at h⟩
  | succ n ih =>
    intro h
    obtain ⟨xs, hl, hx⟩ := ih fun i hi => h i (by omega)
    obtain ⟨a, ha⟩ := h n (by omega)
    refine ⟨xs ++ [a], by simp [hl], fun i b hb => ?_⟩
    by_cases hi : i < n
    · rw [List.getElem?_append_left (by omega)] at hb
      exact hx i b hb
    · have hlt := (List.getElem?_eq_some_iff.1 hb).1
      simp at hlt
      have : i = xs.length := by omega
      subst this
      simp at hb
      subst hb
      rw [hl]
      exact ha
theorem opn_slice {d : Kd α} {t e : TypeId} {ok : α → Prop} (h : Opn H P d e ok) (hu : P.underlying t = some (.slice e)) (hc : P.cellsOf t = 1) :
    Opn H P (Kd.slice e d) t (fun xs => ∀ a, a ∈ xs → ok a) := by
  refine ⟨hc, fun enc w base spare held fuel cs x hx => ?_⟩
  rcases DataW.trod_slice hu hx with ⟨rfl, rfl⟩ | ⟨a, len, cap, elems, rest, n, _, rfl, rfl, _, hl, hm, hlen, hel, _, _⟩
  · exact ⟨[], ⟨none, 0, rfl, Nat.le_refl _, Kd.C_nil _ _⟩, fun a ha => by cases ha⟩
  · have each : ∀ i, i < len → ∃ x : α, ∃ c y, elems[i]? = some y ∧ c.length = d.sz ∧ d.K w x c ∧ (∀ j u, c[j]? = some u → w.cell? (a.add (i * d.sz + j)) = some u) ∧ ok x := by
      intro i hi
      obtain ⟨y, hy⟩ : ∃ y, elems[i]? = some y := ⟨_, List.getElem?_eq_getElem (by omega)⟩
      have h1 := hel i hi
      rw [hy, Option.bind_eq_some_iff] at h1
      obtain ⟨c, hcs, ht⟩ := h1
      obtain ⟨_, hcl, hcc⟩ := World.cells?_some hcs
      obtain ⟨x, hK, ho⟩ := h.2 enc w base spare held n c y ht
      refine ⟨x, c, y, hy, hcl.trans h.1, hK, fun j u hu' => ?_, ho⟩
      have hj := (List.getElem?_eq_some_iff.1 hu').1
      rw [← h.1, ← Addr.add_add, hcc j (by omega), hu']
    obtain ⟨xs, hxl, hxs⟩ := rows_of len each
    refine ⟨xs, ⟨some a, cap, by rw [hxl], by omega, rfl, by rw [hxl]; simp only [maxLen] at hm; omega, fun _ => ⟨a, rfl, fun j p hj => ?_⟩⟩, fun p hp => ?_⟩
    · obtain ⟨c, y, _, h1, h2, h3, _⟩ := hxs j p hj
      exact ⟨c, h1, h2, h3⟩
    · obtain ⟨j, hj⟩ := List.mem_iff_getElem?.1 hp
      obtain ⟨c, y, _, _, _, _, ho⟩ := hxs j p hj
      exact ho
/-- fields one behind the other -/
def OpnF (H : Type) (P : Program) (d : Kd α) (off : Nat) (fs : List Field) (ok : α → Prop) : Prop :=
  ∀ (enc : TypeId × Value → H) (w : World) (base : Nat) (spare : Nat → Bool) (held : Bool) (n : Nat) (cs : List Value) (xs : List (DataW H × List MemPlace)), xs.length = fs.length →
    (∀ (i : Nat) (f : Field), fs[i]? = some f → DataW.trod enc P w base spare held n f.type ((cs.drop f.offset).take (P.cellsOf f.type)) = xs[i]?) →
    ∃ a, d.K w a ((cs.drop off).take d.sz) ∧ ok a
theorem opnF_one {d : Kd α} {f : Field} {ok : α → Prop} (h : Opn H P d f.type ok) : OpnF H P d f.offset [f] ok := by
  intro enc w base spare held n cs xs hl hx
  match xs, hl with
  | [y], _ =>
    obtain ⟨a, h1, h3⟩ := h.2 enc w base spare held n _ y (by simpa using hx 0 f rfl)
    rw [h.1] at h1
    exact ⟨a, h1, h3⟩
theorem opnF_cons {d : Kd α} {d' : Kd β} {f : Field} {fs : List Field} {ok : α → Prop} {ok' : β → Prop} (h : Opn H P d f.type ok) (h' : OpnF H P d' (f.offset + d.sz) fs ok') :
    OpnF H P (Kd.pair d d') f.offset (f :: fs) (fun x => ok x.1 ∧ ok' x.2) := by
  intro enc w base spare held n cs xs hl hx
  match xs, hl with
  | y :: ys, hl =>
    obtain ⟨a, h1, h3⟩ := h.2 enc w base spare held n _ y (by simpa using hx 0 f rfl)
    rw [h.1] at h1
    obtain ⟨b, g1, g3⟩ := h' enc w base spare held n cs ys (by simpa using hl) fun i f' hf => by simpa using hx (i + 1) f' (by simpa using hf)
    refine ⟨(a, b), ⟨_, _, ?_, h1, g1⟩, h3, g3⟩
    show (cs.drop f.offset).take (d.sz + d'.sz) = _
    rw [List.take_add, List.drop_drop]
theorem opn_struct {d : Kd α} {t : TypeId} {fs : Array Field} {ok : α → Prop} (hu : P.underlying t = some (.struct fs)) (hc : P.cellsOf t = d.sz) (h : OpnF H P d 0 fs.toList ok) : Opn H P d t ok := by
  refine ⟨hc, fun enc w base spare held fuel cs x hx => ?_⟩
  obtain ⟨xs, n, _, rfl, hl, hlen, hf⟩ := DataW.trod_struct hu hx
  obtain ⟨a, h1, h3⟩ := h enc w base spare held n cs xs (by simpa using hlen) fun i f hi => hf i f (by simpa using hi)
  rw [List.drop_zero, List.take_of_length_le (by omega)] at h1
  exact ⟨a, h1, h3⟩
theorem opn_iso {d : Kd α} {t : TypeId} {ok : α → Prop} (h : Opn H P d t ok) (f : β → α) (g : α → β) (hfg : ∀ a, f (g a) = a) : Opn H P (Kd.iso d f) t (fun b => ok (f b)) := by
  refine ⟨h.1, fun enc w base spare held fuel cs x hx => ?_⟩
  obtain ⟨a, h1, h3⟩ := h.2 enc w base spare held fuel cs x hx
  exact ⟨g a, by show d.K w (f (g a)) cs; rw [hfg]; exact h1, by show ok (f (g a)); rw [hfg]; exact h3⟩
end
end Go.Proofs.YtkeneiahhmbojaaGreatDoor

namespace Go.Proofs.YtkeneiahhmbojaaGreatDoor
open Go.RowKit Go.WideShapes Go.ChangeShapes Go.ChangeAt Go.ChangeMaps
open Go.Proofs.YtkeneiahhmbojaaGreatDoorW.PrintWords Go.Proofs.YtkeneiahhmbojaaGreatDoorW.PrintMore
open POpsBinds

theorem opn_value {H : Type} : Opn H Tryz.prog k41 41 (fun a => (fun x : Int × Int => (Lit.int .i64 x.1).wf = true ∧ (Lit.int .i64 x.2).wf = true) (a.f0, a.f1)) :=
  opn_iso (opn_struct Tryz.underlying41 (by kernel_rfl) (opnF_cons (opn_int Tryz.underlying3 (by kernel_rfl)) (opnF_one (opn_int Tryz.underlying2 (by kernel_rfl))))) _ (fun x => ⟨x.1, x.2⟩) fun _ => rfl
set_option maxRecDepth 100000 in
theorem vals_arg {H : Type} {enc : TypeId × Value → H} {W : World} {base base' : Nat} {spare : Nat → Bool} {held : Bool} {r : Reach} {v : Value} {d : DataW H} {ps : List MemPlace} (hv : Value.okWide Tryz.prog W r base' 55 v) (h : DataW.Trod enc Tryz.prog W base spare held 55 v d ps) :
    ∃ (A : Option Addr) (c : Nat) (l : List S41), v = .slice A l.length c ∧ Kd.C k41 W A l.length l ∧ l.length ≤ c := by
  have ho : Opn H Tryz.prog (Kd.slice 41 k41) 55 _ := opn_slice opn_value Tryz.underlying55 (by kernel_rfl)
  obtain ⟨a, len, cap, rfl⟩ := okWide_slice Tryz.underlying55 hv
  obtain ⟨fuel, hf⟩ := h
  obtain ⟨l, hK, _⟩ := ho.2 enc W base spare held fuel _ _ hf
  obtain ⟨A, c, e1, h1, h2⟩ := hK
  have e2 : [Value.slice a len cap] = [Value.slice A l.length c] := e1
  cases e2
  exact ⟨_, _, l, rfl, h2, h1⟩
end Go.Proofs.YtkeneiahhmbojaaGreatDoor
