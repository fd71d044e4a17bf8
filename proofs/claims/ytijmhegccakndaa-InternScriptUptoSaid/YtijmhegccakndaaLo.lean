/-
  loose: lists that were handed out, held against what is wanted, and apart.
-/
import Derived.Test.YtijmhegccakndaaAp
import Derived.Test.YtijmhegccakndaaPw
namespace Go.Proofs.Ytijmhegccakndaa
open Go.RowKit
open Go.Proofs.YtijmhegccakndaaW.PrintWords Go.Proofs.YtijmhegccakndaaW.PrintMore
set_option linter.unusedVariables false

/-- a slice's header: its block, its length, its room -/
abbrev hVal (x : Option Nat × Nat × Nat) : Value := .slice (x.1.map fun b => ⟨b, 0, none⟩) x.2.1 x.2.2
abbrev kW : Kd (Option Nat × Nat × Nat) := Kd.scalar hVal (fun _ => rfl)
theorem hdrW {w : World} {n0 : Nat} {ok : Nat → Prop} {A : Option Addr} {c : Nat} {hs : List (Option Nat × Nat × Nat)} (h : kW.R 22 w n0 ok (.slice A hs.length c) hs) {k : Nat} {x : Option Nat × Nat × Nat} (hk : hs[k]? = some x) : ∃ a, A = some ⟨a, 0, none⟩ ∧ w.cell? ⟨a, k, none⟩ = some (hVal x) := by
  have hlt := (List.getElem?_eq_some_iff.1 hk).1
  obtain ⟨a, cap, e, _⟩ := Kd.R_form h (by omega)
  cases e
  have h2 := (Kd.R_cell (none, 0, 0) h (k : Int) (by omega) (by omega)).1
  have : rdOf (none, 0, 0) hs (k : Int) = x := by simp [rdOf, List.getD_eq_getElem?_getD, hk]
  rw [this] at h2
  exact ⟨a, rfl, by simpa using h2⟩
theorem own_hVal {w : World} {n0 : Nat} {ok : Nat → Prop} {v : Value} {l : List ByteArray} (h : Kd.string.R 9 w n0 ok v l) : ∃ x : Option Nat × Nat × Nat, v = hVal x ∧ x.2.1 = l.length := by
  have ho := Kd.own_of_R (enc := Value.string) (h1 := fun _ => rfl) h
  rcases ho.2 with ⟨rfl, hn⟩ | ⟨g, cap, cur, rfl, _⟩
  · exact ⟨(none, 0, 0), rfl, hn.symm⟩
  · exact ⟨(some g, l.length, cap), rfl, rfl⟩
/-- the rows that are wanted, by their headers -/
def Wn (w : World) (n0 : Nat) (ws : List (Option Nat × Nat × Nat)) (ls : List (List ByteArray)) : Prop :=
  ws.length = ls.length ∧ ∀ (k : Nat) (x : Option Nat × Nat × Nat) (l : List ByteArray), ws[k]? = some x → ls[k]? = some l → x.2.1 = l.length ∧ Kd.string.R 9 w n0 (fun b => some b = (hVal x).ownBlock) (hVal x) l
theorem Wn.below {w w' : World} {n0 : Nat} {ws : List (Option Nat × Nat × Nat)} {ls : List (List ByteArray)} (h : Wn w n0 ws ls) (hb : Below w.heap.size w w') : Wn w' n0 ws ls :=
  ⟨h.1, fun k x l h1 h2 => ⟨(h.2 k x l h1 h2).1, Kd.R_below (h.2 k x l h1 h2).2 hb⟩⟩
set_option maxRecDepth 100000 in
set_option maxHeartbeats 4000000 in
theorem loose_calls (w : World) (n0 : Nat) (A B : Option Addr) (c d : Nat) (hs : List (Nat × Nat)) (ws : List (Option Nat × Nat × Nat)) (ls : List (List ByteArray)) (hv : kH.R 22 w n0 (fun _ => True) (.slice A hs.length c) hs) (hG : Gs w n0 hs ls) (hw : kW.R 22 w n0 (fun _ => True) (.slice B ws.length d) ws) (hW : Wn w n0 ws ls) (hn0 : n0 ≤ w.heap.size) (hN : hs.length ≤ 1099511627776) (hn : ∀ (k g n : Nat), hs[k]? = some (g, n) → n ≤ 1099511627776) :
    Calls Try.prog 50 #[.slice A hs.length c, .slice B ws.length d] w fun e w' => e = .returned (.bool true) ∧ Kp w w' (fun b => ∃ k n : Nat, hs[k]? = some (b, n)) := by
  have HV := Aside0.mk hv
  have HG := Aside0.mk hG
  have HW := Aside0.mk (And.intro hw hW)
  have HN := Aside0.mk (And.intro hn0 (And.intro hN hn))
  clear hv hG hw hW hn0 hN hn
  go_enter Try.func50, Try.ntmps50
  go_wp2_with fail
  go_loopw [5] (fun v W => ∃ k : Nat, v = .int .i64 (k : Int) ∧ k ≤ hs.length ∧ Aside0 (Below w.heap.size w W)) (fun v _ => hs.length - (intOf v).toNat)
  case atStart => exact ⟨0, rfl, Nat.zero_le _, ⟨Below.refl _ _⟩⟩
  case round =>
    obtain ⟨k, rfl, hk, HB⟩ := hrel
    have hkN := HN.out.2.1
    by_cases hlt : k < hs.length
    · obtain ⟨⟨g, n⟩, hgn⟩ : ∃ x, hs[k]? = some x := ⟨_, List.getElem?_eq_getElem hlt⟩
      obtain ⟨l, hl⟩ : ∃ l, ls[k]? = some l := ⟨_, List.getElem?_eq_getElem (by have := HG.out.len; omega)⟩
      obtain ⟨rfl, hrw⟩ := HG.out.row k g n l hgn hl
      have hwl : ws.length = hs.length := HW.out.2.1.trans HG.out.len.symm
      obtain ⟨x, hx⟩ : ∃ x, ws[k]? = some x := ⟨_, List.getElem?_eq_getElem (by omega)⟩
      obtain ⟨ex, hxr⟩ := HW.out.2.2 k x l hx hl
      obtain ⟨a, rfl, hc⟩ := hdr (Kd.R_below HV.out HB.out) hgn
      obtain ⟨b, rfl, hcb⟩ := hdrW (Kd.R_below HW.out.1 HB.out) hx
      obtain ⟨xo, xn, xc⟩ := x
      have hn40 := HN.out.2.2 k g l.length hgn
      have ex' : xn = l.length := ex
      subst ex'
      have HRW := Aside0.mk (And.intro hrw hxr)
      have HLW := Aside0.mk hwl
      clear hgn hl hrw hx hxr ex
      have hl2 : (k : Int) < (hs.length : Int) := by omega
      have hl3 : (k : Int) < (ws.length : Int) := by omega
      clear hwl
      have hcb' : wr.cell? ⟨b, k, none⟩ = some (.slice (xo.map fun b => ⟨b, 0, none⟩) l.length xc) := hcb
      clear hcb
      have HS := Aside0.mk (fun X (hX : Below w.heap.size w X) => (PInternWalk.portageref0_SameTexts.calls (l.length + 1) (some ⟨g, 0, none⟩) l.length l (xo.map fun b => ⟨b, 0, none⟩) xc l true X (Kd.R_reads' (Kd.R_below HRW.out.1 hX)).2.2 (Nat.le_refl _) (Kd.R_reads' (Kd.R_below HRW.out.2 hX)).2.2 (Kd.R_reads' HRW.out.2).2.1 (same_f l (l.length + 1) (by omega) (by omega))).mono (R' := fun e w' => e = .returned (.bool true) ∧ Below w.heap.size w w') (fun e w' ⟨h1, h2⟩ => ⟨h1, hX.trans (h2.below.mono hX.size)⟩))
      go_wp2_with fail
      go_region_with (go_at_call 44; refine (HS.out _ (by first | exact HB.out | exact below_drew HB.out)).mono ?_; rintro e wv ⟨rfl, hd⟩; have HBv := Aside0.mk hd; clear hd)
      all_goals
        go_wp2_with fail
        first
          | refine ⟨⟨k + 1, by go_num, by omega, HBv⟩, by simp [intOf]; omega⟩
          | refine ⟨⟨k + 1, by go_num, by omega, ⟨below_drew HBv.out⟩⟩, by simp [intOf]; omega⟩
          | go_outline
    · go_wp2_with fail
      refine (apart_calls wr n0 A c hs ls (Kd.R_below HV.out HB.out) (HG.out.below HB.out) (Nat.le_trans HN.out.1 HB.out.size) HN.out.2.1 HN.out.2.2).mono ?_
      rintro e wv ⟨rfl, hK⟩
      have HK := Aside0.mk hK
      clear hK
      go_wp2_with fail
      go_ret
      exact ⟨rfl, Kp.trans (b := wr) ⟨HB.out.os, HB.out.tape, HB.out.output, HB.out.size, fun k hk _ => HB.out.block k hk⟩ HK.out (fun j hj => .inl hj)⟩
end Go.Proofs.Ytijmhegccakndaa
