/-
  What asm's Unquote answers.
-/
import Derived.Test.YtppmlphmjmpcgaaStep
import Derived.Shelf.Strings.MapGrows
import Derived.Outline
namespace Go.Proofs.Ytppmlphmjmpcgaa
open Go.RowKit
open Go.Proofs.YtppmlphmjmpcgaaW.PrintWords Go.Proofs.YtppmlphmjmpcgaaW.PrintMore

/-- what a quoted text stands for -/
def unq (l : List UInt8) : Option (List UInt8) :=
  if Lib.hasPrefix l [34] = true then
    if Lib.hasSuffix (Lib.trimPrefix l [34]) [34] = true then un (Lib.trimSuffix (Lib.trimPrefix l [34]) [34]) else none
  else none
def UnqPost (l : List UInt8) (w : World) (e : Ending) (w' : World) : Prop :=
  e = .returned (.tuple #[.string (ofL ((unq l).getD [])), .bool (unq l).isSome]) ∧ Below w.heap.size w w'
def slen : Value → Nat
  | .string s => s.size
  | _ => 0
theorem bld_drew {B b : Nat} {bs : List Value} {w w' : World} (h : Lib.IsBuilderF 32 5 B b bs w) (hd : Drawn0 w w') : Lib.IsBuilderF 32 5 B b bs w' := h.below hd.below

theorem cut_pre (l p : List UInt8) : (Lib.trimPrefix l p).length ≤ l.length := by
  unfold Lib.trimPrefix
  split
  · simp
  · exact Nat.le_refl _

set_option maxRecDepth 100000 in
set_option maxHeartbeats 4000000 in
theorem unquote_any (l : List UInt8) (w : World) (hs : l.length ≤ 140737488355328) :
    Calls Try.prog 6 #[.string (ofL l)] w (UnqPost l w) := by
  go_enter Try.func6, Try.ntmps6
  go_wp2_with fail
  refine (Try.strings_CutPrefix (ofL l) { data := #[34] } _).mono ?_
  rintro e w1 ⟨rfl, rfl⟩
  rw [ofL_list]
  rw [show (⟨(Lib.trimPrefix l ({ data := #[34] } : ByteArray).data.toList).toArray⟩ : ByteArray) = ofL (Lib.trimPrefix l [34]) from rfl,
    show Lib.hasPrefix l ({ data := #[34] } : ByteArray).data.toList = Lib.hasPrefix l [34] from rfl]
  have hl1 := cut_pre l [34]
  by_cases hp : Lib.hasPrefix l [34] = true
  · rw [hp]
    obtain ⟨m, hm⟩ : ∃ m, m = Lib.trimPrefix l [34] := ⟨_, rfl⟩
    rw [← hm] at hl1 ⊢
    have hu : unq l = if Lib.hasSuffix m [34] = true then un (Lib.trimSuffix m [34]) else none := by
      unfold unq
      rw [if_pos hp, ← hm]
    have HU := Aside0.mk hu
    clear hu hp hm
    go_wp2_with fail
    refine (Try.strings_CutSuffix (ofL m) { data := #[34] } _ (by rw [ofL_size]; omega)).mono ?_
    rintro e w1 ⟨rfl, rfl⟩
    rw [ofL_list]
    rw [show (⟨(Lib.trimSuffix m ({ data := #[34] } : ByteArray).data.toList).toArray⟩ : ByteArray) = ofL (Lib.trimSuffix m [34]) from rfl,
      show Lib.hasSuffix m ({ data := #[34] } : ByteArray).data.toList = Lib.hasSuffix m [34] from rfl]
    have hl2 := Lib.trimSuffix_le m [34]
    by_cases hq : Lib.hasSuffix m [34] = true
    · rw [hq]
      obtain ⟨q, hqq⟩ : ∃ q, q = Lib.trimSuffix m [34] := ⟨_, rfl⟩
      rw [← hqq] at hl2 ⊢
      have HV := Aside0.mk (show unq l = un q by rw [HU.out, if_pos hq, hqq])
      have HLQ := Aside0.mk (show q.length ≤ 140737488355328 by omega)
      clear HU hq hqq hl1 hl2 hs
      have hb0 : Lib.IsBuilderF 32 5 w1.heap.size w1.heap.size [] (w1.alloc (.cells #[.pointer none, .slice none 0 0] 32)) :=
        .inl ⟨Nat.le_refl _, .slice none 0 0, heap_alloc_new _ _, World.ownsRowF_nil _ _ _ _, by simp [Value.ownBlock]⟩
      have HB0 := Aside0.mk hb0
      have HW0 := Aside0.mk (show Below w1.heap.size w1 (w1.alloc (.cells #[.pointer none, .slice none 0 0] 32)) from (Below.refl _ _).alloc (Nat.le_refl _) _)
      clear hb0
      go_wp2_with fail
      go_loopw [4, 7, 8, 9] (fun v4 _ _ _ wr => ∃ (r d : List UInt8), v4 = .string (ofL r) ∧ Aside0 (un q = (un r).map (d ++ ·)) ∧ Aside0 (d.length + r.length ≤ q.length) ∧ Aside0 (Lib.IsBuilderF 32 5 w1.heap.size w1.heap.size (Lib.byteCells d) wr) ∧ Aside0 (Below w1.heap.size w1 wr)) (fun v4 _ _ _ _ => slen v4)
      case atStart => exact ⟨q, [], rfl, ⟨by cases un q <;> rfl⟩, ⟨by simp⟩, HB0, HW0⟩
      case round =>
        obtain ⟨r, d, rfl, HE, HL, H, HB⟩ := hrel
        have hsz := ofL_size r
        by_cases hr : r = []
        · have d0 : decide (0 < ((ofL r).size : Int)) = false := decide_eq_false (by rw [hsz, hr]; simp)
          have d1 : decide (0 < (ofL r).size) = false := decide_eq_false (by rw [hsz, hr]; simp)
          have HE2 := Aside0.mk (show unq l = some d by rw [HV.out, HE.out, hr, un_nil]; simp)
          clear hr hsz
          go_wp2_with fail
          refine (Try.Builder_String_any_k w1.heap.size w1.heap.size d _ H.out HB.out.size).mono ?_
          rintro e w4 ⟨rfl, _, hbl4, _⟩
          have HB4 := Aside0.mk (HB.out.trans hbl4)
          clear hbl4
          go_wp2_with fail
          go_ret2
          refine ⟨?_, HB4.out⟩
          rw [HE2.out]
          rfl
        · have hpos : 0 < r.length := by
            cases r with
            | nil => exact absurd rfl hr
            | cons a b => simp
          have d0 : decide (0 < ((ofL r).size : Int)) = true := decide_eq_true (by omega)
          have d1 : decide (0 < (ofL r).size) = true := decide_eq_true (by omega)
          have HR := Aside0.mk hr
          have HP := Aside0.mk hpos
          clear hr hsz hpos
          go_wp2_with fail
          refine (first_step r _ HR.out).mono ?_
          intro e w2 hpost
          unfold FirstPost at hpost
          cases hst : step r with
          | none =>
            rw [hst] at hpost
            obtain ⟨⟨c, z, rfl⟩, hdr⟩ := hpost
            have HB2 := Aside0.mk (HB.out.trans (hdr.below.mono HB.out.size))
            have HE2 := Aside0.mk (show unq l = none by rw [HV.out, HE.out, un_none HR.out hst]; rfl)
            clear hst hdr
            go_wp2_with fail
            go_ret2
            refine ⟨?_, HB2.out⟩
            rw [HE2.out]
            rfl
          | some cz =>
            obtain ⟨c, z⟩ := cz
            rw [hst] at hpost
            obtain ⟨rfl, hdr⟩ := hpost
            have HB2 := Aside0.mk (HB.out.trans (hdr.below.mono HB.out.size))
            have H2 := Aside0.mk (bld_drew H.out hdr)
            have HE2 := Aside0.mk (show un q = (un z).map ((d ++ [c]) ++ ·) by
              rw [HE.out, un_some hst, Option.map_map]
              congr 1
              funext x
              simp)
            have HSH := Aside0.mk (step_short hst)
            have HL2 := Aside0.mk (show (d ++ [c]).length + z.length ≤ q.length by
              have := HSH.out
              have := HL.out
              rw [List.length_append, List.length_singleton]
              omega)
            clear hst hdr
            go_wp2_with fail
            refine (byte_any w1.heap.size w1.heap.size _ (c.toNat : Int) _ H2.out (by rw [Lib.byteCells_length]; have := HL2.out; have := HLQ.out; rw [List.length_append, List.length_singleton] at *; omega) HB2.out.size).mono ?_
            rintro e w3 ⟨rfl, h3, hbl3⟩
            have H3 := Aside0.mk (show Lib.IsBuilderF 32 5 w1.heap.size w1.heap.size (Lib.byteCells (d ++ [c])) w3 by
              rw [← cells_snoc]
              exact h3)
            have HB3 := Aside0.mk (HB2.out.trans hbl3)
            clear h3 hbl3
            go_wp2_with fail
            go_roundw
            case rel => exact ⟨z, d ++ [c], rfl, HE2, HL2, H3, HB3⟩
            case measure =>
              have := HSH.out
              simp only [slen, ofL_size]
              omega
    · rw [Bool.not_eq_true] at hq
      rw [hq]
      have HV := Aside0.mk (show unq l = none by rw [HU.out, if_neg (by rw [hq]; decide)])
      clear HU hq
      go_wp2_with fail
      go_ret2
      refine ⟨?_, Below.refl _ _⟩
      rw [HV.out]
      rfl
  · rw [Bool.not_eq_true] at hp
    rw [hp]
    have HV := Aside0.mk (show unq l = none by unfold unq; rw [if_neg (by rw [hp]; decide)])
    clear hp
    go_wp2_with fail
    go_ret2
    refine ⟨?_, Below.refl _ _⟩
    rw [HV.out]
    rfl
end Go.Proofs.Ytppmlphmjmpcgaa
