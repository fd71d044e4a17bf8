/-
  Full lists, as they were made: instructions.
-/
import Derived.Test.YtpallcggmaheoaaDoorPListInstrx1
import Derived.Test.YtpallcggmaheoaaDoorRo
namespace Go.Proofs.YtpallcggmaheoaaDoor
open Go.RowKit Go.Proofs.YtpallcggmaheoaaDoorW.PrintWords Go.Proofs.YtpallcggmaheoaaDoorW.PrintMore
open PListInstr
attribute [local go_sem high] eqA27
set_option linter.unusedVariables false

def mk27 : List S27 := (List.range 64).map fun j : Nat => (⟨-7, (j : Int)⟩ : S27)
theorem mk27_len : mk27.length = 64 := by simp [mk27]
theorem mk27_get (j : Nat) (h : j < 64) : mk27[j]? = some ⟨-7, (j : Int)⟩ := by
  simp [mk27, h]
theorem full_left {α : Type} {l m : List α} {i : Nat} (h : i < l.length) : (l ++ m)[i]? = l[i]? := List.getElem?_append_left h
theorem rd27 {l : List S27} {i : Nat} {x : S27} (h : l[i]? = some x) : rd_T27 l (i : Int) = x := by
  unfold rd_T27
  rw [List.getD_eq_getElem?_getD, Int.toNat_natCast, h]
  rfl
theorem at27 {w : World} {A : Option Addr} {n : Nat} {l : List S27} (h : Kd.C k27 w A n l) {i : Nat} (hi : i < n) {x : S27} (hx : l[i]? = some x) : ∃ ad, A = some ad ∧ w.cell? (ad.add (i * 2)) = some (.int .i64 x.f0) ∧ w.cell? ⟨(ad.add (i * 2)).block, (ad.add (i * 2)).off + 1, none⟩ = some (.int .i64 x.f1) := by
  have := at_T27 h (i : Int) (by omega) (by omega)
  rwa [rd27 hx, Int.toNat_natCast] at this
set_option maxRecDepth 100000 in
set_option maxHeartbeats 4000000 in
theorem keptInstrs_calls (A0 A1 : Option Addr) (c0 c1 : Nat) (l : List S27) (w : World) (h0 : Kd.C k27 w A0 (l.length + 64) (l ++ mk27)) (h1 : Kd.C k27 w A1 l.length l) :
    Calls Tryd.prog 22 #[.slice A0 (l.length + 64) c0, .slice A1 l.length c1] w fun e w' => e = .returned (.bool true) ∧ Below w.heap.size w w' := by
  have hm : l.length + 64 ≤ 9223372036854775807 := h0.2.1
  have HC := Aside0.mk (And.intro h0 h1)
  clear h0 h1
  have hu27 := Tryd.underlying27
  go_enter Tryd.func22, Tryd.ntmps22
  go_wp2_with fail
  go_loopw [5] (fun v W => ∃ i : Nat, v = .int .i64 (i : Int) ∧ i ≤ l.length + 64 ∧ Aside0 (Below w.heap.size w W)) (fun v _ => l.length + 64 - (intOf v).toNat)
  case atStart => exact ⟨0, rfl, Nat.zero_le _, ⟨Below.refl _ _⟩⟩
  case round =>
    obtain ⟨i, rfl, hi, HB⟩ := hrel
    by_cases hlt : i < l.length + 64
    · have hl2 : (i : Int) < (l.length : Int) + 64 := by omega
      obtain ⟨y, hy⟩ : ∃ y, (l ++ mk27)[i]? = some y := ⟨_, List.getElem?_eq_getElem (by rw [List.length_append, mk27_len]; exact hlt)⟩
      obtain ⟨ad, rfl, a0, a1⟩ := at27 (Kd.C_below HC.out.1 HB.out) hlt hy
      have heq := fun (d : Nat) (w : World) => eqA27 d w y.f0 y.f0 y.f1 y.f1
      have hl0 := World.block_lt_of_cell? _ _ a0
      by_cases hil : i < l.length
      · obtain ⟨ad1, rfl, b0, b1⟩ := at27 (Kd.C_below HC.out.2 HB.out) hil ((full_left hil).symm.trans hy)
        have hl1 := World.block_lt_of_cell? _ _ b0
        have hl3 : (i : Int) < (l.length : Int) := by omega
        have HB2 := Aside0.mk (HB.out.trans ((below_alloc1 wr (.cells #[.int .i64 y.f0, .int .i64 y.f1] 27)).mono HB.out.size))
        go_wp2_with fail
        go_region
        all_goals
          go_wp2_with fail
          refine ⟨⟨i + 1, by go_num, by omega, ⟨by first | exact HB2.out | exact below_drew HB2.out | exact pw_below_drewN HB2.out _⟩⟩, by simp [intOf]; omega⟩
      · have hl3 : ¬ (i : Int) < (l.length : Int) := by omega
        have hy2 : y = ⟨-7, (i : Int) - (l.length : Int)⟩ := by
          rw [List.getElem?_append_right (by omega), mk27_get _ (by omega)] at hy
          rw [← Option.some.inj hy, show (i : Int) - (l.length : Int) = ((i - l.length : Nat) : Int) by omega]
        subst hy2
        have HB2 := Aside0.mk (HB.out.trans ((below_alloc1 wr (.cells #[.int .i64 (-7), .int .i64 ((i : Int) - (l.length : Int))] 27)).mono HB.out.size))
        go_wp2_with fail
        go_region
        all_goals
          go_wp2_with fail
          refine ⟨⟨i + 1, by go_num, by omega, ⟨by first | exact HB2.out | exact below_drew HB2.out | exact pw_below_drewN HB2.out _⟩⟩, by simp [intOf]; omega⟩
    · have hl2 : ¬ (i : Int) < (l.length : Int) + 64 := by omega
      go_wp2_with fail
      go_ret
      exact ⟨rfl, HB.out⟩
end Go.Proofs.YtpallcggmaheoaaDoor
