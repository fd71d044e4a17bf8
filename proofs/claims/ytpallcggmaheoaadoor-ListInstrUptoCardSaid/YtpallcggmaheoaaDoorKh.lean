/-
  Full lists, as they were made: handlers.
-/
import Derived.Test.YtpallcggmaheoaaDoorPListInstrx2
import Derived.Test.YtpallcggmaheoaaDoorKi
namespace Go.Proofs.YtpallcggmaheoaaDoor
open Go.RowKit Go.Proofs.YtpallcggmaheoaaDoorW.PrintWords Go.Proofs.YtpallcggmaheoaaDoorW.PrintMore
open PListInstr
attribute [local go_sem high] eqA55
set_option linter.unusedVariables false

def mk55 : List S55 := (List.range 64).map fun j : Nat => (⟨-7, (j : Int), 0, 0⟩ : S55)
theorem mk55_len : mk55.length = 64 := by simp [mk55]
theorem mk55_get (j : Nat) (h : j < 64) : mk55[j]? = some ⟨-7, (j : Int), 0, 0⟩ := by
  simp [mk55, h]
theorem rd55 {l : List S55} {i : Nat} {x : S55} (h : l[i]? = some x) : rd_T55 l (i : Int) = x := by
  unfold rd_T55
  rw [List.getD_eq_getElem?_getD, Int.toNat_natCast, h]
  rfl
theorem at55 {w : World} {A : Option Addr} {n : Nat} {l : List S55} (h : Kd.C k55 w A n l) {i : Nat} (hi : i < n) {x : S55} (hx : l[i]? = some x) : ∃ ad, A = some ad ∧ w.cell? (ad.add (i * 4)) = some (.int .i64 x.f0) ∧ w.cell? ⟨(ad.add (i * 4)).block, (ad.add (i * 4)).off + 1, none⟩ = some (.int .i64 x.f1) ∧ w.cell? ⟨(ad.add (i * 4)).block, (ad.add (i * 4)).off + 2, none⟩ = some (.int .i64 x.f2) ∧ w.cell? ⟨(ad.add (i * 4)).block, (ad.add (i * 4)).off + 3, none⟩ = some (.int .i64 x.f3) := by
  have := at_T55 h (i : Int) (by omega) (by omega)
  rwa [rd55 hx, Int.toNat_natCast] at this
set_option maxRecDepth 100000 in
set_option maxHeartbeats 4000000 in
theorem keptHandlers_calls (A0 A1 : Option Addr) (c0 c1 : Nat) (l : List S55) (w : World) (h0 : Kd.C k55 w A0 (l.length + 64) (l ++ mk55)) (h1 : Kd.C k55 w A1 l.length l) :
    Calls Tryd.prog 23 #[.slice A0 (l.length + 64) c0, .slice A1 l.length c1] w fun e w' => e = .returned (.bool true) ∧ Below w.heap.size w w' := by
  have hm : l.length + 64 ≤ 9223372036854775807 := h0.2.1
  have HC := Aside0.mk (And.intro h0 h1)
  clear h0 h1
  have hu55 := Tryd.underlying55
  go_enter Tryd.func23, Tryd.ntmps23
  go_wp2_with fail
  go_loopw [5] (fun v W => ∃ i : Nat, v = .int .i64 (i : Int) ∧ i ≤ l.length + 64 ∧ Aside0 (Below w.heap.size w W)) (fun v _ => l.length + 64 - (intOf v).toNat)
  case atStart => exact ⟨0, rfl, Nat.zero_le _, ⟨Below.refl _ _⟩⟩
  case round =>
    obtain ⟨i, rfl, hi, HB⟩ := hrel
    by_cases hlt : i < l.length + 64
    · have hl2 : (i : Int) < (l.length : Int) + 64 := by omega
      obtain ⟨y, hy⟩ : ∃ y, (l ++ mk55)[i]? = some y := ⟨_, List.getElem?_eq_getElem (by rw [List.length_append, mk55_len]; exact hlt)⟩
      obtain ⟨ad, rfl, a0, a1, a2, a3⟩ := at55 (Kd.C_below HC.out.1 HB.out) hlt hy
      have heq := fun (d : Nat) (w : World) => eqA55 d w y.f0 y.f0 y.f1 y.f1 y.f2 y.f2 y.f3 y.f3
      have hl0 := World.block_lt_of_cell? _ _ a0
      by_cases hil : i < l.length
      · obtain ⟨ad1, rfl, b0, b1, b2, b3⟩ := at55 (Kd.C_below HC.out.2 HB.out) hil ((full_left hil).symm.trans hy)
        have hl1 := World.block_lt_of_cell? _ _ b0
        have hl3 : (i : Int) < (l.length : Int) := by omega
        have HB2 := Aside0.mk (HB.out.trans ((below_alloc1 wr (.cells #[.int .i64 y.f0, .int .i64 y.f1, .int .i64 y.f2, .int .i64 y.f3] 55)).mono HB.out.size))
        go_wp2_with fail
        go_region
        all_goals
          go_wp2_with fail
          refine ⟨⟨i + 1, by go_num, by omega, ⟨by first | exact HB2.out | exact below_drew HB2.out | exact pw_below_drewN HB2.out _⟩⟩, by simp [intOf]; omega⟩
      · have hl3 : ¬ (i : Int) < (l.length : Int) := by omega
        have hy2 : y = ⟨-7, (i : Int) - (l.length : Int), 0, 0⟩ := by
          rw [List.getElem?_append_right (by omega), mk55_get _ (by omega)] at hy
          rw [← Option.some.inj hy, show (i : Int) - (l.length : Int) = ((i - l.length : Nat) : Int) by omega]
        subst hy2
        have HB2 := Aside0.mk (HB.out.trans ((below_alloc1 wr (.cells #[.int .i64 (-7), .int .i64 ((i : Int) - (l.length : Int)), .int .i64 0, .int .i64 0] 55)).mono HB.out.size))
        go_wp2_with fail
        go_region
        all_goals
          go_wp2_with fail
          refine ⟨⟨i + 1, by go_num, by omega, ⟨by first | exact HB2.out | exact below_drew HB2.out | exact pw_below_drewN HB2.out _⟩⟩, by simp [intOf]; omega⟩
    · have hl2 : ¬ (i : Int) < (l.length : Int) + 64 := by omega
      go_wp2_with fail
      go_ret
      exact ⟨rfl, HB.out⟩
end Go.Proofs.YtpallcggmaheoaaDoor
