/-
  The walk of the law, out of its callees' contracts.
-/
import Derived.Test.YtoaomnlgjniljaaKindsPure
namespace Go.Proofs.Ytoaomnlgjniljaa.Kinds
open Go.RowKit Go.Proofs.YtoaomnlgjniljaaW.PrintWords Go.Proofs.YtoaomnlgjniljaaW.PrintLast Go.Proofs.YtoaomnlgjniljaaW.PrintMore
open Go.Proofs.Ytoaomnlgjniljaa.POpsKinds

theorem law_walk (n : Int) (w : World) (h1 : -9223372036854775808 ≤ n) (h2 : n < 9223372036854775808) :
    Calls Try.prog 3 #[.int .i64 n] w fun e w' => e = .returned (.bool true) ∧ Below w.heap.size w w' := by
  have A1 := applies_all n
  have A2 := applies_ref n
  obtain ⟨ap, hap⟩ : ∃ x, x = app n := ⟨_, rfl⟩
  rw [← hap] at A1 A2
  clear hap
  obtain ⟨pr, P1⟩ : ∃ x, portageref13_Pure.f n = some x := by
    unfold portageref13_Pure.f
    by_cases a : n = 25 <;> by_cases b : n = 26 <;> by_cases c : n = 29 <;> simp [a, b, c]
  have P2 : ops_Pure.f n = some pr := P1
  have K1 := kind_all n h1 h2
  have T1 := trap_all n h1 h2
  have A1' := Aside0.mk A1
  have A2' := Aside0.mk A2
  have P1' := Aside0.mk P1
  have P2' := Aside0.mk P2
  have K1' := Aside0.mk K1
  have T1' := Aside0.mk T1
  clear A1 A2 P1 P2 K1 T1 h1 h2
  obtain ⟨kk, hkk⟩ : ∃ x, x = kn n := ⟨_, rfl⟩
  obtain ⟨tt, htt⟩ : ∃ x, x = tn n := ⟨_, rfl⟩
  have Hk := Aside0.mk hkk
  have Ht := Aside0.mk htt
  clear hkk htt
  go_enter Try.func3, Try.ntmps3
  go_wp2_with fail
  refine (ops_Applies.calls 3 n ap _ A1'.out).mono ?_
  rintro e w1 ⟨rfl, ⟨m1, rfl⟩⟩
  go_wp2_with fail
  refine (portageref13_Applies.calls n ap _ A2'.out).mono ?_
  rintro e w1 ⟨rfl, ⟨m2, rfl⟩⟩
  go_wp2_with fail
  refine (ops_Pure.calls n pr _ P2'.out).mono ?_
  rintro e w1 ⟨rfl, ⟨m3, rfl⟩⟩
  go_wp2_with fail
  refine (portageref13_Pure.calls n pr _ P1'.out).mono ?_
  rintro e w1 ⟨rfl, ⟨m4, rfl⟩⟩
  go_wp2_with fail
  refine (kn_calls n _).mono ?_
  rintro e w1 ⟨rfl, hb1⟩
  rw [← Hk.out]
  go_wp2_with fail
  refine (portageref13_KindName.calls 70 n kk _ (by rw [Hk.out]; exact K1'.out)).mono ?_
  rintro e w2 ⟨rfl, ⟨m5, rfl⟩⟩
  go_wp2_with fail
  refine (tn_calls n _).mono ?_
  rintro e w2 ⟨rfl, hb2⟩
  rw [← Ht.out]
  go_wp2_with fail
  refine (portageref13_TrapName.calls 80 n tt _ (by rw [Ht.out]; exact T1'.out)).mono ?_
  rintro e w3 ⟨rfl, ⟨m6, rfl⟩⟩
  go_wp2_with fail
  go_ret
  refine ⟨rfl, ?_⟩
  have b0 : Below w.heap.size w w1 := below_then (pw_below_drewN (Below.refl _ _) _) (Nat.le_refl _) hb1
  have b1 : Below w.heap.size w (w1.drewN m5) := pw_below_drewN b0 _
  exact pw_below_drewN (below_then b1 (by have := b1.size; exact this) hb2) _
end Go.Proofs.Ytoaomnlgjniljaa.Kinds
