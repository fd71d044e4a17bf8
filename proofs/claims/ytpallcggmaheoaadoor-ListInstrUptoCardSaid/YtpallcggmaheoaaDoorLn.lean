/-
  One instruction's line where there is no such operation.
-/
import Derived.Test.YtpallcggmaheoaaDoorLi
namespace Go.Proofs.YtpallcggmaheoaaDoor
open Go.RowKit Go.Proofs.YtpallcggmaheoaaDoorW.PrintWords Go.Proofs.YtpallcggmaheoaaDoorW.PrintMore
open PListInstr
set_option linter.unusedVariables false

set_option maxRecDepth 100000 in
theorem refInstr_none (p0 p1 : Value) (hp0 : ∃ A n c, p0 = .slice A n c) (hp1 : ∃ A n c, p1 = .slice A n c) (n a : Int) (w : World) (hn : n < 0 ∨ 67 ≤ n) :
    Calls Tryd.prog 4 #[.agg #[p0, p1], .agg #[.int .i64 n, .int .i64 a]] w fun e w' => e = .returned (.tuple #[.string ⟨#[]⟩, .bool false]) ∧ Below w.heap.size w w' := by
  obtain ⟨A0, n0, c0, rfl⟩ := hp0
  obtain ⟨A1, n1, c1, rfl⟩ := hp1
  have HK := Aside0.mk (check_none n hn a)
  have P0 := Aside0.mk (PF.start w (.slice A0 n0 c0) (.slice A1 n1 c1) n a)
  clear hn
  go_enter Tryd.func4, Tryd.ntmps4
  go_wp2_with fail
  (with_reducible refine (portageref07_Check.calls 8 n a _ _ HK.out).mono ?_)
  rintro e w1 ⟨rfl, hb⟩
  have P1 := Aside0.mk (by first | exact P0.out.next hb | exact P0.out.nextD hb)
  clear hb
  go_wp2_with fail
  go_ret2
  exact ⟨rfl, P1.out.bl⟩
set_option maxRecDepth 100000 in
theorem listInstr_none (p0 p1 : Value) (hp0 : ∃ A n c, p0 = .slice A n c) (hp1 : ∃ A n c, p1 = .slice A n c) (n a : Int) (w : World) (hn : n < 0 ∨ 67 ≤ n) :
    Calls Tryd.prog 6 #[.agg #[p0, p1], .agg #[.int .i64 n, .int .i64 a]] w fun e w' => e = .returned (.tuple #[.string ⟨#[]⟩, .bool false]) ∧ Below w.heap.size w w' := by
  obtain ⟨A0, n0, c0, rfl⟩ := hp0
  obtain ⟨A1, n1, c1, rfl⟩ := hp1
  have HK := Aside0.mk (fun X => check_code_none n a hn X)
  have P0 := Aside0.mk (PF.start w (.slice A0 n0 c0) (.slice A1 n1 c1) n a)
  clear hn
  go_enter Tryd.func6, Tryd.ntmps6
  go_wp2_with fail
  (with_reducible refine (HK.out _).mono ?_)
  rintro e w1 ⟨rfl, hb⟩
  have P1 := Aside0.mk (by first | exact P0.out.next hb | exact P0.out.nextD hb)
  clear hb
  go_wp2_with fail
  go_ret2
  exact ⟨rfl, P1.out.bl⟩
end Go.Proofs.YtpallcggmaheoaaDoor
