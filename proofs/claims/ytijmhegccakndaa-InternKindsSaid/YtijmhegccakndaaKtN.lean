/-
  The law's number and Pick below 4.
-/
import Derived.Test.YtijmhegccakndaaKtS
namespace Go.Proofs.Ytijmhegccakndaa
open Go.RowKit Go.Maps Go.WideMaps
open Go.Proofs.YtijmhegccakndaaW.PrintWords Go.Proofs.YtijmhegccakndaaW.PrintMore

theorem ret_i64 {a a' : Int} (h : a = a') : Ending.returned (.int .i64 a) = .returned (.int .i64 a') := by rw [h]
theorem pick4 (k : Int) (w : World) :
    Calls Try.prog 23 #[.int .i64 k, .int .i64 4] w fun e w' => e = .returned (.int .i64 (k % 4)) ∧ w = w' := by
  obtain ⟨r, hr⟩ : ∃ r, r = Int.tmod k 4 := ⟨_, rfl⟩
  have hw : Int.tmod k 4 = r := hr.symm
  have hs := Int.tmod_add_mul_tdiv k 4
  have hlo := Int.lt_tmod_of_pos k (show (0 : Int) < 4 by decide)
  have hhi := Int.tmod_lt_of_pos k (show (0 : Int) < 4 by decide)
  rw [hw] at hs hlo hhi
  by_cases hn : r < 0
  · have d0 : decide (r < 0) = true := decide_eq_true hn
    have HE := Aside0.mk (show r + 4 = k % 4 by omega)
    clear hr hs
    go_enter Try.func23, Try.ntmps23
    go_wp2_with fail
    go_ret
    exact ⟨ret_i64 HE.out, rfl⟩
  · have d0 : decide (r < 0) = false := decide_eq_false hn
    have HE := Aside0.mk (show r = k % 4 by omega)
    clear hr hs
    go_enter Try.func23, Try.ntmps23
    go_wp2_with fail
    go_ret
    exact ⟨ret_i64 HE.out, rfl⟩
theorem fresh_byte (W : World) (e : TypeId) (c : Int) : (W.alloc (.cells #[.int .u8 c] e)).ownsRow W.heap.size e 1 (.slice (some ⟨W.heap.size, 0, none⟩) 1 1) 1 (nums .u8 [c]) := by
  have h2 := World.ownsRow_lit (base := W.heap.size) (e := e) (size := 1) W #[.int .u8 c] 1 (Nat.le_refl _) (by simp [maxLen]) (by simp)
  exact h2
theorem tx_pos (n : Nat) (h : 0 < n) : (⟨#[42]⟩ : ByteArray) ++ strOfNums [48 + (n : Int)] = tx n := by
  unfold tx
  rw [if_neg (by omega)]
  apply ByteArray.ext
  have e : ((48 : Int) + (n : Int)).toNat = 48 + n := by omega
  simp [strOfNums, e]
set_option maxRecDepth 100000 in
theorem number_calls (n : Nat) (hn : n < 4) (w : World) :
    Calls Try.prog 24 #[.int .i64 (n : Int)] w fun e w' => e = .returned (.string (tx n)) ∧ Below w.heap.size w w' := by
  have hcv : ∀ (e : TypeId) (c : Int), (convert 110 9 (.slice (some ⟨w.heap.size, 0, none⟩) 1 1)).run Try.prog (w.alloc (.cells #[.int .u8 c] e)) = .ok (.string (strOfNums [c])) (w.alloc (.cells #[.int .u8 c] e)) := fun e c => own_string Try.underlying110 Try.underlying5 Try.underlying9 (fresh_byte w e c)
  go_enter Try.func24, Try.ntmps24
  go_wp2_with fail
  go_loopw [0, 3] (fun v0 v3 wr => ((v0 = .int .i64 (n : Int) ∧ v3 = .string ⟨#[42]⟩ ∧ wr = w) ∨ (0 < n ∧ v0 = .int .i64 0 ∧ v3 = .string (tx n) ∧ Below w.heap.size w wr))) (fun v0 _ _ => (intOf v0).toNat)
  case atStart => exact .inl ⟨rfl, rfl, rfl⟩
  case round =>
    rcases hrel with ⟨rfl, rfl, rfl⟩ | ⟨hpos, rfl, rfl, hb⟩
    · by_cases h0 : 0 < n
      · have d0 : decide (0 < (n : Int)) = true := decide_eq_true (by omega)
        have d1 : decide (0 < n) = true := decide_eq_true h0
        have hm : Int.tmod (n : Int) 10 = (n : Int) := by rw [Int.tmod_eq_emod_of_nonneg (by omega)]; omega
        have hd : Int.tdiv (n : Int) 10 = 0 := by rw [Int.tdiv_eq_ediv_of_nonneg (by omega)]; omega
        have ht := tx_pos n h0
        go_wp2_with fail
        exact ⟨.inr ⟨h0, rfl, rfl, (Below.refl _ _).alloc (Nat.le_refl _) _⟩, by simp [intOf]; omega⟩
      · have d0 : decide (0 < (n : Int)) = false := decide_eq_false (by omega)
        have d1 : decide (0 < n) = false := decide_eq_false h0
        have hz : tx n = ⟨#[42]⟩ := by unfold tx; rw [if_pos (by omega)]
        go_wp2_with fail
        go_ret
        exact ⟨by rw [hz]; rfl, Below.refl _ _⟩
    · go_wp2_with fail
      go_ret
      exact ⟨rfl, hb⟩
end Go.Proofs.Ytijmhegccakndaa
