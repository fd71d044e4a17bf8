/-
  OpsPieces behind 'works'.
-/
import Derived.Test.YtkeneiahhmbojaaGreatDoorPa
namespace Go.Proofs.YtkeneiahhmbojaaGreatDoor
open Go.RowKit Go.MapKept
open Go.Proofs.YtkeneiahhmbojaaGreatDoorW.PrintWords Go.Proofs.YtkeneiahhmbojaaGreatDoorW.PrintMore

set_option maxRecDepth 100000 in
set_option maxHeartbeats 64000000 in
theorem pieces_of (s : ByteArray) (k : Int) (w : World) (hW : ∀ w, Calls Tryz.prog 15 #[] w fun e w' => e = .returned (.bool true) ∧ Below w.heap.size w w') : Calls Tryz.prog 6 #[.string s, .int .i64 k] w fun e w' => e = .returned (.bool true) ∧ Below w.heap.size w w' := by
  have HW := Aside0.mk hW
  clear hW
  go_enter Tryz.func6, Tryz.ntmps6
  refine seq3 (α := ByteArray × Value × Value × Value × Value × Value) (fun x => { tmps := #[Value.string x.1, Value.int IntKind.i64 k, undef, undef, Value.bool false, undef, undef, undef, undef, undef, undef, undef, undef, undef, undef, undef, undef, undef, undef, Value.bool true, Value.bool false, x.2.1, x.2.2.1, x.2.2.2.1, x.2.2.2.2.1, x.2.2.2.2.2, undef, undef, undef, undef, undef, undef, undef, undef, undef, undef, undef, undef, undef, undef, undef, undef, undef, undef, undef, undef, undef, undef, undef, undef, undef, undef, undef, undef, undef, undef, undef, undef, undef, undef, undef, undef, undef, undef, undef, undef, undef, undef, undef, undef, undef, undef, undef, undef, undef, undef, undef, undef, undef, undef, undef, undef, undef, undef, undef, undef, undef, undef, undef, undef, undef, undef, undef, undef, undef, undef, undef, undef, undef, undef, undef, undef, undef, undef, undef, undef, undef, undef, undef, undef, undef, undef, undef, undef, undef, undef, undef, undef, undef, undef, undef, undef, undef, undef, undef, undef, undef, undef, undef, undef, undef, undef, undef, undef, undef, undef], defers := [] }) (fun x w' => x.1.size ≤ 4096 ∧ Below w.heap.size w w') ?_ ?_
  · intro K1 K2 hK2 hK1
    go_wp2_with fail
    refine (HW.out _).mono ?_
    rintro e w1 ⟨rfl, hb⟩
    have HB1 := Aside0.mk hb
    clear hb
    by_cases hm : s.size ≤ 4096
    · have f1 : decide ((4096 : Int) < (s.size : Int)) = false := by simp; omega
      have HM := Aside0.mk hm
      clear hm
      go_wp2_with fail
      exact ⟨(s, _, _, _, _, _), rfl, HM.out, HB1.out⟩
    · have f1 : decide ((4096 : Int) < (s.size : Int)) = true := by simp; omega
      have HM := Aside0.mk hm
      clear hm
      go_wp2_with fail
      all_goals (first | (exfalso; have := HM.out; omega) | exact ⟨(s.extract 0 4096, _, _, _, _, _), rfl, by rw [ByteArray.size_extract]; omega, HB1.out⟩)
  rintro ⟨s, u21, u22, u23, u24, u25⟩ w1 ⟨hm, hb⟩
  dsimp only at hm ⊢
  have HM := Aside0.mk hm
  have HB1 := Aside0.mk hb
  have f3 : IntKind.i64.wrap ((s.size : Int) + 1) = (s.size : Int) + 1 := IntWalk.i64_in _ (by omega)
  clear hm hb
  go_wp2_with fail
  refine (pick_calls2 k ((s.size : Int) + 1) (by omega) (by have := HM.out; omega) _).mono ?_
  rintro e w2 ⟨rfl, rfl⟩
  obtain ⟨m, hm⟩ : ∃ m : Nat, k % ((s.size : Int) + 1) = (m : Int) := Int.eq_ofNat_of_zero_le (Int.emod_nonneg _ (by omega))
  have HMM := Aside0.mk (show m ≤ s.size by have := Int.emod_lt_of_pos k (show (0 : Int) < (s.size : Int) + 1 by omega); omega)
  rw [hm]
  clear hm
  go_wp2_with fail
  refine (made_big _).mono ?_
  rintro e w2 ⟨pw, hp, b, S, rfl, hWt, hS, hpw, hhp, hb⟩
  have HT := Aside0.mk (And.intro hWt (And.intro hS hhp))
  have HB2 := Aside0.mk (HB1.out.trans (hb.mono HB1.out.size))
  obtain ⟨c0, c1, hst⟩ := hWt.st
  have e3 : w2.cell? ⟨pw, 3, none⟩ = some (.pointer (some ⟨b, 0, none⟩)) := by rw [cell_of_row _ _ 3 _ _ _ hst]; rfl
  clear hWt hS hb hst hpw hhp
  go_wp2_with fail
  refine (add_wt _ _ _ _ _ _ _ _ _ HT.out.1.lo (by have := HM.out; simp only [maxLen]; omega) (by simp)).mono ?_
  rintro e w3 ⟨rfl, ha⟩
  have HO0 := Aside0.mk (show Ob w pw hp b 0 [] [] S w2 from ⟨HB2.out, HT.out.1, fun k hk => Nat.le_trans HB1.out.size (HT.out.2.1 k hk).1, Nat.le_trans HB1.out.size HT.out.2.2, fun x hx => by simp at hx⟩)
  have HO1 := Aside0.mk (HO0.out.laid (Below.refl _ _) ha 4 (posOf [] s))
  clear ha e3
  go_wp2_with fail
  obtain ⟨S3, hO⟩ := HO1.out
  have HR1 := Aside0.mk (show (rowAdd [] s)[posOf [] s]? = some s from rowAdd_at _ _)
  have HL1 := Aside0.mk (show (rowAdd [] s).length ≤ 1 from by simpa using rowAdd_len [] s)
  clear HO0 HO1 HT HB2 HB1
  revert hO
  generalize w3.alloc (.cells #[.int .i64 4, .int .i64 (posOf [] s : Int)] 41) = W1
  generalize w3.heap.size = ga
  intro hO
  have HO := Aside0.mk hO
  have HLH := Aside0.mk hO.wt.lth
  have HQ := Aside0.mk (Below.refl W1.heap.size W1)
  have HC := Aside0.mk (hO.cut (posOf [] s) 0 m s _ HR1.out (Nat.zero_le _) HMM.out rfl (by omega) (by have := HMM.out; have := HM.out; rw [ByteArray.size_extract]; omega) (by have := HL1.out; omega))
  obtain ⟨c0, c1, hga, _⟩ := hO.ob _ (List.mem_cons_self ..)
  clear hO
  have hz01 : ga < W1.heap.size + 1 := by omega
  have hz02 : ga ≠ W1.heap.size := by omega
  have hz03 : ga ≠ W1.heap.size + 1 := by omega
  dsimp only at c0 c1 hga hz01 hz02 hz03
  obtain ⟨Sx, hSx⟩ : ∃ SS : Nat → World → Prop, SS = fun g W2 => ∃ S2, Ob w pw hp b (0 + (1 + ((s.extract 0 m).size : Int))) (rowAdd (rowAdd [] s) (s.extract 0 m)) ((g, 4, (posOf (rowAdd [] s) (s.extract 0 m) : Int)) :: (ga, 4, (posOf [] s : Int)) :: []) S2 W2 := ⟨_, rfl⟩
  have HSx := Aside0.mk hSx
  clear hSx
  refine reg_cut2 ?Ax Sx ?_ ?_
  rotate_left 1
  · go_region_with (first
    | (go_at_call 14; have hmk := hbqx; clear hmk; (with_reducible refine (whole_calls _ _).mono ?_); rintro e wrx ⟨rfl, hbrx⟩; obtain ⟨hcrx, hfrx⟩ := bcell hbrx; (try simp only [World.size_drew] at hcrx hfrx); (try simp only [World.size_alloc] at hcrx hfrx); have hzrx := hbrx.size; have hz5 : W1.heap.size ≤ wrx.heap.size + 1 := (by have := hzq5; (try simp at hzrx); omega); have hz6 : W1.heap.size ≤ wrx.heap.size := (by have := hzq5; (try simp at hzrx); omega); (try (have hz1 : W1.heap.size < wrx.heap.size := (by have := hzq5; (try simp at hzrx); omega))); have hz2 : wqx.heap.size ≤ wrx.heap.size := (by (try simp at hzrx); omega); (try (have hz3 : wqx.heap.size < wrx.heap.size := (by (try simp at hzrx); omega))); have hgar0 : ga < wrx.heap.size := (by omega); have hgar1 : ga < wrx.heap.size + 1 := (by omega); have hgar2 : ga ≠ wrx.heap.size := (by omega); have hgar3 : ga ≠ wrx.heap.size + 1 := (by omega); replace HQ := Aside0.mk (show Below W1.heap.size W1 wrx by refine below_step hbrx ?_; (first | exact HQ.out | exact HQ.out.drew | exact HQ.out.alloc HQ.out.size _ | exact (HQ.out.alloc HQ.out.size _).drew | exact HQ.out.drew.alloc HQ.out.size _ | exact (HQ.out.alloc HQ.out.size _).alloc (by have := HQ.out.size; simp; omega) _ | exact ((HQ.out.alloc HQ.out.size _).alloc (by have := HQ.out.size; simp; omega) _).drew | exact (HQ.out.drew.alloc HQ.out.size _).alloc (by have := HQ.out.size; simp; omega) _)))
    | (go_at_call 14; (with_reducible refine (whole_calls _ _).mono ?_); rintro e wqx ⟨rfl, hbqx⟩; obtain ⟨hcqx, hfqx⟩ := bcell hbqx; (try simp only [World.size_drew] at hcqx hfqx); (try simp only [World.size_alloc] at hcqx hfqx); have hzqx := hbqx.size; have hzq5 : W1.heap.size ≤ wqx.heap.size := (by (try simp at hzqx); omega); have hzq6 : W1.heap.size ≤ wqx.heap.size + 1 := (by omega); (try (have hzq2 : W1.heap.size < wqx.heap.size := (by (try simp at hzqx); omega))); have hgaq0 : ga < wqx.heap.size := (by omega); have hgaq1 : ga < wqx.heap.size + 1 := (by omega); have hgaq2 : ga ≠ wqx.heap.size := (by omega); have hgaq3 : ga ≠ wqx.heap.size + 1 := (by omega); replace HQ := Aside0.mk (show Below W1.heap.size W1 wqx by refine below_step hbqx ?_; (first | exact HQ.out | exact HQ.out.drew | exact HQ.out.alloc HQ.out.size _ | exact (HQ.out.alloc HQ.out.size _).drew | exact HQ.out.drew.alloc HQ.out.size _ | exact (HQ.out.alloc HQ.out.size _).alloc (by have := HQ.out.size; simp; omega) _ | exact ((HQ.out.alloc HQ.out.size _).alloc (by have := HQ.out.size; simp; omega) _).drew | exact (HQ.out.drew.alloc HQ.out.size _).alloc (by have := HQ.out.size; simp; omega) _)))
    | (go_at_call 17; refine (HC.out _ _ (by (first | exact HQ.out | exact HQ.out.drew | exact HQ.out.alloc HQ.out.size _ | exact (HQ.out.alloc HQ.out.size _).drew | exact HQ.out.drew.alloc HQ.out.size _ | exact (HQ.out.alloc HQ.out.size _).alloc (by have := HQ.out.size; simp; omega) _ | exact ((HQ.out.alloc HQ.out.size _).alloc (by have := HQ.out.size; simp; omega) _).drew | exact (HQ.out.drew.alloc HQ.out.size _).alloc (by have := HQ.out.size; simp; omega) _)) (by first | exact heap_alloc_last _ _ | exact heap_alloc2_new _ _ _ | exact (Below.heap_alloc _ _ _ (by simp)).trans (heap_alloc_last _ _)) (by have := HQ.out.size; (try simp); try omega)).mono ?_; rintro e w9x ⟨rfl, ha9x, hX9x⟩; obtain ⟨hc9x, hf9x⟩ := ha9x.cells (n := W1.heap.size) (fun k hk => hk.2) HLH.out; have HA9 := Aside0.mk (And.intro ha9x hX9x); clear ha9x hX9x))
    all_goals (try go_simp)
    all_goals (first
      | (refine ⟨w9x.heap.size, wrx.heap.size, ?_, (by rw [HSx.out]; exact HO.out.laid HA9.out.2 HA9.out.1 _ _)⟩; generalize w9x.heap.size = g; generalize wrx.heap.size = k; exact rfl)
      | (refine ⟨wrx.heap.size, wrx.heap.size + 1, ?_, (by rw [HSx.out]; exact HO.out.put HA9.out.2 HA9.out.1 4 _ _ (by omega) (by (first | exact heap_alloc2_new _ _ _ | exact (Below.heap_alloc _ _ _ (by simp)).trans (heap_alloc_last _ _) | exact (Below.heap_alloc _ _ _ (by (try simp); omega)).trans ((hbrx.block _ (by simp)).trans (heap_alloc_last _ _)) | exact (Below.heap_alloc _ _ _ (by (try simp); omega)).trans ((hbrx.block _ (by (try simp); omega)).trans ((hbqx.block _ (by simp)).trans (heap_alloc_last _ _))))))⟩; generalize wrx.heap.size + 1 = k; generalize wrx.heap.size = g; exact rfl)
      | (refine ⟨wrx.heap.size + 1, wrx.heap.size, ?_, (by rw [HSx.out]; exact HO.out.put HA9.out.2 HA9.out.1 4 _ _ (by omega) (by (first | exact heap_alloc2_new _ _ _ | exact (Below.heap_alloc _ _ _ (by simp)).trans (heap_alloc_last _ _) | exact (Below.heap_alloc _ _ _ (by (try simp); omega)).trans ((hbrx.block _ (by simp)).trans (heap_alloc_last _ _)) | exact (Below.heap_alloc _ _ _ (by (try simp); omega)).trans ((hbrx.block _ (by (try simp); omega)).trans ((hbqx.block _ (by simp)).trans (heap_alloc_last _ _))))))⟩; generalize wrx.heap.size + 1 = g; generalize wrx.heap.size = k; exact rfl)
      | (refine ⟨wqx.heap.size, wrx.heap.size, ?_, (by rw [HSx.out]; exact HO.out.put HA9.out.2 HA9.out.1 4 _ _ (by omega) (by (first | exact heap_alloc2_new _ _ _ | exact (Below.heap_alloc _ _ _ (by simp)).trans (heap_alloc_last _ _) | exact (Below.heap_alloc _ _ _ (by (try simp); omega)).trans ((hbrx.block _ (by simp)).trans (heap_alloc_last _ _)) | exact (Below.heap_alloc _ _ _ (by (try simp); omega)).trans ((hbrx.block _ (by (try simp); omega)).trans ((hbqx.block _ (by simp)).trans (heap_alloc_last _ _))))))⟩; generalize wrx.heap.size = k; generalize wqx.heap.size = g; exact rfl)
      | (refine ⟨W1.heap.size, wrx.heap.size, ?_, (by rw [HSx.out]; exact HO.out.put HA9.out.2 HA9.out.1 4 _ _ (by omega) (by (first | exact heap_alloc2_new _ _ _ | exact (Below.heap_alloc _ _ _ (by simp)).trans (heap_alloc_last _ _) | exact (Below.heap_alloc _ _ _ (by (try simp); omega)).trans ((hbrx.block _ (by simp)).trans (heap_alloc_last _ _)) | exact (Below.heap_alloc _ _ _ (by (try simp); omega)).trans ((hbrx.block _ (by (try simp); omega)).trans ((hbqx.block _ (by simp)).trans (heap_alloc_last _ _))))))⟩; generalize wrx.heap.size = k; generalize W1.heap.size = g; exact rfl)
      | go_outline)
  intro gx kx W2 hs
  rw [HSx.out] at hs
  obtain ⟨S4, hO⟩ := hs
  clear HC HQ HO HLH HSx c0 c1 hga hz01 hz02 hz03
  have HR2 := Aside0.mk (rowAdd_keep HR1.out (s.extract 0 m))
  have HL2 := Aside0.mk (show (rowAdd (rowAdd [] s) (s.extract 0 m)).length ≤ 2 from by have := rowAdd_len (rowAdd [] s) (s.extract 0 m); have := HL1.out; omega)
  have HO := Aside0.mk hO
  have HLH := Aside0.mk hO.wt.lth
  have HQ := Aside0.mk (Below.refl W2.heap.size W2)
  have hsx : (s.extract 0 m).size = m := by rw [ByteArray.size_extract]; have := HMM.out; omega
  have hsy : (s.extract m s.size).size = s.size - m := by rw [ByteArray.size_extract]; omega
  have HSZ := Aside0.mk (And.intro hsx hsy)
  have HC := Aside0.mk (hO.cut (posOf [] s) m s.size s _ HR2.out HMM.out (Nat.le_refl _) rfl (by omega) (by have := HMM.out; have := HM.out; omega) (by have := HL2.out; omega))
  obtain ⟨c0, c1, hga, _⟩ := hO.ob _ (List.mem_cons_of_mem _ (List.mem_cons_self ..))
  clear hO hsx hsy
  have hz01 : ga < W2.heap.size + 1 := by omega
  have hz02 : ga ≠ W2.heap.size := by omega
  have hz03 : ga ≠ W2.heap.size + 1 := by omega
  dsimp only at c0 c1 hga hz01 hz02 hz03
  go_wp2_with (fail)
  obtain ⟨Sy, hSy⟩ : ∃ SS : Nat → World → Prop, SS = fun g W2 => ∃ S2, Ob w pw hp b (0 + (1 + ((s.extract 0 m).size : Int)) + (1 + ((s.extract m s.size).size : Int))) (rowAdd (rowAdd (rowAdd [] s) (s.extract 0 m)) (s.extract m s.size)) ((g, 4, (posOf (rowAdd (rowAdd [] s) (s.extract 0 m)) (s.extract m s.size) : Int)) :: (gx, 4, (posOf (rowAdd [] s) (s.extract 0 m) : Int)) :: (ga, 4, (posOf [] s : Int)) :: []) S2 W2 := ⟨_, rfl⟩
  have HSy := Aside0.mk hSy
  clear hSy
  refine reg_cut2 ?Ay Sy ?_ ?_
  rotate_left 1
  · go_region_with (first
    | (go_at_call 14; have hmk := hbqy; clear hmk; (with_reducible refine (whole_calls _ _).mono ?_); rintro e wry ⟨rfl, hbry⟩; obtain ⟨hcry, hfry⟩ := bcell hbry; (try simp only [World.size_drew] at hcry hfry); (try simp only [World.size_alloc] at hcry hfry); have hzry := hbry.size; have hz5 : W2.heap.size ≤ wry.heap.size + 1 := (by have := hzq5; (try simp at hzry); omega); have hz6 : W2.heap.size ≤ wry.heap.size := (by have := hzq5; (try simp at hzry); omega); (try (have hz1 : W2.heap.size < wry.heap.size := (by have := hzq5; (try simp at hzry); omega))); have hz2 : wqy.heap.size ≤ wry.heap.size := (by (try simp at hzry); omega); (try (have hz3 : wqy.heap.size < wry.heap.size := (by (try simp at hzry); omega))); have hgar0 : ga < wry.heap.size := (by omega); have hgar1 : ga < wry.heap.size + 1 := (by omega); have hgar2 : ga ≠ wry.heap.size := (by omega); have hgar3 : ga ≠ wry.heap.size + 1 := (by omega); replace HQ := Aside0.mk (show Below W2.heap.size W2 wry by refine below_step hbry ?_; (first | exact HQ.out | exact HQ.out.drew | exact HQ.out.alloc HQ.out.size _ | exact (HQ.out.alloc HQ.out.size _).drew | exact HQ.out.drew.alloc HQ.out.size _ | exact (HQ.out.alloc HQ.out.size _).alloc (by have := HQ.out.size; simp; omega) _ | exact ((HQ.out.alloc HQ.out.size _).alloc (by have := HQ.out.size; simp; omega) _).drew | exact (HQ.out.drew.alloc HQ.out.size _).alloc (by have := HQ.out.size; simp; omega) _)))
    | (go_at_call 14; (with_reducible refine (whole_calls _ _).mono ?_); rintro e wqy ⟨rfl, hbqy⟩; obtain ⟨hcqy, hfqy⟩ := bcell hbqy; (try simp only [World.size_drew] at hcqy hfqy); (try simp only [World.size_alloc] at hcqy hfqy); have hzqy := hbqy.size; have hzq5 : W2.heap.size ≤ wqy.heap.size := (by (try simp at hzqy); omega); have hzq6 : W2.heap.size ≤ wqy.heap.size + 1 := (by omega); (try (have hzq2 : W2.heap.size < wqy.heap.size := (by (try simp at hzqy); omega))); have hgaq0 : ga < wqy.heap.size := (by omega); have hgaq1 : ga < wqy.heap.size + 1 := (by omega); have hgaq2 : ga ≠ wqy.heap.size := (by omega); have hgaq3 : ga ≠ wqy.heap.size + 1 := (by omega); replace HQ := Aside0.mk (show Below W2.heap.size W2 wqy by refine below_step hbqy ?_; (first | exact HQ.out | exact HQ.out.drew | exact HQ.out.alloc HQ.out.size _ | exact (HQ.out.alloc HQ.out.size _).drew | exact HQ.out.drew.alloc HQ.out.size _ | exact (HQ.out.alloc HQ.out.size _).alloc (by have := HQ.out.size; simp; omega) _ | exact ((HQ.out.alloc HQ.out.size _).alloc (by have := HQ.out.size; simp; omega) _).drew | exact (HQ.out.drew.alloc HQ.out.size _).alloc (by have := HQ.out.size; simp; omega) _)))
    | (go_at_call 17; refine (HC.out _ _ (by (first | exact HQ.out | exact HQ.out.drew | exact HQ.out.alloc HQ.out.size _ | exact (HQ.out.alloc HQ.out.size _).drew | exact HQ.out.drew.alloc HQ.out.size _ | exact (HQ.out.alloc HQ.out.size _).alloc (by have := HQ.out.size; simp; omega) _ | exact ((HQ.out.alloc HQ.out.size _).alloc (by have := HQ.out.size; simp; omega) _).drew | exact (HQ.out.drew.alloc HQ.out.size _).alloc (by have := HQ.out.size; simp; omega) _)) (by first | exact heap_alloc_last _ _ | exact heap_alloc2_new _ _ _ | exact (Below.heap_alloc _ _ _ (by simp)).trans (heap_alloc_last _ _)) (by have := HQ.out.size; (try simp); try omega)).mono ?_; rintro e w9y ⟨rfl, ha9y, hX9y⟩; obtain ⟨hc9y, hf9y⟩ := ha9y.cells (n := W2.heap.size) (fun k hk => hk.2) HLH.out; have HA9 := Aside0.mk (And.intro ha9y hX9y); clear ha9y hX9y))
    all_goals (try go_simp)
    all_goals (first
      | (refine ⟨w9y.heap.size, wry.heap.size, ?_, (by rw [HSy.out]; exact HO.out.laid HA9.out.2 HA9.out.1 _ _)⟩; generalize w9y.heap.size = g; generalize wry.heap.size = k; exact rfl)
      | (refine ⟨wry.heap.size, wry.heap.size + 1, ?_, (by rw [HSy.out]; exact HO.out.put HA9.out.2 HA9.out.1 4 _ _ (by omega) (by (first | exact heap_alloc2_new _ _ _ | exact (Below.heap_alloc _ _ _ (by simp)).trans (heap_alloc_last _ _) | exact (Below.heap_alloc _ _ _ (by (try simp); omega)).trans ((hbry.block _ (by simp)).trans (heap_alloc_last _ _)) | exact (Below.heap_alloc _ _ _ (by (try simp); omega)).trans ((hbry.block _ (by (try simp); omega)).trans ((hbqy.block _ (by simp)).trans (heap_alloc_last _ _))))))⟩; generalize wry.heap.size + 1 = k; generalize wry.heap.size = g; exact rfl)
      | (refine ⟨wry.heap.size + 1, wry.heap.size, ?_, (by rw [HSy.out]; exact HO.out.put HA9.out.2 HA9.out.1 4 _ _ (by omega) (by (first | exact heap_alloc2_new _ _ _ | exact (Below.heap_alloc _ _ _ (by simp)).trans (heap_alloc_last _ _) | exact (Below.heap_alloc _ _ _ (by (try simp); omega)).trans ((hbry.block _ (by simp)).trans (heap_alloc_last _ _)) | exact (Below.heap_alloc _ _ _ (by (try simp); omega)).trans ((hbry.block _ (by (try simp); omega)).trans ((hbqy.block _ (by simp)).trans (heap_alloc_last _ _))))))⟩; generalize wry.heap.size + 1 = g; generalize wry.heap.size = k; exact rfl)
      | (refine ⟨wqy.heap.size, wry.heap.size, ?_, (by rw [HSy.out]; exact HO.out.put HA9.out.2 HA9.out.1 4 _ _ (by omega) (by (first | exact heap_alloc2_new _ _ _ | exact (Below.heap_alloc _ _ _ (by simp)).trans (heap_alloc_last _ _) | exact (Below.heap_alloc _ _ _ (by (try simp); omega)).trans ((hbry.block _ (by simp)).trans (heap_alloc_last _ _)) | exact (Below.heap_alloc _ _ _ (by (try simp); omega)).trans ((hbry.block _ (by (try simp); omega)).trans ((hbqy.block _ (by simp)).trans (heap_alloc_last _ _))))))⟩; generalize wry.heap.size = k; generalize wqy.heap.size = g; exact rfl)
      | (refine ⟨W2.heap.size, wry.heap.size, ?_, (by rw [HSy.out]; exact HO.out.put HA9.out.2 HA9.out.1 4 _ _ (by omega) (by (first | exact heap_alloc2_new _ _ _ | exact (Below.heap_alloc _ _ _ (by simp)).trans (heap_alloc_last _ _) | exact (Below.heap_alloc _ _ _ (by (try simp); omega)).trans ((hbry.block _ (by simp)).trans (heap_alloc_last _ _)) | exact (Below.heap_alloc _ _ _ (by (try simp); omega)).trans ((hbry.block _ (by (try simp); omega)).trans ((hbqy.block _ (by simp)).trans (heap_alloc_last _ _))))))⟩; generalize wry.heap.size = k; generalize W2.heap.size = g; exact rfl)
      | go_outline)
  intro gy ky W3 hs
  try dsimp only
  rw [HSy.out] at hs
  obtain ⟨S5, hO⟩ := hs
  clear HC HQ HO HLH HSy c0 c1 hga hz01 hz02 hz03
  have HR3 := Aside0.mk (And.intro (rowAdd_keep (rowAdd_at (rowAdd [] s) (s.extract 0 m)) (s.extract m s.size)) (And.intro (rowAdd_at (rowAdd (rowAdd [] s) (s.extract 0 m)) (s.extract m s.size)) (rowAdd_keep HR2.out (s.extract m s.size))))
  have HL3 := Aside0.mk (show (rowAdd (rowAdd (rowAdd [] s) (s.extract 0 m)) (s.extract m s.size)).length ≤ 3 from by have := rowAdd_len (rowAdd (rowAdd [] s) (s.extract 0 m)) (s.extract m s.size); have := HL2.out; omega)
  have HO := Aside0.mk hO
  have hcat : s.extract 0 m ++ s.extract m s.size = s := by
    rw [ByteArray.extract_append_extract]; simp [HMM.out]
  have HCC := Aside0.mk (hO.cat _ _ _ _ HR3.out.1 HR3.out.2.1 (by have := HSZ.out; have := HM.out; have := HMM.out; omega) (by omega) (by rw [hcat]; have := HSZ.out; have := HMM.out; have := HM.out; omega) (by have := HL3.out; omega))
  rw [hcat] at HCC
  have hpos : posOf (rowAdd (rowAdd (rowAdd [] s) (s.extract 0 m)) (s.extract m s.size)) s = posOf [] s := idxOf_of HR3.out.2.2 (fun j hj => absurd hj (Nat.not_lt_zero j))
  rw [hpos] at HCC
  obtain ⟨c0, c1, hgy, _⟩ := hO.ob _ (List.mem_cons_self ..)
  obtain ⟨c2, c3, hgx, _⟩ := hO.ob _ (List.mem_cons_of_mem _ (List.mem_cons_self ..))
  clear hO hcat hpos
  dsimp only at c0 c1 c2 c3 hgy hgx
  go_wp2_with (fail)
  refine (HCC.out _ _ (below_alloc1 _ _) (heap_alloc_last _ _) (Nat.le_refl _)).mono ?_
  rintro e w9 ⟨rfl, ha, hX⟩
  have HO9 := Aside0.mk (HO.out.laid hX ha 4 (posOf [] s))
  obtain ⟨S7, hO7⟩ := HO9.out
  have HCL := Aside0.mk (hO7.len _ _ (rowAdd_keep HR3.out.1 s))
  rw [HSZ.out.1] at HCL
  have HW7 := Aside0.mk hO7
  clear hO7
  obtain ⟨S6, h6, _, _⟩ := HO.out.aft hX ha
  obtain ⟨q0, q1, hq⟩ := h6.wt.st
  have epw : w9.cell? ⟨pw, 2, none⟩ = some (.pointer (some ⟨hp, 0, none⟩)) := by rw [cell_of_row _ _ 2 _ _ _ hq]; rfl
  have elp : pw < w9.heap.size := h6.wt.ltp
  clear hq
  obtain ⟨e0, e1, ega, _⟩ := h6.ob _ (List.mem_cons_of_mem _ (List.mem_cons_of_mem _ (List.mem_cons_self ..)))
  obtain ⟨e2, e3, egx, _⟩ := h6.ob _ (List.mem_cons_of_mem _ (List.mem_cons_self ..))
  clear c0 c1 c2 c3 hgy hgx h6 ha hX
  dsimp only at e0 e1 ega e2 e3 egx
  have hn1 : ga ≠ w9.heap.size := by omega
  have hn2 : gx ≠ w9.heap.size := by omega
  go_wp2_with (fail)
  refine (HCL.out _ _ (below_alloc1 _ _) (heap_alloc2_new _ _ _)).mono ?_
  rintro e w10 ⟨rfl, hb, hX⟩
  obtain ⟨hc10, hf10⟩ := bcell hb
  simp only [World.size_alloc] at hc10 hf10
  have hz10 : w9.heap.size + 1 + 1 ≤ w10.heap.size := by have := hb.size; simp at this; omega
  have HB10 := Aside0.mk (hX.trans (hb.mono (by simp)))
  clear hb hX
  have hy1 : w9.heap.size < w9.heap.size + 1 + 1 := by omega
  have hy2 : ga < w9.heap.size + 1 + 1 := by omega
  have hy3 : pw < w9.heap.size + 1 + 1 := by omega
  have hy4 : w9.heap.size ≠ w10.heap.size := by omega
  have hy5 : ga ≠ w10.heap.size := by omega
  have hy6 : pw ≠ w10.heap.size := by omega
  have hy7 : pw ≠ w9.heap.size := by omega
  have hy8 : pw ≠ w9.heap.size + 1 := by omega
  have hy9 : ga ≠ w9.heap.size + 1 := by omega
  have hu1 : w9.heap.size < w10.heap.size := by omega
  have hu2 : ga < w10.heap.size := by omega
  have hu3 : pw < w10.heap.size := by omega
  have hu4 : w9.heap.size < w10.heap.size + 1 := by omega
  have hu5 : ga < w10.heap.size + 1 := by omega
  have hu6 : pw < w10.heap.size + 1 := by omega
  have t1 : IntKind.i64.wrap (2 * (s.size : Int)) = 2 * (s.size : Int) := IntWalk.i64_in _ (by have := HM.out; omega)
  have t2 : IntKind.i64.wrap (3 + 2 * (s.size : Int)) = 3 + 2 * (s.size : Int) := IntWalk.i64_in _ (by have := HM.out; omega)
  have HSP := Aside0.mk (fun (X : World) (hX : Below (w9.alloc (.cells #[.int .i64 4, .int .i64 (posOf [] s : Int)] 41)).heap.size (w9.alloc (.cells #[.int .i64 4, .int .i64 (posOf [] s : Int)] 41)) X) => (spent_calls X hp _ _ (HW7.out.wt.below hX).hs).mono fun e w' h => (show e = .returned (.int .i64 (3 + 2 * (s.size : Int))) ∧ X = w' from ⟨by rw [h.1]; have := HSZ.out; have := HMM.out; congr 2; omega, h.2⟩))
  have HVB := Aside0.mk (HB10.out.alloc (by simp; omega) (.cells #[.int .i64 2, .int .i64 (m : Int)] 41))
  go_wp2_with (fail)
  have v0 : (w10.alloc (.cells #[.int .i64 2, .int .i64 (m : Int)] 41)).cell? ⟨w9.heap.size, 0, none⟩ = some (.int .i64 4) := by go_simp
  have v1 : (w10.alloc (.cells #[.int .i64 2, .int .i64 (m : Int)] 41)).cell? ⟨w9.heap.size, 1, none⟩ = some (.int .i64 (posOf [] s : Int)) := by go_simp
  have v2 : (w10.alloc (.cells #[.int .i64 2, .int .i64 (m : Int)] 41)).cell? ⟨ga, 0, none⟩ = some (.int .i64 4) := by go_simp
  have v3 : (w10.alloc (.cells #[.int .i64 2, .int .i64 (m : Int)] 41)).cell? ⟨ga, 1, none⟩ = some (.int .i64 (posOf [] s : Int)) := by go_simp
  have v4 : (w10.alloc (.cells #[.int .i64 2, .int .i64 (m : Int)] 41)).cell? ⟨w10.heap.size, 0, none⟩ = some (.int .i64 2) := by go_simp
  have v5 : (w10.alloc (.cells #[.int .i64 2, .int .i64 (m : Int)] 41)).cell? ⟨w10.heap.size, 1, none⟩ = some (.int .i64 (m : Int)) := by go_simp
  have v6 : (w10.alloc (.cells #[.int .i64 2, .int .i64 (m : Int)] 41)).cell? ⟨pw, 2, none⟩ = some (.pointer (some ⟨hp, 0, none⟩)) := by go_simp
  have x0 : w9.heap.size < (w10.alloc (.cells #[.int .i64 2, .int .i64 (m : Int)] 41)).heap.size := by simp; omega
  have x1 : ga < (w10.alloc (.cells #[.int .i64 2, .int .i64 (m : Int)] 41)).heap.size := by simp; omega
  have x2 : w10.heap.size < (w10.alloc (.cells #[.int .i64 2, .int .i64 (m : Int)] 41)).heap.size := by simp
  have x3 : pw < (w10.alloc (.cells #[.int .i64 2, .int .i64 (m : Int)] 41)).heap.size := by simp; omega
  clear hc10 hf10 hz10 hy1 hy2 hy3 hy4 hy5 hy6 hy7 hy8 hy9 hu1 hu2 hu3 hu4 hu5 hu6 HB10 e0 e1 e2 e3 epw elp ega egx hn1 hn2
  revert HVB v0 v1 v2 v3 v4 v5 v6 x0 x1 x2 x3
  generalize w10.alloc (.cells #[.int .i64 2, .int .i64 (m : Int)] 41) = V
  generalize w10.heap.size = gn
  intro HVB v0 v1 v2 v3 v4 v5 v6 x0 x1 x2 x3
  have HQ := Aside0.mk (Below.refl V.heap.size V)
  have HK := Aside0.mk (show ∀ X, Below V.heap.size V X → X.cell? ⟨w9.heap.size, 0, none⟩ = some (.int .i64 4) ∧ X.cell? ⟨w9.heap.size, 1, none⟩ = some (.int .i64 (posOf [] s : Int)) ∧ X.cell? ⟨ga, 0, none⟩ = some (.int .i64 4) ∧ X.cell? ⟨ga, 1, none⟩ = some (.int .i64 (posOf [] s : Int)) ∧ X.cell? ⟨gn, 0, none⟩ = some (.int .i64 2) ∧ X.cell? ⟨gn, 1, none⟩ = some (.int .i64 (m : Int)) ∧ X.cell? ⟨pw, 2, none⟩ = some (.pointer (some ⟨hp, 0, none⟩)) from fun X hX => by
    obtain ⟨hc, _⟩ := bcell hX
    exact ⟨(hc _ _ x0).trans v0, (hc _ _ x0).trans v1, (hc _ _ x1).trans v2, (hc _ _ x1).trans v3, (hc _ _ x2).trans v4, (hc _ _ x2).trans v5, (hc _ _ x3).trans v6⟩)
  have HS2 := Aside0.mk (fun X (hX : Below V.heap.size V X) => HSP.out X (HVB.out.trans (hX.mono HVB.out.size)))
  clear v0 v1 v2 v3 v4 v5 v6 x0 x1 x2 x3 HSP
  go_region_held3 (fun X => X.cell? ⟨w9.heap.size, 0, none⟩ = some (.int .i64 4) ∧ X.cell? ⟨w9.heap.size, 1, none⟩ = some (.int .i64 (posOf [] s : Int)) ∧ X.cell? ⟨ga, 0, none⟩ = some (.int .i64 4) ∧ X.cell? ⟨ga, 1, none⟩ = some (.int .i64 (posOf [] s : Int)) ∧ X.cell? ⟨gn, 0, none⟩ = some (.int .i64 2) ∧ X.cell? ⟨gn, 1, none⟩ = some (.int .i64 (m : Int)) ∧ X.cell? ⟨pw, 2, none⟩ = some (.pointer (some ⟨hp, 0, none⟩)))
    (first | exact HK.out _ HQ.out | exact HK.out _ HQ.out.drew)
    ((first
    | (go_at_call 14; (with_reducible refine (whole_calls _ _).mono ?_); rintro e wv ⟨rfl, hbv⟩; replace HQ := Aside0.mk (show Below V.heap.size V wv by refine below_step hbv ?_; (first | exact HQ.out | exact HQ.out.drew)))
    | (go_at_call 18; refine (HS2.out _ (by first | exact HQ.out | exact HQ.out.drew)).mono ?_; rintro e _ ⟨rfl, rfl⟩)))
  go_wp2_with (fail)
  go_ret
  exact ⟨rfl, HW7.out.lo.trans ((HVB.out.trans (HQ.out.mono HVB.out.size)).mono HW7.out.lo.size)⟩
end Go.Proofs.YtkeneiahhmbojaaGreatDoor
