/-
  An index of any of the law's kinds of things: what a cut leaves.
-/
import Derived.Test.YtijmhegccakndaaKt5
namespace Go.Proofs.Ytijmhegccakndaa
open Go.RowKit Go.Maps Go.WideMaps
open Go.ChangeMaps (setBlock)
open Go.Proofs.YtijmhegccakndaaW.PrintWords Go.Proofs.YtijmhegccakndaaW.PrintMore
variable {K : KT}

def IsCutK (K : KT) (w : World) (b bm : Nat) (v : Value) (row : List Nat) (m : Nat) (e : Ending) (w' : World) : Prop :=
  e = .returned (.tuple #[]) ∧ ∃ v' D', IxK K w' b bm v' D' (row.take m) ∧ Kp w w' (Ix.S b bm v) ∧ v'.ownBlock = v.ownBlock

theorem IxK.apart3 (ok : K.Ok) {w : World} {b bm g n cap : Nat} {D : DataW Unit} {row : List Nat} (h : IxK K w b bm (.slice (some ⟨g, 0, none⟩) n cap) D row) : b ≠ bm ∧ b ≠ g ∧ g ≠ bm := by
  obtain ⟨h1, h2, h3⟩ := h.apart ok
  refine ⟨h1, fun e => h2 (by rw [e]; rfl), fun e => h3 (by rw [← e]; rfl)⟩

theorem cut_endK (ok : K.Ok) {w wr : World} {b bm g cap m : Nat} {D Dk : DataW Unit} {row : List Nat} (zs : List Value) (hz : zs.length = (row.length - m) * K.n)
    (h : IxK K w b bm (.slice (some ⟨g, 0, none⟩) row.length cap) D row) (hm : m < row.length)
    (HM : wr.ownsMap Try.prog K.key (plainElem Try.prog 3) bm row.length Dk) (HP : AgreePK K Dk row m row.length) (HG : w.grownBy wr (some bm)) :
    IsCutK K w b bm (.slice (some ⟨g, 0, none⟩) row.length cap) row m (.returned (.tuple #[])) ((wr.setCells g (m * K.n) zs).setCell ⟨b, 1, none⟩ (.slice (some ⟨g, 0, none⟩) m cap)) := by
  obtain ⟨n1, n2, n3⟩ := h.apart3 ok
  have hlen : (row.take m).length = m := by rw [List.length_take]; omega
  have hbr : wr.heap[b]? = some (.cells #[.map (some bm), .slice (some ⟨g, 0, none⟩) row.length cap] K.st (0, 0)) := (HG.block b (h.lt b (.inl rfl)) (by simpa using n1)).trans h.block
  obtain ⟨cur, hgw, hnc, hcm, hcs, htk⟩ : ∃ cur, w.heap[g]? = some (.cells cur K.key (0, 0)) ∧ row.length ≤ cap ∧ cap ≤ maxLen ∧ cur.size = cap * K.n ∧ cur.toList.take (row.length * K.n) = K.row row := by
    rcases h.items.2 with ⟨hv, _⟩ | ⟨g', cap', cur, hv, _, hg, r1, r2, r3, r4⟩
    · cases hv
    · cases hv; exact ⟨cur, hg, r1, r2, r3, r4⟩
  have hgr : wr.heap[g]? = some (.cells cur K.key (0, 0)) := (HG.block g (h.lt g (.inr (.inr rfl))) (by simpa using n3)).trans hgw
  have hmul : m * K.n + (row.length - m) * K.n = row.length * K.n := by rw [← Nat.add_mul]; congr 1; omega
  have hmul2 : row.length * K.n ≤ cap * K.n := Nat.mul_le_mul_right _ hnc
  obtain ⟨cur', h3, h4, h5⟩ := setCells_row zs (m * K.n) wr cur hgr (by rw [hz]; omega)
  have hb2 : (wr.setCells g (m * K.n) zs).heap[b]? = some (.cells #[.map (some bm), .slice (some ⟨g, 0, none⟩) row.length cap] K.st (0, 0)) := (setCells_far _ _ b n2).trans hbr
  obtain ⟨s1, s2, s3, s4⟩ := setCells_same g zs (m * K.n) wr
  have hkp : Kp w ((wr.setCells g (m * K.n) zs)) (Ix.S b bm (.slice (some ⟨g, 0, none⟩) row.length cap)) := by
    refine ((Kp.refl w _).grown HG (fun j hj => .inl (.inr (.inl (by injection hj with hj; exact hj.symm))))).trans (S' := fun j => j = g) ⟨s1, s2, s3, by rw [s4]; exact Nat.le_refl _, fun k _ hk => setCells_far _ _ k hk⟩ (fun j hj => .inl (.inr (.inr (by rw [hj]; rfl))))
  refine ⟨rfl, .slice (some ⟨g, 0, none⟩) m cap, Dk, ⟨?_, ?_, HP.finish h.agree.apart h.agree.small (by omega), ?_⟩, hkp.setCell (.inl (.inl rfl)) _, rfl⟩
  · rw [heap_set hb2]; simp
  · obtain ⟨es, cl, hb', F, hs, hD⟩ := HM
    refine ⟨es, cl, ?_, F, ?_, hD⟩
    · rw [Below.heap_setCell _ _ _ _ (show bm ≠ b from fun e => n1 e.symm), setCells_far _ _ bm (fun e => n3 e.symm)]
      exact hb'
    · have h10 := (HP.finish h.agree.apart h.agree.small (by omega)).size
      have h11 : Maps.size Dk = es.size := by rw [hD]; simp [Maps.size, length_sorted]
      omega
  · rw [hlen]
    refine ⟨by rw [KT.row_length ok, hlen], .inr ⟨g, cap, cur', rfl, Nat.zero_le _, ?_, by omega, hcm, by rw [h4, hcs], ?_⟩⟩
    · rw [Below.heap_setCell _ _ _ _ (show g ≠ b from fun e => n2 e.symm)]
      exact h3
    · rw [h5, List.append_assoc, List.take_append_of_le_length (by rw [List.length_take, Array.length_toList]; omega), List.take_take, Nat.min_self]
      have : cur.toList.take (m * K.n) = (cur.toList.take (row.length * K.n)).take (m * K.n) := by rw [List.take_take, Nat.min_eq_left (by omega)]
      rw [this, htk, KT.row_take ok]

theorem run_clearK (sl e : TypeId) (z : Value) (hu : Try.prog.underlying sl = some (.slice e)) (hzv : ∀ w, (zeroValue e).run Try.prog w = .ok z w) (ty : TypeId) (g o k c : Nat) (W : World) (cur : Array Value) (hk : 0 < k) (hg : W.heap[g]? = some (.cells cur e (0, 0))) (hl : o + (Builtin.zeroCells z.cells k).size ≤ cur.size)
    (hmem : ∀ u, u ∈ (Builtin.zeroCells z.cells k).toList → u.oneCell' = true) :
    (Builtin.clear_ #[sl] ty #[.slice (some ⟨g, o, none⟩) k c]).run Try.prog W = .ok (.tuple #[]) (W.setCells g o (Builtin.zeroCells z.cells k).toList) := by
  obtain ⟨k', rfl⟩ : ∃ k', k = k' + 1 := ⟨k - 1, by omega⟩
  have hst := run_storeCells_cells (P := Try.prog) g o (Builtin.zeroCells z.cells (k' + 1)).toList 0 W (fun j hj => by simp only [Array.length_toList] at hj; simp [World.cell?, hg]; omega) (fun j hj => by simp [World.frozen?, hg]) hmem
  simp [Builtin.clear_, run_underlying hu, hzv, hst, Result.andThen]
end Go.Proofs.Ytijmhegccakndaa
