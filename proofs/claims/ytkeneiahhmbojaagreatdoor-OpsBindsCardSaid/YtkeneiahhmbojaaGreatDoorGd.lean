/-
  The world of bound functions: its program, its heap, its objects.
  bind by Do and by Apply.
-/
import Derived.Test.YtkeneiahhmbojaaGreatDoorGc
import Derived.Deep.DeepMust
namespace Go.Proofs.YtkeneiahhmbojaaGreatDoor
open Go.RowKit Go.MapKept
open Go.Proofs.YtkeneiahhmbojaaGreatDoorW.PrintWords Go.Proofs.YtkeneiahhmbojaaGreatDoorW.PrintMore
open POpsBinds
set_option linter.unusedVariables false

/-- only heaps and rows of things have changed -/
structure Fr (n : Nat) (W w' : World) : Prop where
  lo : Below n W w'
  ty : ∀ (k : Nat) (cs : Array Value) (t : TypeId), W.heap[k]? = some (Obj.cells cs t (0, 0)) → t ≠ 94 → t ≠ 96 → w'.heap[k]? = some (.cells cs t (0, 0))
theorem Fr.below {n : Nat} {W w' : World} (h : Below W.heap.size W w') (hn : n ≤ W.heap.size) : Fr n W w' :=
  ⟨h.mono hn, fun k _ _ hk _ _ => (h.block k (Array.getElem?_eq_some_iff.1 hk).1).trans hk⟩
theorem Fr.trans {n : Nat} {a b c : World} (h : Fr n a b) (k : Fr n b c) : Fr n a c :=
  ⟨h.lo.trans k.lo, fun j cs t hj h1 h2 => k.ty j cs t (h.ty j cs t hj h1 h2) h1 h2⟩
theorem Fr.kp {n n0 hp : Nat} {W w' : World} {c0 c1 v : Value} {bs : List Nat} (hk : Kp W w' (fun k => k = hp ∨ some k = v.ownBlock)) (hh : W.heap[hp]? = some (.cells #[c0, c1, v] 94 (0, 0))) (hth : kTh.R 96 W n0 (fun _ => True) v bs) (h1 : n ≤ hp) (h2 : n ≤ n0) (h3 : n ≤ W.heap.size) : Fr n W w' := by
  refine ⟨⟨hk.os, hk.tape, hk.output, hk.size, fun k hk' => hk.block k (by omega) (fun hc => hc.elim (by omega) (fun he => by have := Kd.R_base hth k he.symm; omega))⟩, fun k cs t hc g1 g2 => (hk.block k (Array.getElem?_eq_some_iff.1 hc).1 (fun hc' => hc'.elim (fun e => ?_) (fun e => ?_))).trans hc⟩
  · subst e
    rw [hh] at hc
    cases hc
    exact g1 rfl
  · obtain ⟨c2, g3⟩ := Kd.R_typed hth k e.symm
    rw [g3] at hc
    cases hc
    exact g2 rfl
theorem R41_fr {n m : Nat} {ok : Nat → Prop} {W w' : World} {v : Value} {l : List S41} (h : k41.R 41 W n ok v l) (hf : Fr m W w') : k41.R 41 w' n ok v l :=
  Kd.R_mono (Kd.R_step (Kd.R_bound h) (fun k hk _ => by
    obtain ⟨q, hq, cells, hc⟩ := hk.2.2.2
    have hq' : q = 41 := (List.mem_cons.1 hq).elim (fun e => e) (fun e => absurd e List.not_mem_nil)
    subst hq'
    exact (hf.ty k cells 41 hc (by decide) (by decide)).trans hc.symm)) (fun k hk => hk.1)

def cost : List (List S41) → Int
  | [] => 0
  | l :: os => 2 + (l.length : Int) + cost os
theorem cost_snoc (os : List (List S41)) (l : List S41) : cost (os ++ [l]) = cost os + (2 + (l.length : Int)) := by
  induction os with
  | nil => simp [cost]
  | cons a os ih => simp only [List.cons_append, cost, ih]; omega
theorem cost_pos (os : List (List S41)) : 0 ≤ cost os := by
  induction os with
  | nil => simp [cost]
  | cons a os ih => simp only [cost]; omega

/-- the world's struct, its program's one function, its heap with these objects, whose values lie in blocks of ok -/
structure Bw (n0 pw hp fb cc : Nat) (p : Int) (os : List (List S41)) (ok : Nat → Prop) (W : World) : Prop where
  pr : ∃ p0 p3, W.heap[pw]? = some (.cells #[p0, .slice (some ⟨fb, 0, none⟩) 1 cc, .pointer (some ⟨hp, 0, none⟩), p3] 38 (0, 0))
  fr : ∃ cs, W.heap[fb]? = some (.cells cs 61 (0, 0)) ∧ cs[1]? = some (.int .i64 p)
  hr : ∃ v bs, W.heap[hp]? = some (.cells #[.int .i64 1048576, .int .i64 (cost os), v] 94 (0, 0)) ∧ kTh.R 96 W n0 (fun _ => True) v bs ∧ bs.length = os.length ∧ ∀ (j t : Nat) (l : List S41), bs[j]? = some t → os[j]? = some l → ∃ vi, W.heap[t]? = some (.cells #[.int .i64 0, vi] 132 (0, 0)) ∧ k41.R 41 W n0 ok vi l
  n1 : n0 ≤ W.heap.size
  n2 : n0 ≤ hp
theorem Bw.mono {n0 pw hp fb cc : Nat} {p : Int} {os : List (List S41)} {ok ok' : Nat → Prop} {W : World} (h : Bw n0 pw hp fb cc p os ok W) (hok : ∀ k, ok k → k < W.heap.size → ok' k) : Bw n0 pw hp fb cc p os ok' W := by
  obtain ⟨h1, h2, ⟨v, bs, h4, h5, h6, h7⟩, h8, h9⟩ := h
  refine ⟨h1, h2, ⟨v, bs, h4, h5, h6, fun j t l g1 g2 => ?_⟩, h8, h9⟩
  obtain ⟨vi, g3, g4⟩ := h7 j t l g1 g2
  exact ⟨vi, g3, Kd.R_mono (Kd.R_bound g4) (fun k hk => hok k hk.1 hk.2.2.1)⟩
theorem Bw.below {n0 pw hp fb cc : Nat} {p : Int} {os : List (List S41)} {ok : Nat → Prop} {W w' : World} (h : Bw n0 pw hp fb cc p os ok W) (hb : Below W.heap.size W w') : Bw n0 pw hp fb cc p os ok w' := by
  obtain ⟨⟨p0, p3, h1⟩, ⟨cs, h2, h3⟩, ⟨v, bs, h4, h5, h6, h7⟩, h8, h9⟩ := h
  have hx : ∀ {k : Nat} {o : Obj}, W.heap[k]? = some o → w'.heap[k]? = some o := fun {k o} hk => (hb.block k (Array.getElem?_eq_some_iff.1 hk).1).trans hk
  refine ⟨⟨p0, p3, hx h1⟩, ⟨cs, hx h2, h3⟩, ⟨v, bs, hx h4, Kd.R_below h5 hb, h6, fun j t l g1 g2 => ?_⟩, Nat.le_trans h8 hb.size, h9⟩
  obtain ⟨vi, g3, g4⟩ := h7 j t l g1 g2
  exact ⟨vi, hx g3, Kd.R_below g4 hb⟩
/-- what a step came to: these objects, and nothing else has changed -/
def Ab (n0 pw hp fb cc : Nat) (p : Int) (os : List (List S41)) (ok : Nat → Prop) (W w' : World) : Prop := Bw n0 pw hp fb cc p os (fun k => ok k ∨ W.heap.size ≤ k) w' ∧ Fr n0 W w'
theorem Ab.ahead {n0 pw hp fb cc : Nat} {p : Int} {os : List (List S41)} {ok : Nat → Prop} {W X w' : World} (h : Ab n0 pw hp fb cc p os ok X w') (hb : Below W.heap.size W X) (hn : n0 ≤ W.heap.size) : Ab n0 pw hp fb cc p os ok W w' :=
  ⟨h.1.mono fun k hk _ => hk.imp id fun h => Nat.le_trans hb.size h, (Fr.below hb hn).trans h.2⟩
theorem Ab.below {n0 pw hp fb cc : Nat} {p : Int} {os : List (List S41)} {ok : Nat → Prop} {W X w' : World} (h : Ab n0 pw hp fb cc p os ok W X) (hb : Below X.heap.size X w') : Ab n0 pw hp fb cc p os ok W w' :=
  ⟨h.1.below hb, h.2.trans (Fr.below hb h.1.n1)⟩
theorem Ab.same {n0 pw hp fb cc : Nat} {p : Int} {os : List (List S41)} {ok : Nat → Prop} {W w' : World} (h : Bw n0 pw hp fb cc p os ok W) (hb : Below W.heap.size W w') : Ab n0 pw hp fb cc p os ok W w' :=
  ⟨(h.below hb).mono fun k hk _ => .inl hk, Fr.below hb h.n1⟩
theorem Ab.weak {n0 pw hp fb cc : Nat} {p : Int} {os : List (List S41)} {ok ok' : Nat → Prop} {W w' : World} (h : Ab n0 pw hp fb cc p os ok W w') (hok : ∀ k, ok k → ok' k) : Ab n0 pw hp fb cc p os ok' W w' :=
  ⟨h.1.mono fun k hk _ => hk.imp (hok k) id, h.2⟩
/-- a block that is none of these is written -/
theorem Bw.only {n0 pw hp fb cc g t : Nat} {p : Int} {os : List (List S41)} {ok : Nat → Prop} {W w' : World} {cs : Array Value} (h : Bw n0 pw hp fb cc p os ok W) (hK : Kp W w' (fun k => k = g)) (hg : W.heap[g]? = some (.cells cs t (0, 0))) (h38 : t ≠ 38) (h61 : t ≠ 61) (h94 : t ≠ 94) (h96 : 96 ≠ t) (h132 : t ≠ 132) (h41 : 41 ≠ t ∨ ∀ k, ok k → k ≠ g) : Bw n0 pw hp fb cc p os ok w' := by
  obtain ⟨⟨p0, p3, h1⟩, ⟨c2, h2, h3⟩, ⟨v, bs, h4, h5, h6, h7⟩, h8, h9⟩ := h
  have hx : ∀ {k q : Nat} {c : Array Value}, W.heap[k]? = some (.cells c q (0, 0)) → t ≠ q → w'.heap[k]? = some (.cells c q (0, 0)) := fun {k q c} hk hq =>
    (hK.block k (Array.getElem?_eq_some_iff.1 hk).1 (fun e => by subst e; rw [hg] at hk; cases hk; exact hq rfl)).trans hk
  refine ⟨⟨p0, p3, hx h1 h38⟩, ⟨c2, hx h2 h61, h3⟩, ⟨v, bs, hx h4 h94, Kd.R_mono (Kd.R_step (Kd.R_types h5 hg (fun q hq => ?_)) (fun k hk hlt => hK.block k hlt hk.2)) (fun _ _ => trivial), h6, fun j t' l g1 g2 => ?_⟩, Nat.le_trans h8 hK.size, h9⟩
  · have hq' : q = 96 := (List.mem_cons.1 hq).elim (fun e => e) (fun e => absurd e List.not_mem_nil)
    subst hq'
    exact h96
  · obtain ⟨vi, g3, g4⟩ := h7 j t' l g1 g2
    refine ⟨vi, hx g3 h132, ?_⟩
    rcases h41 with h41 | h41
    · refine Kd.R_mono (Kd.R_step (Kd.R_types g4 hg (fun q hq => ?_)) (fun k hk hlt => hK.block k hlt hk.2)) (fun _ hk => hk.1)
      have hq' : q = 41 := (List.mem_cons.1 hq).elim (fun e => e) (fun e => absurd e List.not_mem_nil)
      subst hq'
      exact h41
    · exact Kd.R_step g4 (fun k hk hlt => hK.block k hlt (h41 k hk))
/-- a block made behind W is written -/
theorem Ab.only {n0 pw hp fb cc g t : Nat} {p : Int} {os : List (List S41)} {ok ok' : Nat → Prop} {W V X w' : World} {cs : Array Value} (h : Ab n0 pw hp fb cc p os ok V X) (hK : Kp X w' (fun k => k = g)) (hV : Below W.heap.size W V) (hg : X.heap[g]? = some (.cells cs t (0, 0))) (hW : W.heap.size ≤ g) (hn : n0 ≤ W.heap.size) (h38 : t ≠ 38) (h61 : t ≠ 61) (h94 : t ≠ 94) (h96 : 96 ≠ t) (h132 : t ≠ 132) (h41 : 41 ≠ t ∨ ∀ k, (ok k ∨ V.heap.size ≤ k) → k ≠ g) (hok : ∀ k, ok k → ok' k) : Ab n0 pw hp fb cc p os ok' W w' := by
  have h2 := (Fr.below hV hn).trans h.2
  have hsz := h2.lo.size
  refine ⟨(h.1.only hK hg h38 h61 h94 h96 h132 h41).mono fun k hk _ => hk.imp (hok k) fun h => Nat.le_trans hV.size h, ⟨⟨hK.os.trans h2.lo.os, hK.tape.trans h2.lo.tape, hK.output.trans h2.lo.output, Nat.le_trans hsz hK.size, fun k hk => ?_⟩, fun k c t hk h1 h3 => ?_⟩⟩
  · exact (hK.block k (by omega) (by omega)).trans (h2.lo.block k hk)
  · have := (Array.getElem?_eq_some_iff.1 hk).1
    exact (hK.block k (by omega) (by omega)).trans (h2.ty k c t hk h1 h3)
/-- one object more -/
theorem Bw.put {n0 pw hp fb cc : Nat} {p : Int} {os : List (List S41)} {ok : Nat → Prop} {W w' : World} {v : Value} {bs : List Nat} {l : List S41} (h : Bw n0 pw hp fb cc p os ok W)
    (h4 : W.heap[hp]? = some (.cells #[.int .i64 1048576, .int .i64 (cost os), v] 94 (0, 0))) (h5 : kTh.R 96 W n0 (fun _ => True) v bs) (h6 : bs.length = os.length) (h7 : ∀ (j t : Nat) (l : List S41), bs[j]? = some t → os[j]? = some l → ∃ vi, W.heap[t]? = some (.cells #[.int .i64 0, vi] 132 (0, 0)) ∧ k41.R 41 W n0 ok vi l)
    (hr : ∃ t v' vi, w'.heap[hp]? = some (.cells #[.int .i64 1048576, .int .i64 (cost os + (2 + (l.length : Int))), v'] 94 (0, 0)) ∧ kTh.R 96 w' n0 (fun _ => True) v' (bs ++ [t]) ∧ w'.heap[t]? = some (.cells #[.int .i64 0, vi] 132 (0, 0)) ∧ k41.R 41 w' W.heap.size (fun _ => True) vi l ∧ Kp W w' (fun k => k = hp ∨ some k = v.ownBlock) ∧ W.heap.size ≤ t) :
    Ab n0 pw hp fb cc p (os ++ [l]) ok W w' := by
  obtain ⟨t, v', vi, r1, r2, r3, r4, r5, r6⟩ := hr
  obtain ⟨⟨p0, p3, h1⟩, ⟨c2, h2, h3⟩, _, h8, h9⟩ := h
  have hf : Fr n0 W w' := Fr.kp r5 h4 h5 h9 (Nat.le_refl _) h8
  refine ⟨⟨⟨p0, p3, hf.ty _ _ _ h1 (by decide) (by decide)⟩, ⟨c2, hf.ty _ _ _ h2 (by decide) (by decide), h3⟩, ⟨v', bs ++ [t], ?_, r2, by simp [h6], fun j t' l' g1 g2 => ?_⟩, Nat.le_trans h8 hf.lo.size, h9⟩, hf⟩
  · rw [cost_snoc]
    exact r1
  · by_cases hj : j < bs.length
    · rw [List.getElem?_append_left hj] at g1
      rw [List.getElem?_append_left (by omega)] at g2
      obtain ⟨vi', g3, g4⟩ := h7 j t' l' g1 g2
      exact ⟨vi', hf.ty _ _ _ g3 (by decide) (by decide), Kd.R_mono (R41_fr g4 hf) (fun k hk => .inl hk)⟩
    · rw [List.getElem?_append_right (by omega)] at g1 g2
      rw [h6] at g1
      have hj0 : j - os.length = 0 := by
        have := (List.getElem?_eq_some_iff.1 g1).1
        simp at this
        omega
      rw [hj0] at g1 g2
      simp at g1 g2
      subst g1 g2
      exact ⟨vi, r3, Kd.R_lower (Kd.R_mono (Kd.R_bound r4) (fun k hk => .inr hk.2.1)) h8⟩

/-- bind at the function, where the values fit -/
theorem bindF {n0 pw hp fb cc : Nat} {p : Int} {os : List (List S41)} {ok : Nat → Prop} {W : World} (h : Bw n0 pw hp fb cc p os ok W) (ho : os.length ≤ 3) (hc : cost os ≤ 1000) (A : Option Addr) (c : Nat) (l : List S41) (hr : Kd.C k41 W A l.length l) (hl : l.length ≤ 64) (hfit : (l.length : Int) ≤ p) :
    Calls Tryz.prog 50 #[.pointer (some ⟨pw, 0, none⟩), .agg #[.int .i64 5, .int .i64 0], .slice A l.length c] W fun e w' => e = .returned (.agg #[.int .i64 8, .int .i64 (os.length : Int), .int .i64 0, .bool false]) ∧ Ab n0 pw hp fb cc p (os ++ [l]) ok W w' := by
  have hB := h
  obtain ⟨⟨p0, p3, h1⟩, ⟨c2, h2, h3⟩, ⟨v, bs, h4, h5, h6, h7⟩, h8, h9⟩ := h
  refine (bind_func W n0 pw hp fb cc (cost os) p v p0 p3 bs A c l h1 h4 h5 (by omega) (fun X hX => ?_) hr hl h8 hfit (cost_pos os) (by omega)).mono ?_
  · rw [cell_of_row _ _ 1 _ _ _ ((hX.block fb (Array.getElem?_eq_some_iff.1 h2).1).trans h2)]
    exact h3
  · rintro e w' ⟨rfl, hw⟩
    rw [← h6]
    exact ⟨rfl, hB.put h4 h5 h6 h7 hw⟩
/-- bind at the function, where the values are too many -/
theorem bindM {n0 pw hp fb cc : Nat} {p : Int} {os : List (List S41)} {ok : Nat → Prop} {W : World} (h : Bw n0 pw hp fb cc p os ok W) (ho : os.length ≤ 3) (A : Option Addr) (c : Nat) (l : List S41) (hr : Kd.C k41 W A l.length l) (hl : l.length ≤ 64) (hfit : p < (l.length : Int)) :
    Calls Tryz.prog 50 #[.pointer (some ⟨pw, 0, none⟩), .agg #[.int .i64 5, .int .i64 0], .slice A l.length c] W fun e w' => e = .returned (.agg #[.int .i64 0, .int .i64 0, .int .i64 5, .bool false]) ∧ Ab n0 pw hp fb cc p os ok W w' := by
  have hB := h
  obtain ⟨⟨p0, p3, h1⟩, ⟨c2, h2, h3⟩, ⟨v, bs, h4, h5, h6, h7⟩, h8, h9⟩ := h
  refine (bind_many W n0 pw hp fb cc (cost os) p v p0 p3 bs A c l h1 h4 h5 (by omega) (fun X hX => ?_) hr hl hfit).mono ?_
  · rw [cell_of_row _ _ 1 _ _ _ ((hX.block fb (Array.getElem?_eq_some_iff.1 h2).1).trans h2)]
    exact h3
  · rintro e w' ⟨rfl, hw⟩
    exact ⟨rfl, Ab.same hB hw⟩
end Go.Proofs.YtkeneiahhmbojaaGreatDoor

namespace Go.Proofs.YtkeneiahhmbojaaGreatDoor
open Go.RowKit Go.MapKept
open Go.Proofs.YtkeneiahhmbojaaGreatDoorW.PrintWords Go.Proofs.YtkeneiahhmbojaaGreatDoorW.PrintMore
open POpsBinds
set_option linter.unusedVariables false

theorem set4_row (w : World) (g : Nat) (a b c d x y z u : Value) (t : TypeId) (h : w.heap[g]? = some (.cells #[a, b, c, d] t (0, 0))) : ((((w.setCell ⟨g, 0, none⟩ x).setCell ⟨g, 1, none⟩ y).setCell ⟨g, 2, none⟩ z).setCell ⟨g, 3, none⟩ u).heap[g]? = some (.cells #[x, y, z, u] t (0, 0)) := by
  have hlt := (Array.getElem?_eq_some_iff.1 h).1
  have h2 := (Array.getElem?_eq_some_iff.1 h).2
  simp [World.setCell, hlt, Array.getElem_modify, h2]
theorem set4_kp (w : World) (g : Nat) (x y z u : Value) : Kp w ((((w.setCell ⟨g, 0, none⟩ x).setCell ⟨g, 1, none⟩ y).setCell ⟨g, 2, none⟩ z).setCell ⟨g, 3, none⟩ u) (fun k => k = g) :=
  ((((Kp.refl w (fun k => k = g)).setCell (p := ⟨g, 0, none⟩) (.inl rfl) _).setCell (p := ⟨g, 1, none⟩) (.inl rfl) _).setCell (p := ⟨g, 2, none⟩) (.inl rfl) _).setCell (p := ⟨g, 3, none⟩) (.inl rfl) _
set_option maxRecDepth 100000 in
set_option maxHeartbeats 4000000 in
theorem do_bind (w : World) (n0 pw hp fb cc : Nat) (p : Int) (os' : List (List S41)) (ok : Nat → Prop) (g m cap : Nat) (A f0 f1 D0 D1 D2 : Int) (T : Value) (hn : n0 ≤ w.heap.size) (hg0 : w.cell? ⟨g, 0, none⟩ = some (.int .i64 f0)) (hg1 : w.cell? ⟨g, 1, none⟩ = some (.int .i64 f1)) (hm : 1 ≤ m)
    (hT : ∀ W, (Instr.slice 55 (.slice (some ⟨g, 0, none⟩) m cap) (some (.int .i64 1)) none none).run Tryz.prog W = .ok T W)
    (hR : ∀ W, Below w.heap.size w W → Calls Tryz.prog 50 #[.pointer (some ⟨pw, 0, none⟩), .agg #[.int .i64 f0, .int .i64 f1], T] W fun e w' => e = .returned (.agg #[.int .i64 D0, .int .i64 D1, .int .i64 D2, .bool false]) ∧ Ab n0 pw hp fb cc p os' ok W w') :
    Calls Tryz.prog 34 #[.pointer (some ⟨pw, 0, none⟩), .agg #[.int .i64 46, .int .i64 A], .slice (some ⟨g, 0, none⟩) m cap] w fun e w' => e = .returned (.agg #[.int .i64 D0, .int .i64 D1, .int .i64 D2, .bool false]) ∧ Ab n0 pw hp fb cc p os' ok w w' := by
  have HF := Aside0.mk hR
  have HN := Aside0.mk hn
  have t1 : decide ((m : Int) ≤ 0) = false := by simp; omega
  have t2 : decide ((0 : Int) < (m : Int)) = true := by simp; omega
  have t3 : decide ((m : Int) < 1) = false := by simp; omega
  have hgl : g < w.heap.size := World.block_lt_of_cell? _ _ hg0
  clear hR hn
  go_enter Tryz.func34, Tryz.ntmps34
  go_wp2_with fail
  have HB2 := Aside0.mk ((below_alloc1 w (.cells #[.int .i64 46, .int .i64 A] 54)).alloc (by simp) (.cells #[.int .i64 0, .int .i64 0, .int .i64 0, .bool false] 90))
  have HG2 := Aside0.mk (heap_alloc2_new w (.cells #[.int .i64 46, .int .i64 A] 54) (.cells #[.int .i64 0, .int .i64 0, .int .i64 0, .bool false] 90))
  have HX := Aside0.mk (fun X (hX : Below w.heap.size w X) (hG : X.heap[w.heap.size + 1]? = some (.cells #[.int .i64 0, .int .i64 0, .int .i64 0, .bool false] 90 (0, 0))) => (HF.out X hX).mono (R' := fun e w3 => e = .returned (.agg #[.int .i64 D0, .int .i64 D1, .int .i64 D2, .bool false]) ∧ w3.heap[w.heap.size + 1]? = some (.cells #[.int .i64 0, .int .i64 0, .int .i64 0, .bool false] 90 (0, 0)) ∧ Ab n0 pw hp fb cc p os' ok X w3 ∧ Below w.heap.size w X) (fun e w3 ⟨he, ha⟩ => ⟨he, ha.2.ty _ _ _ hG (by decide) (by decide), ha, hX⟩))
  go_region_with (go_at_call 50; (go_must (refine (HX.out _ (by first | exact HB2.out | exact below_drew HB2.out) (by exact HG2.out)).mono ?_)); rintro e w3 ⟨rfl, ha⟩; have HA := Aside0.mk ha; have k0 : w3.cell? ⟨w.heap.size + 1, 0, none⟩ = some (.int .i64 0) := (by rw [cell_of_row _ _ 0 _ _ _ ha.1]; rfl); have k1 : w3.cell? ⟨w.heap.size + 1, 1, none⟩ = some (.int .i64 0) := (by rw [cell_of_row _ _ 1 _ _ _ ha.1]; rfl); have k2 : w3.cell? ⟨w.heap.size + 1, 2, none⟩ = some (.int .i64 0) := (by rw [cell_of_row _ _ 2 _ _ _ ha.1]; rfl); have k3 : w3.cell? ⟨w.heap.size + 1, 3, none⟩ = some (.bool false) := (by rw [cell_of_row _ _ 3 _ _ _ ha.1]; rfl); have r0 : w3.frozen? ⟨w.heap.size + 1, 0, none⟩ = false := frozen_of_row w3 _ 0 _ _ ha.1; have r1 : w3.frozen? ⟨w.heap.size + 1, 1, none⟩ = false := frozen_of_row w3 _ 1 _ _ ha.1; have r2 : w3.frozen? ⟨w.heap.size + 1, 2, none⟩ = false := frozen_of_row w3 _ 2 _ _ ha.1; have r3 : w3.frozen? ⟨w.heap.size + 1, 3, none⟩ = false := frozen_of_row w3 _ 3 _ _ ha.1; clear ha)
  all_goals
    have HZ := Aside0.mk (HA.out.2.1.only (set4_kp w3 (w.heap.size + 1) (.int .i64 D0) (.int .i64 D1) (.int .i64 D2) (.bool false)) HA.out.2.2 HA.out.1 (by omega) HN.out (by decide) (by decide) (by decide) (by decide) (by decide) (.inl (by decide)) (fun _ h => h))
    have HY := Aside0.mk (set4_row w3 (w.heap.size + 1) _ _ _ _ (.int .i64 D0) (.int .i64 D1) (.int .i64 D2) (.bool false) 90 HA.out.1)
    go_wp2_with fail
    first
      | exact bodyPost_ret (results_cell_row rfl _ _ (w.heap.size + 1) 90 _ (0, 0) _ rfl HY.out Tryz.underlying90 rfl (by kernel_rfl)) rfl ⟨rfl, HZ.out⟩
      | exact bodyPost_ret (results_cell_row rfl _ _ (w.heap.size + 1) 90 _ (0, 0) _ rfl (show World.drew _ |>.heap[w.heap.size + 1]? = _ from HY.out) Tryz.underlying90 rfl (by kernel_rfl)) rfl ⟨rfl, HZ.out.below (below_drew (Below.refl _ _))⟩
      | go_outline
set_option maxRecDepth 100000 in
theorem apply_bindv (A : Int) (w : World) (n0 pw hp fb cc : Nat) (p : Int) (os' : List (List S41)) (ok : Nat → Prop) (hok : ∀ k, ok k → k < w.heap.size) (g m cap : Nat) (pt D0 D1 D2 : Int) (hDD : D2 = 0 ∨ (D0 = 0 ∧ D1 = 0)) (hn : n0 ≤ w.heap.size)
    (hE : ∀ w, Calls Tryz.prog 32 #[.agg #[.int .i64 46, .int .i64 A]] w fun e w' => e = .returned (.tuple #[.int .i64 (m : Int), .int .i64 pt, .bool true]) ∧ Below w.heap.size w w')
    (hA : ∀ w, Calls Tryz.prog 33 #[.int .i64 46] w fun e w' => e = .returned (.bool true) ∧ w = w')
    (hD : ∀ W, Below w.heap.size w W → Calls Tryz.prog 34 #[.pointer (some ⟨pw, 0, none⟩), .agg #[.int .i64 46, .int .i64 A], .slice (some ⟨g, 0, none⟩) m cap] W fun e w' => e = .returned (.agg #[.int .i64 D0, .int .i64 D1, .int .i64 D2, .bool false]) ∧ Ab n0 pw hp fb cc p os' ok W w') :
    Calls Tryz.prog 17 #[.pointer (some ⟨pw, 0, none⟩), .agg #[.int .i64 46, .int .i64 A], .slice (some ⟨g, 0, none⟩) m cap] w fun e w' => e = .returned (.tuple #[.agg #[.int .i64 D0, .int .i64 D1], .int .i64 D2, .bool true]) ∧ Ab n0 pw hp fb cc p os' ok w w' := by
  have HOK := Aside0.mk hok
  have HE := Aside0.mk hE
  have HA := Aside0.mk hA
  have HD := Aside0.mk hD
  have HL := Aside0.mk hn
  clear hE hA hD hn hok
  go_enter Tryz.func17, Tryz.ntmps17
  go_wp2_with fail
  refine (HE.out _).mono ?_
  rintro e w1 ⟨rfl, hb⟩
  obtain ⟨hc1, hf1⟩ := bcell hb
  have hz : w.heap.size + 1 < w1.heap.size := by have := hb.size; simp at this; omega
  have HG1 := Aside0.mk ((hb.block _ (by simp)).trans (heap_alloc2_new w (.cells #[.int .i64 46, .int .i64 A] 54) (.cells #[.int .i64 0, .int .i64 0] 41)))
  have HB1 := Aside0.mk ((((below_alloc1 w (.cells #[.int .i64 46, .int .i64 A] 54)).alloc (by simp) (.cells #[.int .i64 0, .int .i64 0] 41))).trans (hb.mono (by simp; omega)))
  clear hb
  go_wp2_with fail
  refine (HA.out _).mono ?_
  rintro e w2 ⟨rfl, rfl⟩
  have hmm : ((m : Int) != (m : Int)) = false := by simp
  go_wp2_with fail
  refine (HD.out w1 HB1.out).mono ?_
  rintro e w3 ⟨rfl, ha⟩
  have HA3 := Aside0.mk (fun o => ha.below (below_alloc1 w3 o))
  have HZ3 := Aside0.mk (Nat.lt_of_lt_of_le hz ha.2.lo.size)
  clear ha hc1 hf1
  have HG4 := Aside0.mk (fun o => (HA3.out o).2.ty _ _ _ HG1.out (by decide) (by decide))
  by_cases h0 : D2 = 0
  · subst h0
    go_wp2_with (with_reducible refine wpList_store_row rfl 41 _ _ rfl (w.heap.size + 1) #[.int .i64 D0, .int .i64 D1] rfl rfl 41 _ (HG4.out _) (by kernel_rfl) (by kernel_rfl) (by kernel_rfl) ?_)
    exact bodyPost_ret (results_ctt rfl _ _ (w.heap.size + 1) 41 _ (0, 0) _ rfl (setRow_heap _ _ _ _ _ _ (HG4.out _)) Tryz.underlying41 rfl (by kernel_rfl)) rfl ⟨rfl, (HA3.out _).only (Kp.setRow _ _ _) HB1.out (HG4.out _) (by omega) HL.out (by decide) (by decide) (by decide) (by decide) (by decide) (.inr fun k hk => hk.elim (fun h => by have := HOK.out k h; omega) (fun h => by omega)) (fun _ h => h)⟩
  · obtain ⟨rfl, rfl⟩ := hDD.resolve_left h0
    have hD2 : (D2 != 0) = true := by simpa using h0
    go_upto_region 6 with (fail)
    obtain ⟨O, hO⟩ : ∃ O, O = Obj.cells #[.int .i64 0, .int .i64 0, .int .i64 D2, .bool false] 90 := ⟨_, rfl⟩
    rw [← hO]
    have HA4 := Aside0.mk (HA3.out O)
    have HG5 := Aside0.mk (HG4.out O)
    obtain ⟨W, hW⟩ : ∃ W, W = w3.alloc O := ⟨_, rfl⟩
    rw [← hW] at HA4 HG5
    rw [← hW]
    have hc : ∀ j, W.cell? ⟨w3.heap.size, j, none⟩ = #[Value.int .i64 0, .int .i64 0, .int .i64 D2, .bool false][j]? := by
      intro j
      rw [cell_of_row W _ j #[.int .i64 0, .int .i64 0, .int .i64 D2, .bool false] 90 (0, 0) (by rw [hW, ← hO]; exact heap_alloc_last w3 O)]
    have c2 := hc 2
    have c3 := hc 3
    simp at c2 c3
    have g0 : W.cell? ⟨w.heap.size + 1, 0, none⟩ = some (.int .i64 0) := by rw [cell_of_row W _ 0 _ _ _ HG5.out]; rfl
    have g1 : W.cell? ⟨w.heap.size + 1, 1, none⟩ = some (.int .i64 0) := by rw [cell_of_row W _ 1 _ _ _ HG5.out]; rfl
    have f0 : W.frozen? ⟨w.heap.size + 1, 0, none⟩ = false := frozen_of_row W _ 0 _ _ HG5.out
    have f1 : W.frozen? ⟨w.heap.size + 1, 1, none⟩ = false := frozen_of_row W _ 1 _ _ HG5.out
    have hne : w3.heap.size ≠ w.heap.size + 1 := by have := HZ3.out; omega
    have hne2 : w.heap.size + 1 ≠ w3.heap.size := fun h => hne h.symm
    clear hc hO hW
    go_region
    all_goals
      go_wp2_with fail
      exact bodyPost_ret (results_ctt rfl _ _ (w.heap.size + 1) 41 _ (0, 0) _ rfl (show World.drew _ |>.heap[w.heap.size + 1]? = _ from two_cells _ _ HG5.out) Tryz.underlying41 rfl (by kernel_rfl)) rfl ⟨rfl, (HA4.out.only (((Kp.refl W (fun k => k = w.heap.size + 1)).setCell (p := ⟨w.heap.size + 1, 0, none⟩) (.inl rfl) _).setCell (p := ⟨w.heap.size + 1, 1, none⟩) (.inl rfl) _) HB1.out HG5.out (by omega) HL.out (by decide) (by decide) (by decide) (by decide) (by decide) (.inr fun k hk => hk.elim (fun h => by have := HOK.out k h; omega) (fun h => by omega)) (fun _ h => h)).below (below_drew (Below.refl _ _))⟩
end Go.Proofs.YtkeneiahhmbojaaGreatDoor
