/-
  The index's From.
-/
import Derived.Test.YtijmhegccakndaaTwo
namespace Go.Proofs.Ytijmhegccakndaa
open Go.RowKit Go.Maps Go.WideMaps
open Go.Proofs.YtijmhegccakndaaW.PrintWords Go.Proofs.YtijmhegccakndaaW.PrintMore

theorem rowOf_nodup {l : List ByteArray} (h : l.Nodup) : rowOf l = l := by
  have : ∀ k, k ≤ l.length → rowOf (l.take k) = l.take k := by
    intro k
    induction k with
    | zero => intro _; simp [rowOf]
    | succ k ih =>
      intro hk
      obtain ⟨t, ht⟩ : ∃ t, l[k]? = some t := ⟨_, List.getElem?_eq_getElem (by omega)⟩
      rw [rowOf_take_succ ht, ih (by omega), take_snoc ht]
      unfold rowAdd
      rw [if_neg]
      refine not_mem_take (fun j hj e => ?_)
      have h1 := idxOf_unique h e
      have h2 := idxOf_unique h ht
      omega
  have h2 := this l.length (Nat.le_refl _)
  rwa [List.take_length] at h2

/-- what From answers: an index of these things, or none -/
def IsFrom (w : World) (l : List ByteArray) (e : Ending) (w' : World) : Prop :=
  (l.Nodup ∧ ∃ b, e = .returned (.tuple #[.pointer (some ⟨b, 0, none⟩), .bool true]) ∧ At w' w.heap.size b l ∧ Below w.heap.size w w') ∨
  (¬ l.Nodup ∧ e = .returned (.tuple #[.pointer none, .bool false]) ∧ Below w.heap.size w w')

set_option maxRecDepth 100000 in
theorem from_any (A : Option Addr) (c : Nat) (l : List ByteArray) (w : World) (HR : Kd.string.C w A l.length l) (hs : ∀ t, t ∈ l → t.size ≤ maxLen) (hn : l.length * 16 ≤ 140737488355328) :
    Calls Try.prog 18 #[.slice A l.length c] w (IsFrom w l) := by
  have HR0 := Aside0.mk HR
  have HN := Aside0.mk hn
  have HS := Aside0.mk hs
  have hm : l.length ≤ 8796093022208 := by omega
  clear HR hn hs
  go_enter Try.func18, Try.ntmps18
  go_wp2_with fail
  refine (new_at w).mono ?_
  rintro e w1 ⟨b, rfl, hat1, hbel1⟩
  have HA1 := Aside0.mk hat1
  have HB1 := Aside0.mk hbel1
  clear hat1 hbel1
  go_wp2_with fail
  go_loopw [10, 5, 6] (fun i _ _ wr => ∃ k : Nat, i = .int .i64 (k : Int) ∧ k ≤ l.length ∧ Aside0 ((l.take k).Nodup) ∧ Aside0 (At wr w.heap.size b (l.take k)) ∧ Aside0 (Below w.heap.size w wr)) (fun i _ _ _ => l.length - (intOf i).toNat)
  case atStart => exact ⟨0, rfl, Nat.zero_le _, ⟨by simp⟩, ⟨by simpa using HA1.out⟩, HB1⟩
  case round =>
    obtain ⟨k, rfl, hk, HD, HA, HB⟩ := hrel
    by_cases hlt : k < l.length
    · obtain ⟨u, hu⟩ : ∃ u, l[k]? = some u := ⟨_, List.getElem?_eq_getElem hlt⟩
      have HRr := Aside0.mk (Kd.C_below HR0.out HB.out)
      obtain ⟨ad, e, hxu⟩ := cell_str HRr.out hu
      subst e
      have hl2 : (k : Int) < (l.length : Int) := by omega
      have HU := Aside0.mk hu
      have HLT := Aside0.mk (show (l.take k).length = k by rw [List.length_take]; omega)
      clear hu
      by_cases hin : u ∈ l.take k
      · have hpos : posOf (l.take k) u < k := by have := posOf_lt hin; rw [HLT.out] at this; exact this
        have hne : ((posOf (l.take k) u : Int) != (k : Int)) = true := by simp; omega
        have HIN := Aside0.mk hin
        clear hin
        go_wp2_with fail
        refine (add_at _ w.heap.size b (l.take k) u HA.out HB.out.size (HS.out u (List.mem_of_getElem? HU.out)) (by rw [HLT.out]; have := HN.out; omega)).mono ?_
        rintro e w3 ⟨rfl, hat3, hb3⟩
        have HB3 := Aside0.mk (show Below w.heap.size w w3 from HB.out.trans hb3)
        clear hat3 hb3
        go_wp2_with fail
        go_ret2
        refine .inr ⟨fun hnd => ?_, rfl, HB3.out⟩
        obtain ⟨j, hj⟩ := List.mem_iff_getElem?.1 HIN.out
        have hjl := (List.getElem?_eq_some_iff.1 hj).1
        rw [HLT.out] at hjl
        rw [List.getElem?_take_of_lt hjl] at hj
        have h1 := idxOf_unique hnd hj
        have h2 := idxOf_unique hnd HU.out
        omega
      · have HP := Aside0.mk (show (posOf (l.take k) u : Int) = (k : Int) by rw [idxOf_not_mem hin, HLT.out])
        have hne : ((k : Int) != (k : Int)) = false := by simp
        have HA' := Aside0.mk (show rowAdd (l.take k) u = l.take (k + 1) by unfold rowAdd; rw [if_neg hin, take_snoc HU.out])
        have HD' := Aside0.mk (show (l.take (k + 1)).Nodup by rw [← HA'.out]; exact nodup_rowAdd HD.out u)
        clear hin
        go_wp2_with fail
        refine (add_at _ w.heap.size b (l.take k) u HA.out HB.out.size (HS.out u (List.mem_of_getElem? HU.out)) (by rw [HLT.out]; have := HN.out; omega)).mono ?_
        rintro e w3 ⟨he, hat3, hb3⟩
        rw [HP.out] at he
        subst he
        have HA3 := Aside0.mk (show At w3 w.heap.size b (l.take (k + 1)) by rw [← HA'.out]; exact hat3)
        have HB3 := Aside0.mk (show Below w.heap.size w w3 from HB.out.trans hb3)
        clear hat3 hb3
        go_wp2_with fail
        go_roundw
        case rel => exact ⟨k + 1, by go_num, by omega, HD', HA3, HB3⟩
        case measure => simp [intOf]; omega
    · have hl2 : ¬ (k : Int) < (l.length : Int) := by omega
      have HK := Aside0.mk (show l.take k = l by rw [List.take_of_length_le (by omega)])
      go_wp2_with fail
      go_ret2
      exact .inl ⟨by have := HD.out; rwa [HK.out] at this, b, rfl, by have := HA.out; rwa [HK.out] at this, HB.out⟩
end Go.Proofs.Ytijmhegccakndaa
