/-
  The law's function AsmQuotes.
-/
import Derived.Test.YtppmlphmjmpcgaaRefUnq
namespace Go.Proofs.Ytppmlphmjmpcgaa
set_option linter.unusedVariables false
open Go.RowKit
open Go.Proofs.YtppmlphmjmpcgaaW.PrintWords Go.Proofs.YtppmlphmjmpcgaaW.PrintMore

theorem unquote_str (s : ByteArray) (w : World) (hs : s.size ≤ 140737488351232) : Calls Try.prog 6 #[.string s] w (UnqPost s.data.toList w) := by
  have h := unquote_any s.data.toList w (by have : s.data.toList.length = s.size := by simp
                                            omega)
  rw [ofL_self] at h
  exact h
set_option maxRecDepth 100000 in
set_option maxHeartbeats 4000000 in
theorem quotes_holds (s : ByteArray) (w : World) (hs : s.size ≤ 1048576) :
    Calls Try.prog 3 #[.string s] w fun e w' => e = .returned (.bool true) ∧ Below w.heap.size w w' := by
  have HS := Aside0.mk hs
  clear hs
  go_enter Try.func3, Try.ntmps3
  go_wp2_with fail
  refine (ref_unquote s _ (by have := HS.out; omega)).mono ?_
  rintro e w1 ⟨rfl, hb1⟩
  have HB1 := Aside0.mk hb1
  clear hb1
  go_wp2_with fail
  refine (unquote_str s _ (by have := HS.out; omega)).mono ?_
  rintro e w2 ⟨rfl, hb2⟩
  have HB2 := Aside0.mk (HB1.out.trans (hb2.mono HB1.out.size))
  clear hb2 HB1
  obtain ⟨r, hr⟩ : ∃ r, r = ofL ((unq s.data.toList).getD []) := ⟨_, rfl⟩
  obtain ⟨b, hb⟩ : ∃ b, b = (unq s.data.toList).isSome := ⟨_, rfl⟩
  rw [← hr, ← hb]
  clear hr hb
  have r1 : (r.toList != r.toList) = false := by simp
  have b1 : (b != b) = false := by simp
  go_wp2_with fail
  refine (quote_any s _ HS.out).mono ?_
  rintro e w3 ⟨rfl, hb3⟩
  have HB3 := Aside0.mk (HB2.out.trans (hb3.mono HB2.out.size))
  clear hb3 HB2
  rw [show (⟨(quoteL s.data.toList).toArray⟩ : ByteArray) = ofL (quoteL s.data.toList) from rfl]
  go_wp2_with fail
  refine (ref_quote s _ HS.out).mono ?_
  rintro e w4 ⟨rfl, hb4⟩
  have HB4 := Aside0.mk (HB3.out.trans (hb4.mono HB3.out.size))
  clear hb4 HB3
  obtain ⟨q, hq⟩ : ∃ q, q = ofL (quoteL s.data.toList) := ⟨_, rfl⟩
  rw [← hq]
  clear hq
  have q1 : (q.toList != q.toList) = false := by simp
  have c1 := eq_false (show ¬ 9223372036854775807 < 1 + s.size by have := HS.out; omega)
  have c2 := eq_false (show ¬ 9223372036854775807 < 1 + s.size + 1 by have := HS.out; omega)
  obtain ⟨t, ht⟩ : ∃ t : ByteArray, t = { data := #[34] } ++ s ++ { data := #[34] } := ⟨_, rfl⟩
  have HT := Aside0.mk (show t.size ≤ 140737488351232 by
    rw [ht, ByteArray.size_append, ByteArray.size_append]
    have := HS.out
    simp only [ByteArray.size, List.size_toArray, List.length_cons, List.length_nil] at *
    omega)
  have HTT := Aside0.mk ht
  clear ht
  go_wp2_with fail
  rw [← HTT.out]
  refine (ref_unquote t _ HT.out).mono ?_
  rintro e w5 ⟨rfl, hb5⟩
  have HB5 := Aside0.mk (HB4.out.trans (hb5.mono HB4.out.size))
  clear hb5 HB4
  go_wp2_with fail
  refine (unquote_str t _ HT.out).mono ?_
  rintro e w6 ⟨rfl, hb6⟩
  have HB6 := Aside0.mk (HB5.out.trans (hb6.mono HB5.out.size))
  clear hb6 HB5
  obtain ⟨r', hr'⟩ : ∃ r, r = ofL ((unq t.data.toList).getD []) := ⟨_, rfl⟩
  obtain ⟨b', hb'⟩ : ∃ b, b = (unq t.data.toList).isSome := ⟨_, rfl⟩
  rw [← hr', ← hb']
  clear hr' hb'
  have r2 : (r'.toList == r'.toList) = true := by simp
  have b2 : (b' == b') = true := by simp
  go_wp2_with fail
  go_ret
  exact ⟨by first | rfl | simp, HB6.out⟩
end Go.Proofs.Ytppmlphmjmpcgaa
