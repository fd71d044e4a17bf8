/-
  Four indexes: at the start; what the law asks of them.
-/
import Derived.Test.YtijmhegccakndaaKtF
namespace Go.Proofs.Ytijmhegccakndaa
open Go.RowKit Go.Maps Go.WideMaps
open Go.Proofs.YtijmhegccakndaaW.PrintWords Go.Proofs.YtijmhegccakndaaW.PrintMore
variable {K : KT}

theorem made_K (K : KT) (w : World) (st : TypeId) (hst : K.st = st) : IxK K ((w.alloc (.map #[] 0)).alloc (.cells #[.map (some w.heap.size), .slice none 0 0] st)) (w.heap.size + 1) w.heap.size (.slice none 0 0) (.map []) [] := by
  subst hst
  refine ⟨?_, ?_, AgreeK.empty, ?_⟩
  · have := heap_alloc_new (w.alloc (.map #[] 0)) (.cells #[.map (some w.heap.size), .slice none 0 0] K.st)
    rw [show (w.alloc (.map #[] 0)).heap.size = w.heap.size + 1 by simp] at this
    exact this
  · exact (World.ownsMap_made _ _ _ _).alloc _
  · exact ⟨by simp [KT.row], .inl ⟨rfl, rfl⟩⟩
def NewK (K : KT) (w : World) (e : Ending) (w' : World) : Prop := ∃ b, e = .returned (.pointer (some ⟨b, 0, none⟩)) ∧ AtSK K w' (fun k => w.heap.size ≤ k ∧ k < w'.heap.size) b [] ∧ Below w.heap.size w w'
theorem newK_of (K : KT) (w w' : World) (st : TypeId) (hst : K.st = st) {e : Ending} (he : e = .returned (.pointer (some ⟨w.heap.size + 1, 0, none⟩))) (hw : (w.alloc (.map #[] 0)).alloc (.cells #[.map (some w.heap.size), .slice none 0 0] st) = w') : NewK K w e w' := by
  subst hw
  refine ⟨_, he, ⟨_, _, _, made_K K w st hst, fun k hk => ?_⟩, ((Below.refl _ _).alloc (Nat.le_refl _) _).alloc (by simp) _⟩
  have : ((w.alloc (.map #[] 0)).alloc (.cells #[.map (some w.heap.size), .slice none 0 0] st)).heap.size = w.heap.size + 2 := by simp
  rcases hk with rfl | rfl | hk
  · omega
  · omega
  · simp [Value.ownBlock] at hk
theorem newN_S (w : World) : Calls Try.prog 10 #[] w (NewK KTs w) := (new_S w).mono fun _ w' ⟨he, hw⟩ => newK_of KTs w w' 96 rfl he hw
theorem newN_P (w : World) : Calls Try.prog 20 #[] w (NewK KTp w) := (new_P w).mono fun _ w' ⟨he, hw⟩ => newK_of KTp w w' 101 rfl he hw
theorem newN_B (w : World) : Calls Try.prog 21 #[] w (NewK KTb w) := (new_B w).mono fun _ w' ⟨he, hw⟩ => newK_of KTb w w' 105 rfl he hw
theorem newN_A (w : World) : Calls Try.prog 22 #[] w (NewK KTa w) := (new_A w).mono fun _ w' ⟨he, hw⟩ => newK_of KTa w w' 109 rfl he hw
theorem Four.start {w w1 w2 w3 w4 : World} {a b c d : Nat}
    (h1 : AtSK KTs w1 (fun k => w.heap.size ≤ k ∧ k < w1.heap.size) a []) (b1 : Below w.heap.size w w1)
    (h2 : AtSK KTp w2 (fun k => w1.heap.size ≤ k ∧ k < w2.heap.size) b []) (b2 : Below w1.heap.size w1 w2)
    (h3 : AtSK KTb w3 (fun k => w2.heap.size ≤ k ∧ k < w3.heap.size) c []) (b3 : Below w2.heap.size w2 w3)
    (h4 : AtSK KTa w4 (fun k => w3.heap.size ≤ k ∧ k < w4.heap.size) d []) (b4 : Below w3.heap.size w3 w4) :
    Four w4 w.heap.size (fun _ => False) a b c d [] [] [] [] ∧ Below w.heap.size w w4 := by
  have s1 := b1.size
  have s2 := b2.size
  have s3 := b3.size
  have s4 := b4.size
  refine ⟨⟨_, _, _, _, ((h1.below b2).below b3).below b4, (h2.below b3).below b4, h3.below b4, h4, ?_, ?_, ?_, ?_⟩, ((b1.trans (b2.mono s1)).trans (b3.mono (by omega))).trans (b4.mono (by omega))⟩
  · rintro k (hk | hk | hk | hk) <;> (obtain ⟨p, q⟩ := hk; exact ⟨by omega, by omega, fun h => h⟩)
  · rintro k ⟨p, q⟩
    refine ⟨?_, ?_, ?_⟩ <;> (rintro ⟨x, y⟩; omega)
  · rintro k ⟨p, q⟩
    refine ⟨?_, ?_⟩ <;> (rintro ⟨x, y⟩; omega)
  · rintro k ⟨p, q⟩ ⟨x, y⟩
    omega

/-- At of places -/
def PlAt (row : List Nat) (i : Nat) (e : Ending) : Prop := (∃ t, row[i]? = some t ∧ e = .returned (.tuple #[KTp.val t, .bool true])) ∨ (row.length ≤ i ∧ e = .returned (.tuple #[.agg #[.int .i64 0, .int .i64 0], .bool false]))
theorem Four.find_a {w : World} {B : Nat} {F : Nat → Prop} {a b c d t : Nat} {ra rb rc rd : List Nat} (h : Four w B F a b c d ra rb rc rd) (ht : t < 4) :
    Calls Try.prog 15 #[.pointer (some ⟨a, 0, none⟩), KTs.val t] w fun e w' => e = .returned (.tuple #[.int .i64 (fiN ra t : Int), .bool (decide (t ∈ ra))]) ∧ Below w.heap.size w w' := by
  obtain ⟨Sa, Sb, Sc, Sd, h1, h2, h3, h4, _⟩ := h
  exact findS_S w Sa a ra t h1 ht
theorem Four.find_b {w : World} {B : Nat} {F : Nat → Prop} {a b c d t : Nat} {ra rb rc rd : List Nat} (h : Four w B F a b c d ra rb rc rd) (ht : t < 4) :
    Calls Try.prog 28 #[.pointer (some ⟨b, 0, none⟩), KTp.val t] w fun e w' => e = .returned (.tuple #[.int .i64 (fiN rb t : Int), .bool (decide (t ∈ rb))]) ∧ Below w.heap.size w w' := by
  obtain ⟨Sa, Sb, Sc, Sd, h1, h2, h3, h4, _⟩ := h
  exact findS_P w Sb b rb t h2 ht
theorem Four.find_c {w : World} {B : Nat} {F : Nat → Prop} {a b c d t : Nat} {ra rb rc rd : List Nat} (h : Four w B F a b c d ra rb rc rd) (ht : t < 4) :
    Calls Try.prog 29 #[.pointer (some ⟨c, 0, none⟩), KTb.val t] w fun e w' => e = .returned (.tuple #[.int .i64 (fiN rc t : Int), .bool (decide (t ∈ rc))]) ∧ Below w.heap.size w w' := by
  obtain ⟨Sa, Sb, Sc, Sd, h1, h2, h3, h4, _⟩ := h
  exact findS_B w Sc c rc t h3 ht
theorem Four.find_d {w : World} {B : Nat} {F : Nat → Prop} {a b c d t : Nat} {ra rb rc rd : List Nat} (h : Four w B F a b c d ra rb rc rd) (ht : t < 4) :
    Calls Try.prog 30 #[.pointer (some ⟨d, 0, none⟩), KTa.val t] w fun e w' => e = .returned (.tuple #[.int .i64 (fiN rd t : Int), .bool (decide (t ∈ rd))]) ∧ Below w.heap.size w w' := by
  obtain ⟨Sa, Sb, Sc, Sd, h1, h2, h3, h4, _⟩ := h
  exact findS_A w Sd d rd t h4 ht
theorem Four.len_a {w : World} {B : Nat} {F : Nat → Prop} {a b c d : Nat} {ra rb rc rd : List Nat} (h : Four w B F a b c d ra rb rc rd) :
    Calls Try.prog 14 #[.pointer (some ⟨a, 0, none⟩)] w fun e w' => e = .returned (.int .i64 (ra.length : Int)) ∧ w = w' := by
  obtain ⟨Sa, Sb, Sc, Sd, h1, h2, h3, h4, _⟩ := h
  exact lenS_S w Sa a ra h1
theorem Four.len_b {w : World} {B : Nat} {F : Nat → Prop} {a b c d : Nat} {ra rb rc rd : List Nat} (h : Four w B F a b c d ra rb rc rd) :
    Calls Try.prog 35 #[.pointer (some ⟨b, 0, none⟩)] w fun e w' => e = .returned (.int .i64 (rb.length : Int)) ∧ w = w' := by
  obtain ⟨Sa, Sb, Sc, Sd, h1, h2, h3, h4, _⟩ := h
  exact lenS_P w Sb b rb h2
theorem Four.len_c {w : World} {B : Nat} {F : Nat → Prop} {a b c d : Nat} {ra rb rc rd : List Nat} (h : Four w B F a b c d ra rb rc rd) :
    Calls Try.prog 36 #[.pointer (some ⟨c, 0, none⟩)] w fun e w' => e = .returned (.int .i64 (rc.length : Int)) ∧ w = w' := by
  obtain ⟨Sa, Sb, Sc, Sd, h1, h2, h3, h4, _⟩ := h
  exact lenS_B w Sc c rc h3
theorem Four.len_d {w : World} {B : Nat} {F : Nat → Prop} {a b c d : Nat} {ra rb rc rd : List Nat} (h : Four w B F a b c d ra rb rc rd) :
    Calls Try.prog 37 #[.pointer (some ⟨d, 0, none⟩)] w fun e w' => e = .returned (.int .i64 (rd.length : Int)) ∧ w = w' := by
  obtain ⟨Sa, Sb, Sc, Sd, h1, h2, h3, h4, _⟩ := h
  exact lenS_A w Sd d rd h4
theorem Four.at_yes {w : World} {B : Nat} {F : Nat → Prop} {a b c d t i : Nat} {ra rb rc rd : List Nat} (h : Four w B F a b c d ra rb rc rd) (hi : rb[i]? = some t) :
    Calls Try.prog 31 #[.pointer (some ⟨b, 0, none⟩), .int .i64 (i : Int)] w fun e w' => e = .returned (.tuple #[KTp.val t, .bool true]) ∧ Below w.heap.size w w' := by
  obtain ⟨Sa, Sb, Sc, Sd, h1, ⟨bm, v, D, hI, _⟩, h3, h4, _⟩ := h
  exact at_yes_P w b bm v D rb t i hI hi
theorem Four.at_no {w : World} {B : Nat} {F : Nat → Prop} {a b c d i : Nat} {ra rb rc rd : List Nat} (h : Four w B F a b c d ra rb rc rd) (hi : rb.length ≤ i) (hi2 : i ≤ 9223372036854775807) :
    Calls Try.prog 31 #[.pointer (some ⟨b, 0, none⟩), .int .i64 (i : Int)] w fun e w' => e = .returned (.tuple #[.agg #[.int .i64 0, .int .i64 0], .bool false]) ∧ Below w.heap.size w w' := by
  obtain ⟨Sa, Sb, Sc, Sd, h1, ⟨bm, v, D, hI, _⟩, h3, h4, _⟩ := h
  exact at_no_P w b bm v D rb i hI hi hi2
theorem addN_small {row : List Nat} {t : Nat} (h : ∀ x, x ∈ row → x < 4) (ht : t < 4) : ∀ x, x ∈ addN row t → x < 4 := by
  intro x hx
  unfold addN at hx
  split at hx
  · exact h x hx
  · rcases List.mem_append.1 hx with hx | hx
    · exact h x hx
    · simp at hx; omega
end Go.Proofs.Ytijmhegccakndaa
