/-
  Stable sorting, told of lists: rising lists, and lists whose alike elements stand in the same order.
  Conditions: none; no program in sight.
-/
import Derived.Test.YtigcdbeaachkoaaWWords
namespace Go.Proofs.Ytigcdbeaachkoaa
namespace Stable
variable {α : Type}
structure SW (lt : α → α → Bool) : Prop where
  irr : ∀ a, lt a a = false
  asy : ∀ a b, lt a b = true → lt b a = false
  neg : ∀ a b c, lt a b = false → lt b c = false → lt a c = false
variable {lt : α → α → Bool}
def eqv (lt : α → α → Bool) (a b : α) : Bool := !lt a b && !lt b a
def Srt (lt : α → α → Bool) (l : List α) : Prop := l.Pairwise fun a b => lt b a = false
def Same (lt : α → α → Bool) (l l' : List α) : Prop := l'.length = l.length ∧ ∀ a, l'.filter (eqv lt a) = l.filter (eqv lt a)
theorem Same.refl (l : List α) : Same lt l l := ⟨rfl, fun _ => rfl⟩
theorem Same.trans {a b c : List α} (h1 : Same lt a b) (h2 : Same lt b c) : Same lt a c := ⟨h2.1.trans h1.1, fun x => (h2.2 x).trans (h1.2 x)⟩
theorem Same.app {a a' b b' : List α} (h1 : Same lt a a') (h2 : Same lt b b') : Same lt (a ++ b) (a' ++ b') :=
  ⟨by rw [List.length_append, List.length_append, h1.1, h2.1], fun x => by rw [List.filter_append, List.filter_append, h1.2, h2.2]⟩
/-- What lies strictly below may change places with what lies above. -/
theorem Same.swap (S : SW lt) {x y : List α} (h : ∀ a ∈ x, ∀ b ∈ y, lt b a = true) : Same lt (x ++ y) (y ++ x) := by
  refine ⟨by rw [List.length_append, List.length_append]; omega, fun c => ?_⟩
  rw [List.filter_append, List.filter_append]
  by_cases hx : x.filter (eqv lt c) = []
  · rw [hx]; simp
  · by_cases hy : y.filter (eqv lt c) = []
    · rw [hy]; simp
    · obtain ⟨a, ha⟩ := List.exists_mem_of_ne_nil _ hx
      obtain ⟨b, hb⟩ := List.exists_mem_of_ne_nil _ hy
      obtain ⟨ha1, ha2⟩ := List.mem_filter.1 ha
      obtain ⟨hb1, hb2⟩ := List.mem_filter.1 hb
      simp only [eqv, Bool.and_eq_true, Bool.not_eq_true'] at ha2 hb2
      have := S.neg b c a hb2.2 ha2.1
      rw [h a ha1 b hb1] at this
      cases this
theorem Srt.app {x y : List α} (hx : Srt lt x) (hy : Srt lt y) (h : ∀ a ∈ x, ∀ b ∈ y, lt b a = false) : Srt lt (x ++ y) := List.pairwise_append.2 ⟨hx, hy, h⟩
theorem Srt.left {x y : List α} (h : Srt lt (x ++ y)) : Srt lt x := (List.pairwise_append.1 h).1
theorem Srt.right {x y : List α} (h : Srt lt (x ++ y)) : Srt lt y := (List.pairwise_append.1 h).2.1
theorem Srt.cross {x y : List α} (h : Srt lt (x ++ y)) : ∀ a ∈ x, ∀ b ∈ y, lt b a = false := (List.pairwise_append.1 h).2.2
theorem mem_of_same {l l' : List α} (S : SW lt) (h : Same lt l l') {a : α} (ha : a ∈ l') : a ∈ l := by
  have : a ∈ l'.filter (eqv lt a) := List.mem_filter.2 ⟨ha, by simp [eqv, S.irr]⟩
  rw [h.2] at this
  exact (List.mem_filter.1 this).1
theorem Same.symm {l l' : List α} (h : Same lt l l') : Same lt l' l := ⟨h.1.symm, fun x => (h.2 x).symm⟩
/-- There is but one. -/
theorem unique (S : SW lt) : ∀ (l l' : List α), Srt lt l → Srt lt l' → Same lt l l' → l = l'
  | [], [], _, _, _ => rfl
  | [], b :: t', _, _, h => by have := h.1; simp at this
  | a :: t, [], _, _, h => by have := h.1; simp at this
  | a :: t, b :: t', h1, h2, h => by
    have ha : a ∈ b :: t' := mem_of_same S h.symm (List.mem_cons_self ..)
    have hb : b ∈ a :: t := mem_of_same S h (List.mem_cons_self ..)
    have e1 : lt b a = false := by
      rcases List.mem_cons.1 hb with e | e
      · rw [e]; exact S.irr a
      · exact (List.pairwise_cons.1 h1).1 b e
    have e2 : lt a b = false := by
      rcases List.mem_cons.1 ha with e | e
      · rw [e]; exact S.irr b
      · exact (List.pairwise_cons.1 h2).1 a e
    have hf := h.2 a
    rw [List.filter_cons_of_pos (by simp [eqv, e1, e2]), List.filter_cons_of_pos (by simp [eqv, S.irr])] at hf
    obtain ⟨hab, _⟩ := List.cons.inj hf
    subst hab
    have ht : Same lt t t' := ⟨by have := h.1; simpa using this, fun c => by
      have := h.2 c
      by_cases hc : eqv lt c b = true
      · rw [List.filter_cons_of_pos hc, List.filter_cons_of_pos hc] at this
        exact (List.cons.inj this).2
      · rw [List.filter_cons_of_neg hc, List.filter_cons_of_neg hc] at this
        exact this⟩
    rw [unique S t t' (List.pairwise_cons.1 h1).2 (List.pairwise_cons.1 h2).2 ht]
/-- An element behind a rising row, put where it belongs. -/
theorem insert_ok (S : SW lt) {x1 x2 : List α} {e : α} (h : Srt lt (x1 ++ x2)) (h1 : ∀ a ∈ x1, lt e a = false) (h2 : ∀ a ∈ x2, lt e a = true) : Srt lt (x1 ++ e :: x2) ∧ Same lt (x1 ++ x2 ++ [e]) (x1 ++ e :: x2) := by
  refine ⟨Srt.app h.left (List.pairwise_cons.2 ⟨fun a ha => S.asy _ _ (h2 a ha), h.right⟩) ?_, ?_⟩
  · intro a ha b hb
    rcases List.mem_cons.1 hb with e' | e'
    · rw [e']; exact h1 a ha
    · exact h.cross a ha b e'
  · have := Same.swap S (x := x2) (y := [e]) (fun a ha b hb => by rw [List.mem_singleton.1 hb]; exact h2 a ha)
    have := (Same.refl (lt := lt) x1).app this
    simpa [List.append_assoc] using this
/-- An element ahead of a rising row, put where it belongs. -/
theorem insert_front (S : SW lt) {y1 y2 : List α} {e : α} (h : Srt lt (y1 ++ y2)) (h1 : ∀ a ∈ y1, lt a e = true) (h2 : ∀ a ∈ y2, lt a e = false) : Srt lt (y1 ++ e :: y2) ∧ Same lt (e :: (y1 ++ y2)) (y1 ++ e :: y2) := by
  refine ⟨Srt.app h.left (List.pairwise_cons.2 ⟨fun a ha => h2 a ha, h.right⟩) ?_, ?_⟩
  · intro a ha b hb
    rcases List.mem_cons.1 hb with e' | e'
    · rw [e']; exact S.asy _ _ (h1 a ha)
    · exact h.cross a ha b e'
  · have := Same.swap S (x := [e]) (y := y1) (fun a ha b hb => by rw [List.mem_singleton.1 ha]; exact h1 b hb)
    have := this.app (Same.refl (lt := lt) y2)
    simpa [List.append_assoc] using this
/-- Two rising rows, cut so that the second part of the first lies above the first part of the second. -/
theorem merge_ok (S : SW lt) {x1 x2 y1 y2 z1 z2 : List α} (hx : Srt lt (x1 ++ x2)) (hy : Srt lt (y1 ++ y2)) (h1 : ∀ a ∈ x2, ∀ b ∈ y1, lt b a = true) (h2 : ∀ a ∈ x1, ∀ b ∈ y2, lt b a = false)
    (hz1 : Srt lt z1) (hs1 : Same lt (x1 ++ y1) z1) (hz2 : Srt lt z2) (hs2 : Same lt (x2 ++ y2) z2) : Srt lt (z1 ++ z2) ∧ Same lt (x1 ++ x2 ++ (y1 ++ y2)) (z1 ++ z2) := by
  refine ⟨hz1.app hz2 fun a ha b hb => ?_, ?_⟩
  · rcases List.mem_append.1 (mem_of_same S hs1 ha) with ha | ha <;> rcases List.mem_append.1 (mem_of_same S hs2 hb) with hb | hb
    · exact hx.cross a ha b hb
    · exact h2 a ha b hb
    · exact S.asy _ _ (h1 b hb a ha)
    · exact hy.cross a ha b hb
  · have h3 : Same lt (x1 ++ x2 ++ (y1 ++ y2)) (x1 ++ (y1 ++ x2) ++ y2) := by
      have := ((Same.refl (lt := lt) x1).app (Same.swap S h1)).app (Same.refl (lt := lt) y2)
      simpa [List.append_assoc] using this
    have h4 : Same lt (x1 ++ (y1 ++ x2) ++ y2) (z1 ++ z2) := by
      have := hs1.app hs2
      simpa [List.append_assoc] using this
    exact h3.trans h4
end Stable
/-! ### Places in lists -/
section
variable {α : Type}
theorem getD_at (A : List α) (a : α) (B : List α) (z : α) {i : Nat} (h : i = A.length) : (A ++ a :: B).getD i z = a := by
  subst h
  simp [List.getD_eq_getElem?_getD]
theorem set_at (A : List α) (a b : α) (B : List α) {i : Nat} (h : i = A.length) : (A ++ a :: B).set i b = A ++ b :: B := by
  subst h
  rw [List.set_append_right _ _ (Nat.le_refl _), Nat.sub_self]
  rfl
/-- Two elements change places. -/
theorem set_two (A B C : List α) (a b : α) {i j : Nat} (hi : i = A.length) (hj : j = A.length + 1 + B.length) : ((A ++ a :: (B ++ b :: C)).set i b).set j a = A ++ b :: (B ++ a :: C) := by
  rw [set_at A a b _ hi]
  have e : A ++ b :: (B ++ b :: C) = (A ++ b :: B) ++ b :: C := by simp
  rw [e, set_at (A ++ b :: B) b a C (by rw [hj, List.length_append, List.length_cons]; omega)]
  simp
end
end Go.Proofs.Ytigcdbeaachkoaa
