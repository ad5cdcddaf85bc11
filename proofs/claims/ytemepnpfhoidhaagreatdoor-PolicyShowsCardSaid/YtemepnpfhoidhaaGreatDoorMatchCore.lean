/-
  Patterns: '?' stands for one rune, '*' for any: what a pattern matches, by its first rune; the greedy walk's states; the table's rows.
  Conditions: none.
-/
import Derived.WalkKit
namespace Go.Proofs.YtemepnpfhoidhaaGreatDoor
namespace MatchCore
set_option linter.unusedVariables false
set_option linter.unusedSimpArgs false
/-- Does it hold of some end of a list? -/
def anySuf (f : List Int → Bool) : List Int → Bool
  | [] => f []
  | d :: s => f (d :: s) || anySuf f s
/-- Does a pattern match? -/
def M : List Int → List Int → Bool
  | [], s => s.isEmpty
  | c :: p, s => if c = 42 then anySuf (M p) s else match s with
    | [] => false
    | d :: t => (decide (c = 63) || decide (c = d)) && M p t
theorem anySuf_iff (f : List Int → Bool) : ∀ s : List Int, anySuf f s = true ↔ ∃ j, j ≤ s.length ∧ f (s.drop j) = true
  | [] => by
    simp [anySuf]
  | d :: s => by
    rw [anySuf, Bool.or_eq_true, anySuf_iff f s]
    constructor
    · rintro (h | ⟨j, hj, h⟩)
      · exact ⟨0, by simp, h⟩
      · exact ⟨j + 1, by simpa using hj, h⟩
    · rintro ⟨j, hj, h⟩
      cases j with
      | zero => exact .inl h
      | succ j => exact .inr ⟨j, by simpa using hj, h⟩
theorem M_star (p s : List Int) : M (42 :: p) s = anySuf (M p) s := rfl
theorem M_star_iff (p s : List Int) : M (42 :: p) s = true ↔ ∃ j, j ≤ s.length ∧ M p (s.drop j) = true := by rw [M_star, anySuf_iff]
theorem M_plain_nil {c : Int} (p : List Int) (h : c ≠ 42) : M (c :: p) [] = false := by rw [M.eq_def]; exact if_neg h
theorem M_plain_cons {c : Int} (p : List Int) (d : Int) (t : List Int) (h : c ≠ 42) : M (c :: p) (d :: t) = ((decide (c = 63) || decide (c = d)) && M p t) := by rw [M.eq_def]; exact if_neg h
theorem M_nil (s : List Int) : M [] s = s.isEmpty := rfl
/-- What a star matches of an end, it matches of more. -/
theorem absorb (p s : List Int) {a b : Nat} (h : b ≤ a) (ha : a ≤ s.length) (hm : M (42 :: p) (s.drop a) = true) : M (42 :: p) (s.drop b) = true := by
  obtain ⟨j, hj, hm⟩ := (M_star_iff p _).1 hm
  refine (M_star_iff p _).2 ⟨a - b + j, by simp at hj ⊢; omega, ?_⟩
  rw [List.drop_drop] at hm ⊢
  rw [show b + (a - b + j) = a + j by omega]
  exact hm
/-- A piece without stars. -/
def Plain (q : List Int) : Prop := ∀ c ∈ q, c ≠ 42
/-- It stands at the front of a text. -/
def Fits : List Int → List Int → Prop
  | [], _ => True
  | c :: q, s => match s with
    | [] => False
    | d :: t => (c = 63 ∨ c = d) ∧ Fits q t
theorem plain_some : ∀ (q p s : List Int), Plain q → M (q ++ p) s = true → q.length ≤ s.length ∧ M p (s.drop q.length) = true
  | [], p, s, _, h => ⟨Nat.zero_le _, by simpa using h⟩
  | c :: q, p, [], hq, h => by
    rw [List.cons_append, M_plain_nil _ (hq c (by simp))] at h
    cases h
  | c :: q, p, d :: t, hq, h => by
    rw [List.cons_append, M_plain_cons _ _ _ (hq c (by simp)), Bool.and_eq_true] at h
    have := plain_some q p t (fun x hx => hq x (by simp [hx])) h.2
    exact ⟨by simpa using this.1, by simpa using this.2⟩
theorem fits_eq : ∀ (q p s : List Int), Plain q → Fits q s → M (q ++ p) s = M p (s.drop q.length)
  | [], p, s, _, _ => rfl
  | c :: q, p, [], _, h => h.elim
  | c :: q, p, d :: t, hq, h => by
    rw [List.cons_append, M_plain_cons _ _ _ (hq c (by simp)), fits_eq q p t (fun x hx => hq x (by simp [hx])) h.2, List.length_cons, List.drop_succ_cons]
    have : (decide (c = 63) || decide (c = d)) = true := by
      rw [Bool.or_eq_true, decide_eq_true_eq, decide_eq_true_eq]
      exact h.1
    rw [this, Bool.true_and]
theorem fits_snoc : ∀ (q s : List Int) (c d : Int), Fits q s → s[q.length]? = some d → (c = 63 ∨ c = d) → Fits (q ++ [c]) s
  | [], s, c, d, _, hs, h => by
    cases s with
    | nil => simp at hs
    | cons x t =>
      simp only [List.length_nil, List.getElem?_cons_zero, Option.some.injEq] at hs
      subst hs
      exact ⟨h, trivial⟩
  | b :: q, [], c, d, hf, _, _ => hf.elim
  | b :: q, x :: t, c, d, hf, hs, h => ⟨hf.1, fits_snoc q t c d hf.2 (by simpa using hs) h⟩
/-- Only stars. -/
def stars (p : List Int) : Bool := p.all (fun c => decide (c = 42))
theorem M_end : ∀ p : List Int, M p [] = stars p
  | [] => rfl
  | c :: p => by
    by_cases h : c = 42
    · subst h
      rw [M_star, anySuf, M_end p]
      simp [stars]
    · rw [M_plain_nil _ h]
      simp [stars, h]
/-! ### the greedy walk -/
/-- What is left to be shown, behind a last star or none. -/
inductive St (p s : List Int) : Int → Nat → Nat → Nat → Prop
  | none (i k : Nat) (hi : i ≤ p.length) (hk : k ≤ s.length) (h : M p s = M (p.drop i) (s.drop k)) : St p s (-1) 0 i k
  | some (st from_ i k : Nat) (q : List Int) (hi : i ≤ p.length) (hk : k ≤ s.length) (hst : i = st + 1 + q.length) (hf : k = from_ + q.length) (hd : p.drop st = 42 :: (q ++ p.drop i)) (hp : Plain q) (hfit : Fits q (s.drop from_))
      (h : M p s = M (p.drop st) (s.drop from_)) : St p s st from_ i k
theorem St.bounds {p s : List Int} {star : Int} {from_ i k : Nat} (h : St p s star from_ i k) : i ≤ p.length ∧ k ≤ s.length ∧ from_ ≤ k ∧ -1 ≤ star ∧ star < p.length := by
  cases h with
  | none i k hi hk h => exact ⟨hi, hk, Nat.zero_le _, by omega, by omega⟩
  | some st from_ i k q hi hk hst hf hd hp hfit h => exact ⟨hi, hk, by omega, by omega, by omega⟩
theorem drop_at {p : List Int} {i : Nat} {c : Int} (h : p[i]? = some c) : p.drop i = c :: p.drop (i + 1) := by
  obtain ⟨hl, e⟩ := List.getElem?_eq_some_iff.1 h
  rw [List.drop_eq_getElem_cons hl, e]
theorem St.star {p s : List Int} {star : Int} {from_ i k : Nat} (h : St p s star from_ i k) (hc : p[i]? = Option.some 42) : St p s i k (i + 1) k := by
  have hd := drop_at hc
  have hlt : i < p.length := (List.getElem?_eq_some_iff.1 hc).1
  have key : M p s = M (p.drop i) (s.drop k) := by
    cases h with
    | none i k hi hk h => exact h
    | some st from_ i k q hi hk hst hf hd2 hp hfit h =>
      rw [h, hd2, Bool.eq_iff_iff]
      have hfl : q.length ≤ (s.drop from_).length := by simp; omega
      constructor
      · intro hm
        obtain ⟨j, hj, hm⟩ := (M_star_iff _ _).1 hm
        have h2 := plain_some q _ _ hp hm
        rw [List.drop_drop] at h2
        rw [hd]
        refine absorb (p.drop (i + 1)) s (a := from_ + j + q.length) (by omega) (by have := h2.1; simp at this hj; omega) ?_
        rw [← hd]
        have := h2.2
        rw [List.drop_drop] at this
        exact this
      · intro hm
        refine (M_star_iff _ _).2 ⟨0, Nat.zero_le _, ?_⟩
        rw [List.drop_zero, fits_eq q _ _ hp hfit, List.drop_drop, ← hf]
        exact hm
  refine .some i k (i + 1) k [] (by omega) ?_ (by simp) (by simp) (by rw [List.nil_append]; exact hd) (fun c hc => by cases hc) trivial key
  cases h with
  | none i k hi hk h => exact hk
  | some st from_ i k q hi hk hst hf hd2 hp hfit h => exact hk
theorem St.next {p s : List Int} {star : Int} {from_ i k : Nat} {c d : Int} (h : St p s star from_ i k) (hc : p[i]? = Option.some c) (hs : s[k]? = Option.some d) (hn : c ≠ 42) (he : c = 63 ∨ c = d) : St p s star from_ (i + 1) (k + 1) := by
  have hlt : i < p.length := (List.getElem?_eq_some_iff.1 hc).1
  have hlk : k < s.length := (List.getElem?_eq_some_iff.1 hs).1
  cases h with
  | none i k hi hk h =>
    refine .none (i + 1) (k + 1) (by omega) (by omega) ?_
    rw [h, drop_at hc, drop_at hs, M_plain_cons _ _ _ hn]
    have : (decide (c = 63) || decide (c = d)) = true := by
      rw [Bool.or_eq_true, decide_eq_true_eq, decide_eq_true_eq]
      exact he
    rw [this, Bool.true_and]
  | some st from_ i k q hi hk hst hf hd2 hp hfit h =>
    refine .some st from_ (i + 1) (k + 1) (q ++ [c]) (by omega) (by omega) (by simp; omega) (by simp; omega) ?_ ?_ ?_ h
    · rw [hd2, drop_at hc]
      simp
    · intro x hx
      rcases List.mem_append.1 hx with hx | hx
      · exact hp x hx
      · simp only [List.mem_singleton] at hx
        subst hx
        exact hn
    · refine fits_snoc q _ c d hfit ?_ he
      rw [List.getElem?_drop, ← hf]
      exact hs
/-- What stands there does not match. -/
theorem stuck {p s : List Int} {i k : Nat} {d : Int} (hs : s[k]? = Option.some d) (hb : p.length ≤ i ∨ ∃ c, p[i]? = Option.some c ∧ c ≠ 42 ∧ c ≠ 63 ∧ c ≠ d) : M (p.drop i) (s.drop k) = false := by
  rw [drop_at hs]
  rcases hb with hb | ⟨c, hc, h1, h2, h3⟩
  · rw [List.drop_eq_nil_of_le hb, M_nil]
    rfl
  · rw [drop_at hc, M_plain_cons _ _ _ h1]
    simp [h2, h3]
theorem St.back {p s : List Int} {star : Int} {from_ i k : Nat} {d : Int} (h : St p s star from_ i k) (h0 : 0 ≤ star) (hs : s[k]? = Option.some d) (hb : p.length ≤ i ∨ ∃ c, p[i]? = Option.some c ∧ c ≠ 42 ∧ c ≠ 63 ∧ c ≠ d) :
    from_ + 1 ≤ s.length ∧ star.toNat + 1 ≤ p.length ∧ St p s star (from_ + 1) (star.toNat + 1) (from_ + 1) := by
  have hlk : k < s.length := (List.getElem?_eq_some_iff.1 hs).1
  have hst := stuck hs hb
  cases h with
  | none i k hi hk h => omega
  | some st from_ i k q hi hk hst2 hf hd2 hp hfit h =>
    refine ⟨by omega, by simp; omega, ?_⟩
    simp only [Int.toNat_natCast]
    have hd3 : p.drop (st + 1) = q ++ p.drop i := by
      rw [← List.drop_drop, hd2]
      rfl
    refine .some st (from_ + 1) (st + 1) (from_ + 1) [] (by omega) (by omega) (by simp) (by simp) (by rw [List.nil_append, hd2, hd3]) (fun c hc => by cases hc) trivial ?_
    rw [h]
    have hlf : from_ < s.length := by omega
    obtain ⟨x, hx⟩ : ∃ x, s[from_]? = Option.some x := ⟨s[from_], List.getElem?_eq_getElem hlf⟩
    rw [hd2, drop_at hx, M_star, M_star, anySuf]
    have : M (q ++ p.drop i) (x :: s.drop (from_ + 1)) = false := by
      rw [← drop_at hx, fits_eq q _ _ hp hfit, List.drop_drop, ← hf]
      exact hst
    rw [this, Bool.false_or]
theorem St.fails {p s : List Int} {star : Int} {from_ i k : Nat} {d : Int} (h : St p s star from_ i k) (h0 : star < 0) (hs : s[k]? = Option.some d) (hb : p.length ≤ i ∨ ∃ c, p[i]? = Option.some c ∧ c ≠ 42 ∧ c ≠ 63 ∧ c ≠ d) : M p s = false := by
  have hst := stuck hs hb
  cases h with
  | none i k hi hk h => rw [h]; exact hst
  | some st from_ i k q hi hk hst2 hf hd2 hp hfit h => omega
theorem St.over {p s : List Int} {star : Int} {from_ i : Nat} (h : St p s star from_ i s.length) : M p s = stars (p.drop i) := by
  generalize hk : s.length = k at h
  cases h with
  | none i k hi hk2 h =>
    rw [h, List.drop_eq_nil_of_le (as := s) (i := k) (by omega), M_end]
  | some st from_ i k q hi hk2 hst hf hd2 hp hfit h =>
    rw [h, hd2, Bool.eq_iff_iff]
    constructor
    · intro hm
      obtain ⟨j, hj, hm⟩ := (M_star_iff _ _).1 hm
      have h2 := plain_some q _ _ hp hm
      have h3 := h2.1
      simp only [List.length_drop] at h3 hj
      obtain rfl : j = 0 := by omega
      have h4 := h2.2
      rw [List.drop_zero, List.drop_drop, List.drop_eq_nil_of_le (as := s) (i := from_ + q.length) (by omega), M_end] at h4
      exact h4
    · intro hm
      refine (M_star_iff _ _).2 ⟨0, Nat.zero_le _, ?_⟩
      rw [List.drop_zero, fits_eq q _ _ hp hfit, List.drop_drop, List.drop_eq_nil_of_le (as := s) (i := from_ + q.length) (by omega), M_end]
      exact hm
/-! ### the law of stars -/
theorem M_all (s : List Int) : M [42] s = true := (M_star_iff _ _).2 ⟨s.length, Nat.le_refl _, by rw [List.drop_length, M_nil]; rfl⟩
theorem M_ahead (p h s : List Int) (hm : M p s = true) : M (42 :: p) (h ++ s) = true := (M_star_iff _ _).2 ⟨h.length, by simp, by rw [List.drop_left]; exact hm⟩
theorem M_behind : ∀ (p s h : List Int), M p s = true → M (p ++ [42]) (s ++ h) = true
  | [], s, h, hm => by
    rw [M_nil, List.isEmpty_iff] at hm
    subst hm
    exact M_all _
  | c :: p, s, h, hm => by
    by_cases hc : c = 42
    · subst hc
      obtain ⟨j, hj, hm⟩ := (M_star_iff _ _).1 hm
      rw [List.cons_append]
      refine (M_star_iff _ _).2 ⟨j, by simp; omega, ?_⟩
      rw [List.drop_append_of_le_length hj]
      exact M_behind p _ h hm
    · cases s with
      | nil => rw [M_plain_nil _ hc] at hm; cases hm
      | cons d t =>
        rw [M_plain_cons _ _ _ hc, Bool.and_eq_true] at hm
        rw [List.cons_append, List.cons_append, M_plain_cons _ _ _ hc, Bool.and_eq_true]
        exact ⟨hm.1, M_behind p t h hm.2⟩
theorem M_self : ∀ s : List Int, M s s = true ∨ 42 ∈ s
  | [] => .inl rfl
  | c :: s => by
    by_cases hc : c = 42
    · exact .inr (by simp [hc])
    · rcases M_self s with h | h
      · left
        rw [M_plain_cons _ _ _ hc, h]
        simp
      · exact .inr (by simp [h])
theorem M_len : ∀ (p s : List Int), (∀ c ∈ p, c ≠ 42) → M p s = true → p.length = s.length
  | [], s, _, h => by
    rw [M_nil, List.isEmpty_iff] at h
    subst h
    rfl
  | c :: p, [], hp, h => by rw [M_plain_nil _ (hp c (by simp))] at h; cases h
  | c :: p, d :: t, hp, h => by
    rw [M_plain_cons _ _ _ (hp c (by simp)), Bool.and_eq_true] at h
    simpa using M_len p t (fun x hx => hp x (by simp [hx])) h.2
end MatchCore
end Go.Proofs.YtemepnpfhoidhaaGreatDoor
