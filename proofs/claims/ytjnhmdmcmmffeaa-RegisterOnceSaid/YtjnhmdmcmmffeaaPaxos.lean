/-
  The plain law of registers that are asked and told: no program in sight.
  Conditions: none.
-/
import Derived.Test.YtjnhmdmcmmffeaaWWords
namespace Go.Proofs.Ytjnhmdmcmmffeaa
namespace Paxos
/-- How many of the first n. -/
def cnt : Nat → (Nat → Bool) → Nat
  | 0, _ => 0
  | n + 1, q => cnt n q + (if q n = true then 1 else 0)
theorem cnt_mono {n : Nat} {q q' : Nat → Bool} (h : ∀ k, k < n → q k = true → q' k = true) : cnt n q ≤ cnt n q' := by
  induction n with
  | zero => exact Nat.le_refl _
  | succ n ih =>
    have := ih fun k hk => h k (by omega)
    have h2 := h n (by omega)
    unfold cnt
    by_cases hq : q n = true
    · rw [if_pos hq, if_pos (h2 hq)]; omega
    · rw [if_neg hq]; split <;> omega
theorem cnt_congr {n : Nat} {q q' : Nat → Bool} (h : ∀ k, k < n → q k = q' k) : cnt n q = cnt n q' :=
  Nat.le_antisymm (cnt_mono fun k hk e => h k hk ▸ e) (cnt_mono fun k hk e => (h k hk).symm ▸ e)
theorem cnt_le (n : Nat) (q : Nat → Bool) : cnt n q ≤ n := by
  induction n with
  | zero => exact Nat.le_refl _
  | succ n ih => unfold cnt; split <;> omega
theorem cnt_apart {n : Nat} {q q' : Nat → Bool} (h : ∀ k, k < n → q k = true → q' k = true → False) : cnt n q + cnt n q' ≤ n := by
  induction n with
  | zero => exact Nat.le_refl _
  | succ n ih =>
    have := ih fun k hk => h k (by omega)
    have h2 := h n (by omega)
    unfold cnt
    by_cases hq : q n = true
    · by_cases hq' : q' n = true
      · exact (h2 hq hq').elim
      · rw [if_pos hq, if_neg hq']; omega
    · rw [if_neg hq]; split <;> omega
/-- Two that are each more than half meet. -/
theorem meet {n : Nat} {q q' : Nat → Bool} (h : n < 2 * cnt n q) (h' : n < 2 * cnt n q') : ∃ k, k < n ∧ q k = true ∧ q' k = true := by
  apply Classical.byContradiction
  intro hn
  have := cnt_apart (n := n) (q := q) (q' := q') fun k hk a b => hn ⟨k, hk, a, b⟩
  omega
theorem cnt_more {n x : Nat} {q q' : Nat → Bool} (hx : x < n) (h0 : q x = false) (h1 : q' x = true) (h : ∀ k, k < n → q k = true → q' k = true) : cnt n q + 1 ≤ cnt n q' := by
  induction n with
  | zero => omega
  | succ n ih =>
    have h2 := h n (by omega)
    unfold cnt
    by_cases hxn : x = n
    · subst hxn
      have := cnt_mono (n := x) (q := q) (q' := q') fun k hk => h k (by omega)
      rw [if_neg (by simp [h0]), if_pos h1]; omega
    · have := ih (by omega) fun k hk => h k (by omega)
      by_cases hq : q n = true
      · rw [if_pos hq, if_pos (h2 hq)]; omega
      · rw [if_neg hq]; split <;> omega

/-- One register: what it has promised, what it has taken (as one number each), and its verdict. -/
structure Rg where
  p : Int
  t : Int
  v : Int
abbrev St := Nat → Rg
/-- A state is right between two tries; cs: what was chosen so far. -/
structure Inv (n : Nat) (s : St) (cs : List Int) : Prop where
  tv : ∀ k, k < n → 0 ≤ (s k).t ∧ ((s k).t = 0 ↔ (s k).v = 0)
  vv : ∀ k, k < n → 0 ≤ (s k).v ∧ (s k).v ≤ 3
  top : ∃ B, (∀ k, k < n → (s k).t ≤ B) ∧ (B = 0 ∨ n < 2 * cnt n (fun k => decide (B ≤ (s k).p)))
  one : (cs = [] ∧ ∀ t v, v ≠ 0 → 2 * cnt n (fun k => decide ((s k).t = t ∧ (s k).v = v)) ≤ n) ∨
    ∃ c bc, (∀ x ∈ cs, x = c) ∧ 0 < bc ∧ n < 2 * cnt n (fun k => decide (bc ≤ (s k).t)) ∧ ∀ k, k < n → bc ≤ (s k).t → (s k).v = c
theorem start (n : Nat) : Inv n (fun _ => ⟨0, 0, 0⟩) [] := by
  refine ⟨fun k _ => ⟨Int.le_refl _, Iff.rfl⟩, fun k _ => by decide, ⟨0, fun k _ => Int.le_refl _, .inl rfl⟩, .inl ⟨rfl, fun t v hv => ?_⟩⟩
  show 2 * cnt n (fun _ => decide ((0 : Int) = t ∧ (0 : Int) = v)) ≤ n
  have : cnt n (fun _ => decide ((0 : Int) = t ∧ (0 : Int) = v)) = 0 := by
    have e : ∀ m, cnt m (fun _ => decide ((0 : Int) = t ∧ (0 : Int) = v)) = 0 := by
      intro m
      induction m with
      | zero => rfl
      | succ m ih => unfold cnt; rw [ih, if_neg (by simp; intro _ h; exact hv h.symm)]
    exact e n
  omega
/-- The first half of a try: s is what stood ahead of it, r what stands now. -/
structure Asks (n : Nat) (s r : St) (b want : Int) (asked : List Int) (best v : Int) : Prop where
  rest : ∀ k, k < n → ¬ (k : Int) ∈ asked → r k = s k
  done : ∀ k, k < n → (k : Int) ∈ asked → (s k).p ≤ b ∧ r k = ⟨b, (s k).t, (s k).v⟩ ∧ (s k).t ≤ best
  many : asked.length ≤ cnt n (fun k => decide ((k : Int) ∈ asked))
  told : (best = 0 ∧ v = want) ∨ (0 < best ∧ ∃ k, k < n ∧ (k : Int) ∈ asked ∧ (s k).t = best ∧ (s k).v = v)
theorem Asks.init (n : Nat) (s : St) (b want : Int) : Asks n s s b want [] 0 want :=
  ⟨fun _ _ _ => rfl, fun _ _ h => absurd h (by simp), Nat.zero_le _, .inl ⟨rfl, rfl⟩⟩
/-- Promises do not fall, and all else stands. -/
theorem Asks.keeps {n : Nat} {s r : St} {b want : Int} {asked : List Int} {best v : Int} (h : Asks n s r b want asked best v) (k : Nat) (hk : k < n) : (r k).t = (s k).t ∧ (r k).v = (s k).v ∧ (s k).p ≤ (r k).p := by
  by_cases ha : (k : Int) ∈ asked
  · obtain ⟨h1, h2, _⟩ := h.done k hk ha
    rw [h2]; exact ⟨rfl, rfl, h1⟩
  · rw [h.rest k hk ha]; exact ⟨rfl, rfl, Int.le_refl _⟩
theorem Asks.more {n : Nat} {s r r' : St} {b want : Int} {asked : List Int} {best v : Int} (h : Asks n s r b want asked best v) {x : Nat} (hx : x < n) (hn : ¬ (x : Int) ∈ asked) (hp : (r x).p ≤ b)
    (hr : r' = fun k => if k = x then ⟨b, (r x).t, (r x).v⟩ else r k) (htv : (r x).t = 0 ↔ (r x).v = 0) (ht0 : 0 ≤ (r x).t) (hb0 : 0 ≤ best) :
    Asks n s r' b want (asked ++ [(x : Int)]) (if (r x).v ≠ 0 ∧ best < (r x).t then (r x).t else best) (if (r x).v ≠ 0 ∧ best < (r x).t then (r x).v else v) := by
  subst hr
  have e := h.rest x hx hn
  have hbest : (r x).t ≤ (if (r x).v ≠ 0 ∧ best < (r x).t then (r x).t else best) := by
    split
    · exact Int.le_refl _
    · rename_i hc
      by_cases h0 : (r x).v = 0
      · have := htv.2 h0; omega
      · exact Int.not_lt.1 fun hlt => hc ⟨h0, hlt⟩
  have hle : best ≤ (if (r x).v ≠ 0 ∧ best < (r x).t then (r x).t else best) := by
    split
    · rename_i hc; exact Int.le_of_lt hc.2
    · exact Int.le_refl _
  refine ⟨fun k hk hka => ?_, fun k hk hka => ?_, ?_, ?_⟩
  · have h1 : ¬ (k : Int) ∈ asked := fun hh => hka (List.mem_append_left _ hh)
    have h2 : k ≠ x := fun hh => hka (List.mem_append_right _ (by simp [hh]))
    simp only [if_neg h2]
    exact h.rest k hk h1
  · by_cases h2 : k = x
    · subst h2
      simp only [if_true]
      rw [← e]
      exact ⟨hp, rfl, hbest⟩
    · have h1 : (k : Int) ∈ asked := by
        rcases List.mem_append.1 hka with hh | hh
        · exact hh
        · simp at hh; omega
      obtain ⟨a1, a2, a3⟩ := h.done k hk h1
      simp only [if_neg h2]
      exact ⟨a1, a2, Int.le_trans a3 hle⟩
  · have := cnt_more (n := n) (x := x) (q := fun k => decide ((k : Int) ∈ asked)) (q' := fun k => decide ((k : Int) ∈ asked ++ [(x : Int)])) hx (by simpa using hn) (by simp) (fun k _ hk => by simp at hk ⊢; exact .inl hk)
    have := h.many
    simp only [List.length_append, List.length_singleton]
    omega
  · by_cases hc : (r x).v ≠ 0 ∧ best < (r x).t
    · rw [if_pos hc, if_pos hc]
      exact .inr ⟨by omega, x, hx, by simp, by rw [← e], by rw [← e]⟩
    · rw [if_neg hc, if_neg hc]
      rcases h.told with ⟨h1, h2⟩ | ⟨h1, k, hk, hka, h3, h4⟩
      · exact .inl ⟨h1, h2⟩
      · exact .inr ⟨h1, k, hk, List.mem_append_left _ hka, h3, h4⟩
/-- A try that ends behind its asks leaves all right. -/
theorem Asks.stop {n : Nat} {s r : St} {b want : Int} {asked : List Int} {best v : Int} {cs : List Int} (hi : Inv n s cs) (h : Asks n s r b want asked best v) : Inv n r cs := by
  refine ⟨fun k hk => ?_, fun k hk => ?_, ?_, ?_⟩
  · obtain ⟨e1, e2, _⟩ := h.keeps k hk; rw [e1, e2]; exact hi.tv k hk
  · obtain ⟨e1, e2, _⟩ := h.keeps k hk; rw [e2]; exact hi.vv k hk
  · obtain ⟨B, h1, h2⟩ := hi.top
    refine ⟨B, fun k hk => by rw [(h.keeps k hk).1]; exact h1 k hk, h2.imp id fun hm => Nat.lt_of_lt_of_le hm (Nat.mul_le_mul_left 2 (cnt_mono fun k hk hq => ?_))⟩
    have := (h.keeps k hk).2.2
    simp at hq ⊢; omega
  · have ec : ∀ q : Int → Int → Bool, cnt n (fun k => q (r k).t (r k).v) = cnt n (fun k => q (s k).t (s k).v) := fun q => cnt_congr fun k hk => by rw [(h.keeps k hk).1, (h.keeps k hk).2.1]
    rcases hi.one with ⟨h1, h2⟩ | ⟨c, bc, h1, h2, h3, h4⟩
    · exact .inl ⟨h1, fun t v hv => by rw [ec (fun a b => decide (a = t ∧ b = v))]; exact h2 t v hv⟩
    · refine .inr ⟨c, bc, h1, h2, by rw [ec (fun a _ => decide (bc ≤ a))]; exact h3, fun k hk hb => ?_⟩
      rw [(h.keeps k hk).1] at hb; rw [(h.keeps k hk).2.1]; exact h4 k hk hb
/-- The second half: u is what stands now. -/
def Tells (n : Nat) (r u : St) (b v : Int) : Prop := ∀ k, k < n → u k = r k ∨ ((r k).p ≤ b ∧ u k = ⟨b, b, v⟩)
theorem Tells.init (n : Nat) (r : St) (b v : Int) : Tells n r r b v := fun _ _ => .inl rfl
theorem Tells.more {n : Nat} {r u u' : St} {b v : Int} (h : Tells n r u b v) {x : Nat} (hp : (u x).p ≤ b) (hu : u' = fun k => if k = x then ⟨b, b, v⟩ else u k) : Tells n r u' b v := by
  subst hu
  intro k hk
  by_cases hx : k = x
  · subst hx
    simp only [if_true]
    rcases h k hk with e | ⟨e, _⟩
    · exact .inr ⟨by rw [← e]; exact hp, trivial⟩
    · exact .inr ⟨e, trivial⟩
  · simp only [if_neg hx]; exact h k hk
/-- All that was taken ahead of a try that got more than half lies below its ballot, but for its own. -/
theorem Asks.below {n : Nat} {s r : St} {b want : Int} {asked : List Int} {best v : Int} {cs : List Int} (hi : Inv n s cs) (h : Asks n s r b want asked best v) (hm : n < 2 * asked.length) (hb : 0 < b)
    (hu : ∀ k, k < n → (r k).t ≠ b) : ∀ k, k < n → (s k).t < b := by
  obtain ⟨B, h1, h2⟩ := hi.top
  have hB : B ≤ b := by
    rcases h2 with h2 | h2
    · omega
    · obtain ⟨k, hk, a1, a2⟩ := meet h2 (Nat.lt_of_lt_of_le hm (Nat.mul_le_mul_left 2 h.many))
      have a1 : B ≤ (s k).p := by simpa using a1
      have a2 : (k : Int) ∈ asked := by simpa using a2
      have := (h.done k hk a2).1
      omega
  intro k hk
  have a := h1 k hk
  have c := hu k hk
  rw [(h.keeps k hk).1] at c
  omega
/-- What a try that got more than half tells is what was chosen. -/
theorem Asks.same {n : Nat} {s r : St} {b want : Int} {asked : List Int} {best v : Int} (h : Asks n s r b want asked best v) (hm : n < 2 * asked.length) {c bc : Int} (h2 : 0 < bc) (h3 : n < 2 * cnt n (fun k => decide (bc ≤ (s k).t)))
    (h4 : ∀ k, k < n → bc ≤ (s k).t → (s k).v = c) : v = c := by
  obtain ⟨k, hk, a1, a2⟩ := meet h3 (Nat.lt_of_lt_of_le hm (Nat.mul_le_mul_left 2 h.many))
  have a1 : bc ≤ (s k).t := by simpa using a1
  have a2 : (k : Int) ∈ asked := by simpa using a2
  have a3 := (h.done k hk a2).2.2
  rcases h.told with ⟨e, _⟩ | ⟨_, j, hj, _, e1, e2⟩
  · omega
  · rw [← e2]; exact h4 j hj (by omega)
theorem Asks.verdict {n : Nat} {s r : St} {b want : Int} {asked : List Int} {best v : Int} {cs : List Int} (hi : Inv n s cs) (h : Asks n s r b want asked best v) (hw : 1 ≤ want ∧ want ≤ 3) : 1 ≤ v ∧ v ≤ 3 := by
  rcases h.told with ⟨_, e⟩ | ⟨hb, k, hk, _, e1, e2⟩
  · omega
  · have := hi.tv k hk
    have := hi.vv k hk
    rw [← e2]
    have : (s k).v ≠ 0 := fun h0 => by have := (hi.tv k hk).2.2 h0; omega
    omega
/-- A whole try leaves all right, with what is chosen now (m: the verdict that more than half have taken under one ballot, or 0). -/
theorem Tells.stop {n : Nat} {s r u : St} {b want : Int} {asked : List Int} {best v : Int} {cs : List Int} (hi : Inv n s cs) (h : Asks n s r b want asked best v) (ht : Tells n r u b v) (hm : n < 2 * asked.length) (hb : 0 < b)
    (hu : ∀ k, k < n → (r k).t ≠ b) (hv : 1 ≤ v ∧ v ≤ 3) (m : Int)
    (hmost : (m = 0 ∧ ∀ t x, x ≠ 0 → 2 * cnt n (fun k => decide ((u k).t = t ∧ (u k).v = x)) ≤ n) ∨ (m ≠ 0 ∧ ∃ t, n < 2 * cnt n (fun k => decide ((u k).t = t ∧ (u k).v = m)))) :
    Inv n u (if m = 0 then cs else cs ++ [m]) ∧ ∀ x ∈ (if m = 0 then cs else cs ++ [m]), ∀ y ∈ (if m = 0 then cs else cs ++ [m]), x = y := by
  have hlt := h.below hi hm hb hu
  have hup : ∀ k, k < n → (s k).t ≤ (u k).t ∧ (s k).p ≤ (u k).p := fun k hk => by
    obtain ⟨e1, e2, e3⟩ := h.keeps k hk
    rcases ht k hk with e | ⟨e, e'⟩
    · rw [e, e1]; exact ⟨Int.le_refl _, e3⟩
    · rw [e']; have := hlt k hk; exact ⟨by simp only; omega, by simp only; omega⟩
  have hold : ∀ k, k < n → (u k).t ≠ b → (u k).t = (s k).t ∧ (u k).v = (s k).v := fun k hk hne => by
    obtain ⟨e1, e2, _⟩ := h.keeps k hk
    rcases ht k hk with e | ⟨_, e⟩
    · rw [e]; exact ⟨e1, e2⟩
    · rw [e] at hne; exact absurd rfl hne
  have hnew : ∀ k, k < n → (u k).t = b → (u k).v = v := fun k hk he => by
    rcases ht k hk with e | ⟨_, e⟩
    · rw [e] at he; exact absurd he (hu k hk)
    · rw [e]
  have hle : ∀ k, k < n → (u k).t ≤ b := fun k hk => by
    by_cases he : (u k).t = b
    · omega
    · rw [(hold k hk he).1]; have := hlt k hk; omega
  have htv : ∀ k, k < n → 0 ≤ (u k).t ∧ ((u k).t = 0 ↔ (u k).v = 0) := fun k hk => by
    by_cases he : (u k).t = b
    · rw [hnew k hk he, he]; exact ⟨by omega, ⟨fun _ => by omega, fun _ => by omega⟩⟩
    · rw [(hold k hk he).1, (hold k hk he).2]; exact hi.tv k hk
  have hvv : ∀ k, k < n → 0 ≤ (u k).v ∧ (u k).v ≤ 3 := fun k hk => by
    by_cases he : (u k).t = b
    · rw [hnew k hk he]; omega
    · rw [(hold k hk he).2]; exact hi.vv k hk
  have htop : ∃ B, (∀ k, k < n → (u k).t ≤ B) ∧ (B = 0 ∨ n < 2 * cnt n (fun k => decide (B ≤ (u k).p))) := by
    refine ⟨b, hle, .inr (Nat.lt_of_lt_of_le hm (Nat.mul_le_mul_left 2 (Nat.le_trans h.many (cnt_mono fun k hk hq => ?_))))⟩
    have hq : (k : Int) ∈ asked := by simpa using hq
    have e := (h.done k hk hq).2.1
    rcases ht k hk with e2 | ⟨_, e2⟩
    · rw [e2, e]; simp
    · rw [e2]; simp
  have key : ∃ c bc, (∀ x ∈ cs, x = c) ∧ 0 < bc ∧ n < 2 * cnt n (fun k => decide (bc ≤ (u k).t)) ∧ (∀ k, k < n → bc ≤ (u k).t → (u k).v = c) ∨ (cs = [] ∧ m = 0 ∧ ∀ t x, x ≠ 0 → 2 * cnt n (fun k => decide ((u k).t = t ∧ (u k).v = x)) ≤ n) := by
    rcases hi.one with ⟨h1, h2⟩ | ⟨c, bc, h1, h2, h3, h4⟩
    · rcases hmost with ⟨hm0, hno⟩ | ⟨hm0, t, hmaj⟩
      · exact ⟨0, 0, .inr ⟨h1, hm0, hno⟩⟩
      · have htb : t = b := by
          apply Classical.byContradiction
          intro hne
          have := h2 t m hm0
          have hc := cnt_mono (n := n) (q := fun k => decide ((u k).t = t ∧ (u k).v = m)) (q' := fun k => decide ((s k).t = t ∧ (s k).v = m)) (fun k hk hq => by
            have hq : (u k).t = t ∧ (u k).v = m := by simpa using hq
            obtain ⟨e1, e2⟩ := hold k hk (by rw [hq.1]; exact hne)
            simp only [decide_eq_true_eq]
            exact ⟨by rw [← e1]; exact hq.1, by rw [← e2]; exact hq.2⟩)
          omega
        subst htb
        refine ⟨v, t, .inl ⟨by rw [h1]; simp, hb, Nat.lt_of_lt_of_le hmaj (Nat.mul_le_mul_left 2 (cnt_mono fun k hk hq => ?_)), fun k hk hq => hnew k hk ?_⟩⟩
        · simp at hq ⊢; omega
        · have := hle k hk; omega
    · have e := h.same hm h2 h3 h4
      subst e
      refine ⟨v, bc, .inl ⟨h1, h2, Nat.lt_of_lt_of_le h3 (Nat.mul_le_mul_left 2 (cnt_mono fun k hk hq => ?_)), fun k hk hq => ?_⟩⟩
      · have := (hup k hk).1
        simp at hq ⊢; omega
      · by_cases he : (u k).t = b
        · exact hnew k hk he
        · rw [(hold k hk he).2]; rw [(hold k hk he).1] at hq; exact h4 k hk hq
  obtain ⟨c, bc, ⟨k1, k2, k3, k4⟩ | ⟨k1, k2, k3⟩⟩ := key
  · have hall : ∀ x ∈ (if m = 0 then cs else cs ++ [m]), x = c := by
      rcases hmost with ⟨hm0, _⟩ | ⟨hm0, t, hmaj⟩
      · rw [if_pos hm0]; exact k1
      · rw [if_neg hm0]
        intro x hx
        rcases List.mem_append.1 hx with hx | hx
        · exact k1 x hx
        · obtain rfl : x = m := by simpa using hx
          obtain ⟨k, hk, a1, a2⟩ := meet k3 hmaj
          have a1 : bc ≤ (u k).t := by simpa using a1
          have a2 : (u k).t = t ∧ (u k).v = x := by simpa using a2
          rw [← a2.2]; exact k4 k hk a1
    exact ⟨⟨htv, hvv, htop, .inr ⟨c, bc, hall, k2, k3, k4⟩⟩, fun x hx y hy => (hall x hx).trans (hall y hy).symm⟩
  · rw [if_pos k2]
    refine ⟨⟨htv, hvv, htop, .inl ⟨k1, k3⟩⟩, ?_⟩
    rw [k1]; simp
end Paxos
end Go.Proofs.Ytjnhmdmcmmffeaa
