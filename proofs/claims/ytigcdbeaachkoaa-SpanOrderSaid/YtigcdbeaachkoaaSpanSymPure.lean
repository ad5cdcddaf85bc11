/-
  The plain law of the stable sort of spans, second part: the merging of rising rows, and the whole.
  Conditions: at most a thousand elements.
-/
import Derived.Test.YtigcdbeaachkoaaSpanSortPure
import Derived.Test.YtigcdbeaachkoaaPAllx7
import Derived.Test.YtigcdbeaachkoaaPAllx8
namespace Go.Proofs.Ytigcdbeaachkoaa.PAll
open Go.RowKit Go.Proofs.YtigcdbeaachkoaaW.PrintWords Go.Proofs.YtigcdbeaachkoaaW.PrintLast Go.Proofs.YtigcdbeaachkoaaW.PrintMore
open Go.Proofs.Ytigcdbeaachkoaa.Stable
set_option linter.unusedVariables false
set_option linter.unusedSimpArgs false
theorem rd_nat (L : List S28) (i : Nat) : rd_T28 L (i : Int) = L.getD i z28 := rfl
theorem wsub {a b : Nat} (h : b ≤ a) (ha : a ≤ 100000) : wrap64 ((a : Int) - (b : Nat)) = ((a - b : Nat) : Int) := by rw [wsm (by omega) (by omega)]; omega
theorem wadd {a b : Nat} (ha : a ≤ 10000) (hb : b ≤ 10000) : wrap64 ((a : Int) + (b : Nat)) = ((a + b : Nat) : Int) := by rw [wsm (by omega) (by omega)]; omega
theorem wadd1 {a : Nat} (ha : a ≤ 10000) : wrap64 ((a : Int) + 1) = ((a + 1 : Nat) : Int) := by rw [wsm (by omega) (by omega)]; omega
theorem wsub1 {a : Nat} (h : 1 ≤ a) (ha : a ≤ 10000) : wrap64 ((a : Int) - 1) = ((a - 1 : Nat) : Int) := by rw [wsm (by omega) (by omega)]; omega
/-! ### the searches -/
theorem l0_tells (L : List S28) (a : Nat) (hl : L.length ≤ 1000) (ha : a < L.length) (d : Nat) : ∀ (k i j : Nat), j - i ≤ d → i ≤ j → j ≤ L.length → d + 4 ≤ k →
    ∃ k' t, k ≤ k' + d + 1 ∧ i ≤ t ∧ t ≤ j ∧ api_Span_52.l0 k L a i j = api_Span_52.l1 k' L t a ∧ (t = i ∨ ltS (L.getD (t - 1) z28) (L.getD a z28) = true) ∧ (t = j ∨ ltS (L.getD t z28) (L.getD a z28) = false) := by
  induction d with
  | zero =>
    intro k i j hd hij hj hk
    obtain ⟨k, rfl⟩ : ∃ m, k = m + 1 := ⟨k - 1, by omega⟩
    refine ⟨k, i, by omega, Nat.le_refl _, hij, ?_, .inl rfl, .inl (by omega)⟩
    rw [api_Span_52.l0, if_neg (by omega)]
  | succ d ih =>
    intro k i j hd hij hj hk
    obtain ⟨k, rfl⟩ : ∃ m, k = m + 1 := ⟨k - 1, by omega⟩
    by_cases hlt : i < j
    · rw [api_Span_52.l0, if_pos (by omega), uhalf (by omega) (by omega), if_pos (by omega), if_pos (by omega), if_pos (by omega), if_pos (by omega), rd_nat, rd_nat, sord_eq _ _ (by omega)]
      simp only [Option.bind_some]
      by_cases hc : ltS (L.getD ((i + j) / 2) z28) (L.getD a z28) = true
      · rw [if_pos ((ord_lt _ _).2 hc), wadd1 (by omega)]
        obtain ⟨k', t, h1, h2, h3, h4, h5, h6⟩ := ih k ((i + j) / 2 + 1) j (by omega) (by omega) hj (by omega)
        refine ⟨k', t, by omega, by omega, h3, h4, .inr ?_, h6⟩
        rcases h5 with h5 | h5
        · rw [h5, Nat.add_sub_cancel]; exact hc
        · exact h5
      · rw [if_neg (fun h => hc ((ord_lt _ _).1 h))]
        obtain ⟨k', t, h1, h2, h3, h4, h5, h6⟩ := ih k i ((i + j) / 2) (by omega) (by omega) (by omega) (by omega)
        refine ⟨k', t, by omega, h2, by omega, h4, h5, .inr ?_⟩
        rcases h6 with h6 | h6
        · rw [h6]; simpa using hc
        · exact h6
    · refine ⟨k, i, by omega, Nat.le_refl _, hij, ?_, .inl rfl, .inl (by omega)⟩
      rw [api_Span_52.l0, if_neg (by omega)]
theorem l2_tells (L : List S28) (m : Nat) (hl : L.length ≤ 1000) (ha : m < L.length) (d : Nat) : ∀ (k i j : Nat), j - i ≤ d → i ≤ j → j ≤ L.length → d + 4 ≤ k →
    ∃ k' t, k ≤ k' + d + 1 ∧ i ≤ t ∧ t ≤ j ∧ api_Span_52.l2 k L m i j = api_Span_52.l3 k' L t m ∧ (t = i ∨ ltS (L.getD m z28) (L.getD (t - 1) z28) = false) ∧ (t = j ∨ ltS (L.getD m z28) (L.getD t z28) = true) := by
  induction d with
  | zero =>
    intro k i j hd hij hj hk
    obtain ⟨k, rfl⟩ : ∃ m, k = m + 1 := ⟨k - 1, by omega⟩
    refine ⟨k, i, by omega, Nat.le_refl _, hij, ?_, .inl rfl, .inl (by omega)⟩
    rw [api_Span_52.l2, if_neg (by omega)]
  | succ d ih =>
    intro k i j hd hij hj hk
    obtain ⟨k, rfl⟩ : ∃ m, k = m + 1 := ⟨k - 1, by omega⟩
    by_cases hlt : i < j
    · rw [api_Span_52.l2, if_pos (by omega), uhalf (by omega) (by omega), if_pos (by omega), if_pos (by omega), if_pos (by omega), if_pos (by omega), rd_nat, rd_nat, sord_eq _ _ (by omega)]
      simp only [Option.bind_some]
      by_cases hc : ltS (L.getD m z28) (L.getD ((i + j) / 2) z28) = true
      · rw [if_pos ((ord_lt _ _).2 hc)]
        obtain ⟨k', t, h1, h2, h3, h4, h5, h6⟩ := ih k i ((i + j) / 2) (by omega) (by omega) (by omega) (by omega)
        refine ⟨k', t, by omega, h2, by omega, h4, h5, .inr ?_⟩
        rcases h6 with h6 | h6
        · rw [h6]; exact hc
        · exact h6
      · rw [if_neg (fun h => hc ((ord_lt _ _).1 h)), wadd1 (by omega)]
        obtain ⟨k', t, h1, h2, h3, h4, h5, h6⟩ := ih k ((i + j) / 2 + 1) j (by omega) (by omega) hj (by omega)
        refine ⟨k', t, by omega, by omega, h3, h4, .inr ?_, h6⟩
        rcases h5 with h5 | h5
        · rw [h5, Nat.add_sub_cancel]; simpa using hc
        · exact h5
    · refine ⟨k, i, by omega, Nat.le_refl _, hij, ?_, .inl rfl, .inl (by omega)⟩
      rw [api_Span_52.l2, if_neg (by omega)]
theorem l4_tells (L : List S28) (a m b mid n p : Nat) (hl : L.length ≤ 1000) (hn : n ≤ 2000) (hpn : p + 1 = n) (d : Nat) : ∀ (k i j : Nat), j - i ≤ d → i ≤ j → (∀ c, i ≤ c → c < j → c ≤ p ∧ p - c < L.length ∧ c < L.length) → d + 4 ≤ k → j ≤ n → 
    ∃ k' t, k ≤ k' + d + 1 ∧ i ≤ t ∧ t ≤ j ∧ api_Span_52.l4 k L a m b mid n i j p = (if t < m then api_Span_52.j6 k' L a m b mid t ((n - t : Nat) : Int) (decide ((m : Int) < ((n - t : Nat) : Int))) else api_Span_52.j6 k' L a m b mid t ((n - t : Nat) : Int) false) ∧
      (t = i ∨ ltS (L.getD (p - (t - 1)) z28) (L.getD (t - 1) z28) = false) ∧ (t = j ∨ ltS (L.getD (p - t) z28) (L.getD t z28) = true) := by
  induction d with
  | zero =>
    intro k i j hd hij hj hk hjn
    obtain ⟨k, rfl⟩ : ∃ m, k = m + 1 := ⟨k - 1, by omega⟩
    refine ⟨k, i, by omega, Nat.le_refl _, hij, ?_, .inl rfl, .inl (by omega)⟩
    rw [api_Span_52.l4, if_neg (by omega), wsub (by omega) (by omega)]
    by_cases h : i < m
    · rw [if_pos (by omega), if_pos h]
    · rw [if_neg (by omega), if_neg h]
  | succ d ih =>
    intro k i j hd hij hj hk hjn
    obtain ⟨k, rfl⟩ : ∃ m, k = m + 1 := ⟨k - 1, by omega⟩
    by_cases hlt : i < j
    · obtain ⟨q1, q2, q3⟩ := hj ((i + j) / 2) (by omega) (by omega)
      rw [api_Span_52.l4, if_pos (by omega), uhalf (by omega) (by omega), wsub q1 (by omega), if_pos (by omega), if_pos (by omega), if_pos (by omega), if_pos (by omega), rd_nat, rd_nat, sord_eq _ _ (by omega)]
      simp only [Option.bind_some]
      by_cases hc : ltS (L.getD (p - (i + j) / 2) z28) (L.getD ((i + j) / 2) z28) = true
      · rw [if_pos ((ord_lt _ _).2 hc)]
        obtain ⟨k', t, h1, h2, h3, h4, h5, h6⟩ := ih k i ((i + j) / 2) (by omega) (by omega) (fun c h1 h2 => hj c h1 (by omega)) (by omega) (by omega)
        refine ⟨k', t, by omega, h2, by omega, h4, h5, .inr ?_⟩
        rcases h6 with h6 | h6
        · rw [h6]; exact hc
        · exact h6
      · rw [if_neg (fun h => hc ((ord_lt _ _).1 h)), wadd1 (by omega)]
        obtain ⟨k', t, h1, h2, h3, h4, h5, h6⟩ := ih k ((i + j) / 2 + 1) j (by omega) (by omega) (fun c h1 h2 => hj c (by omega) h2) (by omega) hjn
        refine ⟨k', t, by omega, by omega, h3, h4, .inr ?_, h6⟩
        rcases h5 with h5 | h5
        · rw [h5, Nat.add_sub_cancel]; simpa using hc
        · exact h5
    · refine ⟨k, i, by omega, Nat.le_refl _, hij, ?_, .inl rfl, .inl (by omega)⟩
      rw [api_Span_52.l4, if_neg (by omega), wsub (by omega) (by omega)]
      by_cases h : i < m
      · rw [if_pos (by omega), if_pos h]
      · rw [if_neg (by omega), if_neg h]
/-! ### the moves -/
theorem l1_moves (p R : List S28) (e : S28) : ∀ (rest done : List S28) (k : Nat), p.length + done.length + rest.length + 1 + R.length ≤ 1000 → rest.length < k →
    api_Span_52.l1 k (p ++ (done ++ (e :: (rest ++ R)))) ((p.length + done.length + rest.length + 1 : Nat) : Int) ((p.length + done.length : Nat) : Int) = some (p ++ (done ++ (rest ++ (e :: R)))) := by
  intro rest
  induction rest with
  | nil =>
    intro done k hl hk
    obtain ⟨k, rfl⟩ : ∃ m, k = m + 1 := ⟨k - 1, by omega⟩
    simp only [List.length_nil, Nat.add_zero] at hl ⊢
    rw [api_Span_52.l1, wsub1 (by omega) (by omega), if_neg (by omega)]
    rfl
  | cons c rest ih =>
    intro done k hl hk
    obtain ⟨k, rfl⟩ : ∃ m, k = m + 1 := ⟨k - 1, by omega⟩
    rw [List.length_cons] at hl hk ⊢
    have hlen : (p ++ (done ++ (e :: (c :: rest ++ R)))).length = p.length + done.length + rest.length + 2 + R.length := by simp; omega
    rw [api_Span_52.l1, wsub1 (by omega) (by omega), wadd1 (by omega), if_pos (by omega), if_pos (by omega), if_pos (by rw [hlen]; omega), if_pos (by omega), if_pos (by rw [hlen]; omega), rd_nat, rd_nat]
    have h1 : p ++ (done ++ (e :: (c :: rest ++ R))) = (p ++ done) ++ e :: ([] ++ c :: (rest ++ R)) := by simp
    have g1 : (p ++ (done ++ (e :: (c :: rest ++ R)))).getD (p.length + done.length) z28 = e := by rw [h1]; exact getD_at _ _ _ _ (by simp)
    have g2 : (p ++ (done ++ (e :: (c :: rest ++ R)))).getD (p.length + done.length + 1) z28 = c := by
      have : p ++ (done ++ (e :: (c :: rest ++ R))) = (p ++ done ++ [e]) ++ c :: (rest ++ R) := by simp
      rw [this]; exact getD_at _ _ _ _ (by simp; omega)
    rw [g1, g2, Int.toNat_natCast, Int.toNat_natCast, h1]
    have hs := set_two (p ++ done) [] (rest ++ R) e c (i := p.length + done.length) (j := p.length + done.length + 1) (by simp) (by simp)
    have := ih (done ++ [c]) k (by simp; omega) (by omega)
    rw [show p.length + (done ++ [c]).length = p.length + done.length + 1 by simp; omega] at this
    rw [show (((p ++ done) ++ e :: ([] ++ c :: (rest ++ R))).set (p.length + done.length) (⟨c.f0, c.f1, c.f2, c.f3, c.f4, c.f5, c.f6, c.f7⟩ : S28)).set (p.length + done.length + 1) (⟨e.f0, e.f1, e.f2, e.f3, e.f4, e.f5, e.f6, e.f7⟩ : S28) = (p ++ done) ++ c :: ([] ++ e :: (rest ++ R)) from hs]
    rw [show (p ++ done) ++ c :: ([] ++ e :: (rest ++ R)) = p ++ (done ++ [c] ++ (e :: (rest ++ R))) by simp, show p.length + done.length + (rest.length + 1) + 1 = p.length + done.length + 1 + rest.length + 1 by omega, this]
    simp
theorem l3_moves (p : List S28) (e : S28) (n : Nat) : ∀ (x R : List S28) (k : Nat), x.length = n → p.length + x.length + 1 + R.length ≤ 1000 → n < k →
    api_Span_52.l3 k (p ++ (x ++ (e :: R))) ((p.length : Nat) : Int) ((p.length + x.length : Nat) : Int) = some (p ++ (e :: (x ++ R))) := by
  induction n with
  | zero =>
    intro x R k hx hl hk
    obtain rfl := List.eq_nil_of_length_eq_zero hx
    obtain ⟨k, rfl⟩ : ∃ m, k = m + 1 := ⟨k - 1, by omega⟩
    rw [api_Span_52.l3, if_neg (by simp)]
    rfl
  | succ n ih =>
    intro x R k hx hl hk
    obtain ⟨k, rfl⟩ : ∃ m, k = m + 1 := ⟨k - 1, by omega⟩
    obtain ⟨t, c, rfl⟩ : ∃ t c, x = t ++ [c] := ⟨x.dropLast, x.getLast (by intro h; rw [h] at hx; simp at hx), (List.dropLast_concat_getLast _).symm⟩
    rw [List.length_append, List.length_singleton] at hx hl
    have e1 : p.length + (t ++ [c]).length = p.length + t.length + 1 := by simp; omega
    have hlen : (p ++ ((t ++ [c]) ++ (e :: R))).length = p.length + t.length + 2 + R.length := by simp; omega
    have h1 : p ++ ((t ++ [c]) ++ (e :: R)) = (p ++ t) ++ c :: ([] ++ e :: R) := by simp
    have g1 : (p ++ ((t ++ [c]) ++ (e :: R))).getD (p.length + t.length) z28 = c := by rw [h1]; exact getD_at _ _ _ _ (by simp)
    have g2 : (p ++ ((t ++ [c]) ++ (e :: R))).getD (p.length + t.length + 1) z28 = e := by
      have : p ++ ((t ++ [c]) ++ (e :: R)) = (p ++ t ++ [c]) ++ e :: R := by simp
      rw [this]; exact getD_at _ _ _ _ (by simp; omega)
    rw [e1, api_Span_52.l3, wsub1 (by omega) (by omega), if_pos (by omega), if_pos (by omega), if_pos (by rw [hlen]; omega), if_pos (by omega), if_pos (by rw [hlen]; omega), rd_nat, rd_nat, show p.length + t.length + 1 - 1 = p.length + t.length by omega, g1, g2, Int.toNat_natCast, Int.toNat_natCast]
    have hs : ((p ++ ((t ++ [c]) ++ (e :: R))).set (p.length + t.length + 1) (⟨c.f0, c.f1, c.f2, c.f3, c.f4, c.f5, c.f6, c.f7⟩ : S28)).set (p.length + t.length) (⟨e.f0, e.f1, e.f2, e.f3, e.f4, e.f5, e.f6, e.f7⟩ : S28) = p ++ (t ++ (e :: (c :: R))) := by
      have a1 : p ++ ((t ++ [c]) ++ (e :: R)) = (p ++ t ++ [c]) ++ e :: R := by simp
      rw [a1, set_at _ _ _ _ (by simp; omega)]
      have a2 : (p ++ t ++ [c]) ++ (⟨c.f0, c.f1, c.f2, c.f3, c.f4, c.f5, c.f6, c.f7⟩ : S28) :: R = (p ++ t) ++ c :: (c :: R) := by simp
      rw [a2, set_at _ _ _ _ (by simp)]
      simp
    rw [hs, ih t (c :: R) k (by omega) (by simp; omega) (by omega)]
    simp
/-! ### rows, cut -/
theorem low_of {w : List S28} {c e : S28} (h : Srt ltS (w ++ [c])) (hc : ltS c e = true) : ∀ a ∈ w ++ [c], ltS a e = true := fun a ha => by
  rcases List.mem_append.1 ha with h1 | h1
  · cases hae : ltS a e with
    | true => rfl
    | false =>
      have := swS.neg c a e (h.cross a h1 c (List.mem_singleton.2 rfl)) hae
      rw [hc] at this; cases this
  · rw [List.mem_singleton.1 h1]; exact hc
theorem high_of {w : List S28} {c e : S28} (h : Srt ltS (c :: w)) (hc : ltS c e = false) : ∀ a ∈ c :: w, ltS a e = false := fun a ha => by
  rcases List.mem_cons.1 ha with h1 | h1
  · rw [h1]; exact hc
  · exact swS.neg a c e ((List.pairwise_cons.1 h).1 a h1) hc
theorem low_of' {w : List S28} {c e : S28} (h : Srt ltS (w ++ [c])) (hc : ltS e c = false) : ∀ a ∈ w ++ [c], ltS e a = false := fun a ha => by
  rcases List.mem_append.1 ha with h1 | h1
  · exact swS.neg e c a hc (h.cross a h1 c (List.mem_singleton.2 rfl))
  · rw [List.mem_singleton.1 h1]; exact hc
theorem high_of' {w : List S28} {c e : S28} (h : Srt ltS (c :: w)) (hc : ltS e c = true) : ∀ a ∈ c :: w, ltS e a = true := fun a ha => by
  rcases List.mem_cons.1 ha with h1 | h1
  · rw [h1]; exact hc
  · cases hea : ltS e a with
    | true => rfl
    | false =>
      have := swS.neg e a c hea ((List.pairwise_cons.1 h).1 a h1)
      rw [hc] at this; cases this
theorem snoc_or (l : List S28) : l = [] ∨ ∃ w c, l = w ++ [c] := by
  rcases List.eq_nil_or_concat l with h | ⟨w, c, h⟩
  · exact .inl h
  · exact .inr ⟨w, c, by simpa using h⟩
theorem symA {p s y : List S28} {e : S28} {k : Nat} (hs : Srt ltS y) (hl : p.length + 1 + y.length + s.length ≤ 1000) (hk : 3000 ≤ k) :
    ∃ z, Srt ltS z ∧ Same ltS (e :: y) z ∧ api_Span_52.l0 k (p ++ (e :: (y ++ s))) (p.length : Nat) ((p.length + 1 : Nat) : Int) ((p.length + 1 + y.length : Nat) : Int) = some (p ++ (z ++ s)) := by
  have hlen : (p ++ (e :: (y ++ s))).length = p.length + 1 + y.length + s.length := by simp; omega
  obtain ⟨k', t, h1, h2, h3, h4, h5, h6⟩ := l0_tells (p ++ (e :: (y ++ s))) p.length (by omega) (by omega) y.length k (p.length + 1) (p.length + 1 + y.length) (by omega) (by omega) (by omega) (by omega)
  rw [h4]
  have ge : (p ++ (e :: (y ++ s))).getD p.length z28 = e := getD_at _ _ _ _ rfl
  rw [ge] at h5 h6
  obtain ⟨y1, y2, rfl, hy1⟩ : ∃ y1 y2, y = y1 ++ y2 ∧ y1.length = t - (p.length + 1) := ⟨y.take (t - (p.length + 1)), y.drop (t - (p.length + 1)), (List.take_append_drop _ _).symm, by rw [List.length_take]; omega⟩
  rw [List.length_append] at hl h3 h1
  clear hlen
  have hL : ∀ a ∈ y1, ltS a e = true := by
    rcases snoc_or y1 with rfl | ⟨w, c, rfl⟩
    · simp
    · rw [List.length_append, List.length_singleton] at hy1
      refine low_of hs.left ?_
      rcases h5 with h5 | h5
      · omega
      · have : p ++ (e :: ((w ++ [c] ++ y2) ++ s)) = (p ++ (e :: w)) ++ c :: (y2 ++ s) := by simp
        rw [this, getD_at _ _ _ _ (by simp; omega)] at h5
        exact h5
  have hH : ∀ a ∈ y2, ltS a e = false := by
    cases y2 with
    | nil => simp
    | cons c w =>
      rw [List.length_cons] at h3 hl
      refine high_of hs.right ?_
      rcases h6 with h6 | h6
      · simp at h6; omega
      · have : p ++ (e :: ((y1 ++ c :: w) ++ s)) = (p ++ (e :: y1)) ++ c :: (w ++ s) := by simp
        rw [this, getD_at _ _ _ _ (by simp; omega)] at h6
        exact h6
  obtain ⟨i1, i2⟩ := insert_front swS hs hL hH
  refine ⟨_, i1, i2, ?_⟩
  have := l1_moves p (y2 ++ s) e y1 [] k' (by simp; omega) (by omega)
  simp only [List.length_nil, Nat.add_zero, List.nil_append] at this
  rw [show t = p.length + y1.length + 1 by omega, show p ++ (e :: (y1 ++ y2 ++ s)) = p ++ (e :: (y1 ++ (y2 ++ s))) by simp, this]
  simp
theorem symB {p s x : List S28} {e : S28} {k : Nat} (hs : Srt ltS x) (hl : p.length + 1 + x.length + s.length ≤ 1000) (hk : 3000 ≤ k) :
    ∃ z, Srt ltS z ∧ Same ltS (x ++ [e]) z ∧ api_Span_52.l2 k (p ++ (x ++ (e :: s))) ((p.length + x.length : Nat) : Int) ((p.length : Nat) : Int) ((p.length + x.length : Nat) : Int) = some (p ++ (z ++ s)) := by
  have hlen : (p ++ (x ++ (e :: s))).length = p.length + 1 + x.length + s.length := by simp; omega
  obtain ⟨k', t, h1, h2, h3, h4, h5, h6⟩ := l2_tells (p ++ (x ++ (e :: s))) (p.length + x.length) (by omega) (by omega) x.length k p.length (p.length + x.length) (by omega) (by omega) (by omega) (by omega)
  rw [h4]
  have ge : (p ++ (x ++ (e :: s))).getD (p.length + x.length) z28 = e := by
    have : p ++ (x ++ (e :: s)) = (p ++ x) ++ e :: s := by simp
    rw [this]; exact getD_at _ _ _ _ (by simp)
  rw [ge] at h5 h6
  obtain ⟨x1, x2, rfl, hx1⟩ : ∃ x1 x2, x = x1 ++ x2 ∧ x1.length = t - p.length := ⟨x.take (t - p.length), x.drop (t - p.length), (List.take_append_drop _ _).symm, by rw [List.length_take]; omega⟩
  rw [List.length_append] at hl h3 h1
  clear hlen
  have hL : ∀ a ∈ x1, ltS e a = false := by
    rcases snoc_or x1 with rfl | ⟨w, c, rfl⟩
    · simp
    · rw [List.length_append, List.length_singleton] at hx1
      refine low_of' hs.left ?_
      rcases h5 with h5 | h5
      · omega
      · have : p ++ ((w ++ [c] ++ x2) ++ (e :: s)) = (p ++ w) ++ c :: (x2 ++ (e :: s)) := by simp
        rw [this, getD_at _ _ _ _ (by simp; omega)] at h5
        exact h5
  have hH : ∀ a ∈ x2, ltS e a = true := by
    cases x2 with
    | nil => simp
    | cons c w =>
      rw [List.length_cons] at h3 hl
      refine high_of' hs.right ?_
      rcases h6 with h6 | h6
      · simp at h6; omega
      · have : p ++ ((x1 ++ c :: w) ++ (e :: s)) = (p ++ x1) ++ c :: (w ++ (e :: s)) := by simp
        rw [this, getD_at _ _ _ _ (by simp; omega)] at h6
        exact h6
  obtain ⟨i1, i2⟩ := insert_ok swS hs hL hH
  refine ⟨_, i1, i2, ?_⟩
  have := l3_moves (p ++ x1) e x2.length x2 s k' rfl (by rw [List.length_append]; omega) (by omega)
  rw [List.length_append] at this
  rw [show t = p.length + x1.length by omega, List.length_append, show p.length + (x1.length + x2.length) = p.length + x1.length + x2.length by omega, show p ++ (x1 ++ x2 ++ (e :: s)) = p ++ x1 ++ (x2 ++ (e :: s)) by simp, this]
  simp
def gu (n : Nat) : Nat := 4000 + 1100 * n
theorem gu_succ (n : Nat) : gu (n + 1) = gu n + 1100 := by unfold gu; omega
theorem gu_le {a b : Nat} (h : a ≤ b) : gu a ≤ gu b := Nat.add_le_add_left (Nat.mul_le_mul_left _ h) _
theorem gu_ge (n : Nat) : 4000 ≤ gu n := Nat.le_add_right _ _
set_option maxHeartbeats 4000000 in
theorem sym (n : Nat) : ∀ (p x y s : List S28) (k : Nat), x.length + y.length ≤ n → x ≠ [] → y ≠ [] → Srt ltS x → Srt ltS y → p.length + x.length + y.length + s.length ≤ 1000 → gu n ≤ k →
    ∃ z, Srt ltS z ∧ Same ltS (x ++ y) z ∧ api_Span_52.f k (p ++ (x ++ (y ++ s))) (p.length : Nat) ((p.length + x.length : Nat) : Int) ((p.length + x.length + y.length : Nat) : Int) = some (p ++ (z ++ s)) := by
  induction n with
  | zero => intro p x y s k h hx; exact absurd (List.eq_nil_of_length_eq_zero (by omega)) hx
  | succ n ih =>
    intro p x y s k hn hx hy hsx hsy hl hk
    rw [gu_succ] at hk
    have hg := gu_ge n
    obtain ⟨k, rfl⟩ : ∃ m, k = m + 1 := ⟨k - 1, by omega⟩
    have hx1 := List.length_pos_iff.2 hx
    have hy1 := List.length_pos_iff.2 hy
    rw [api_Span_52.f, wsub (by omega) (by omega), wsub (by omega) (by omega), show p.length + x.length - p.length = x.length by omega, show p.length + x.length + y.length - (p.length + x.length) = y.length by omega]
    by_cases hA : x.length = 1
    · rw [if_pos (by omega)]
      obtain ⟨e, rfl⟩ := List.length_eq_one_iff.1 hA
      obtain ⟨z, z1, z2, z3⟩ := symA (p := p) (s := s) (e := e) (k := k) hsy (by simp at hl; omega) (by omega)
      exact ⟨z, z1, by simpa using z2, z3⟩
    rw [if_neg (by omega)]
    by_cases hB : y.length = 1
    · rw [if_pos (by omega)]
      obtain ⟨e, rfl⟩ := List.length_eq_one_iff.1 hB
      obtain ⟨z, z1, z2, z3⟩ := symB (p := p) (s := s) (e := e) (k := k) hsx (by simp at hl; omega) (by omega)
      exact ⟨z, z1, z2, by simpa using z3⟩
    rw [if_neg (by omega), uhalf (by omega) (by omega)]
    obtain ⟨mid, hmid⟩ : ∃ mid, (p.length + (p.length + x.length + y.length)) / 2 = mid := ⟨_, rfl⟩
    rw [hmid]
    obtain ⟨a, ha⟩ : ∃ a, p.length = a := ⟨_, rfl⟩
    obtain ⟨m, hm⟩ : ∃ m, p.length + x.length = m := ⟨_, rfl⟩
    obtain ⟨b, hb⟩ : ∃ b, p.length + x.length + y.length = b := ⟨_, rfl⟩
    have hmid2 : a + b = 2 * mid ∨ a + b = 2 * mid + 1 := by omega
    have hab : a + 2 ≤ b := by omega
    have hlen : (p ++ (x ++ (y ++ s))).length ≤ 1000 ∧ b ≤ (p ++ (x ++ (y ++ s))).length := by
      simp only [List.length_append]; omega
    have start : ∃ st r : Nat, a ≤ st ∧ st ≤ r ∧ r ≤ m ∧ r ≤ mid ∧ mid + m ≤ b + st ∧ (r = m ∨ r = mid) ∧ (st = a ∨ st + b = mid + m) ∧
        (if ((p.length + x.length : Nat) : Int) > (mid : Int) then api_Span_52.j4 k (p ++ (x ++ (y ++ s))) (p.length : Nat) ((p.length + x.length : Nat) : Int) ((p.length + x.length + y.length : Nat) : Int) mid (wrap64 ((mid : Int) + ((p.length + x.length : Nat) : Int))) (wrap64 ((wrap64 ((mid : Int) + ((p.length + x.length : Nat) : Int))) - ((p.length + x.length + y.length : Nat) : Int))) mid else api_Span_52.j4 k (p ++ (x ++ (y ++ s))) (p.length : Nat) ((p.length + x.length : Nat) : Int) ((p.length + x.length + y.length : Nat) : Int) mid (wrap64 ((mid : Int) + ((p.length + x.length : Nat) : Int))) (p.length : Nat) ((p.length + x.length : Nat) : Int)) =
          api_Span_52.j4 k (p ++ (x ++ (y ++ s))) a m b mid ((mid + m : Nat) : Int) st r := by
      rw [hb, hm, ha, wadd (by omega) (by omega)]
      by_cases h : m > mid
      · rw [if_pos (by omega), wsub (by omega) (by omega)]
        exact ⟨mid + m - b, mid, by omega, by omega, by omega, by omega, by omega, .inr rfl, .inr (by omega), rfl⟩
      · rw [if_neg (by omega)]
        exact ⟨a, m, by omega, by omega, by omega, by omega, by omega, .inl rfl, .inl rfl, rfl⟩
    obtain ⟨st, r, s1, s2, s3, s4, s5, s6, s7, hst⟩ := start
    rw [hst]
    obtain ⟨k, rfl⟩ : ∃ q, k = q + 1 := ⟨k - 1, by omega⟩
    rw [api_Span_52.j4, wsub1 (by omega) (by omega)]
    obtain ⟨k', t, h1, h2, h3, h4, h5, h6⟩ := l4_tells (p ++ (x ++ (y ++ s))) a m b mid (mid + m) (mid + m - 1) hlen.1 (by omega) (by omega) 1000 k st r (by omega) s2 (fun c c1 c2 => ⟨by omega, by omega, by omega⟩) (by omega) (by omega)
    rw [h4]
    obtain ⟨x1, x2, rfl, hx1l⟩ : ∃ x1 x2, x = x1 ++ x2 ∧ x1.length = t - a := ⟨x.take (t - a), x.drop (t - a), (List.take_append_drop _ _).symm, by rw [List.length_take]; omega⟩
    obtain ⟨y1, y2, rfl, hy1l⟩ : ∃ y1 y2, y = y1 ++ y2 ∧ y1.length = mid - t := ⟨y.take (mid - t), y.drop (mid - t), (List.take_append_drop _ _).symm, by rw [List.length_take]; omega⟩
    rw [List.length_append] at hm hb hn hl hx1
    rw [List.length_append] at hb hn hl hy1
    have hend : mid + m - t = m + y1.length := by omega
    -- the places of the four rows' ends
    have c1 : ∀ u ∈ x1, ∀ v ∈ y2, ltS v u = false := by
      rcases snoc_or x1 with rfl | ⟨w, c, rfl⟩
      · simp
      · cases y2 with
        | nil => simp
        | cons d w2 =>
          rw [List.length_append, List.length_singleton] at hx1l
          rw [List.length_cons] at hb hn hl
          have hdc : ltS d c = false := by
            rcases h5 with h5 | h5
            · rw [List.length_append, List.length_singleton] at hm hb
              rcases s7 with s7 | s7 <;> omega
            · have g1 : p ++ ((w ++ [c] ++ x2) ++ ((y1 ++ d :: w2) ++ s)) = (p ++ w) ++ c :: (x2 ++ ((y1 ++ d :: w2) ++ s)) := by simp
              have g2 : p ++ ((w ++ [c] ++ x2) ++ ((y1 ++ d :: w2) ++ s)) = (p ++ (w ++ [c] ++ x2) ++ y1) ++ d :: (w2 ++ s) := by simp
              rw [List.length_append, List.length_singleton] at hm
              have e1 : (p ++ ((w ++ [c] ++ x2) ++ ((y1 ++ d :: w2) ++ s))).getD (t - 1) z28 = c := by rw [g1]; exact getD_at _ _ _ _ (by simp; omega)
              have e2 : (p ++ ((w ++ [c] ++ x2) ++ ((y1 ++ d :: w2) ++ s))).getD (mid + m - 1 - (t - 1)) z28 = d := by rw [g2]; exact getD_at _ _ _ _ (by simp; omega)
              rw [e1, e2] at h5
              exact h5
          intro u hu v hv
          have := low_of' hsx.left (high_of hsy.right hdc v hv) u hu
          exact this
    have c2 : ∀ u ∈ x2, ∀ v ∈ y1, ltS v u = true := by
      rcases snoc_or y1 with rfl | ⟨w, d, rfl⟩
      · simp
      · cases x2 with
        | nil => simp
        | cons c w2 =>
          rw [List.length_append, List.length_singleton] at hy1l
          rw [List.length_cons] at hm hb hn hl
          have hdc : ltS d c = true := by
            rcases h6 with h6 | h6
            · rcases s6 with s6 | s6 <;> omega
            · have g1 : p ++ ((x1 ++ c :: w2) ++ ((w ++ [d] ++ y2) ++ s)) = (p ++ x1) ++ c :: (w2 ++ ((w ++ [d] ++ y2) ++ s)) := by simp
              have g2 : p ++ ((x1 ++ c :: w2) ++ ((w ++ [d] ++ y2) ++ s)) = (p ++ (x1 ++ c :: w2) ++ w) ++ d :: (y2 ++ s) := by simp
              have e1 : (p ++ ((x1 ++ c :: w2) ++ ((w ++ [d] ++ y2) ++ s))).getD t z28 = c := by rw [g1]; exact getD_at _ _ _ _ (by simp; omega)
              have e2 : (p ++ ((x1 ++ c :: w2) ++ ((w ++ [d] ++ y2) ++ s))).getD (mid + m - 1 - t) z28 = d := by rw [g2]; exact getD_at _ _ _ _ (by simp; omega)
              rw [e1, e2] at h6
              exact h6
          intro u hu v hv
          exact low_of hsy.left (high_of' hsx.right hdc u hu) v hv
    -- behind the rotation
    have j7 : ∃ k2, k' ≤ k2 + 1 ∧ (if t < m then api_Span_52.j6 k' (p ++ ((x1 ++ x2) ++ ((y1 ++ y2) ++ s))) a m b mid t ((mid + m - t : Nat) : Int) (decide ((m : Int) < ((mid + m - t : Nat) : Int))) else api_Span_52.j6 k' (p ++ ((x1 ++ x2) ++ ((y1 ++ y2) ++ s))) a m b mid t ((mid + m - t : Nat) : Int) false) =
        api_Span_52.j7 k2 (p ++ (x1 ++ (y1 ++ (x2 ++ (y2 ++ s))))) a b mid t ((mid + m - t : Nat) : Int) := by
      obtain ⟨k2, rfl⟩ : ∃ q, k' = q + 1 := ⟨k' - 1, by omega⟩
      refine ⟨k2, by omega, ?_⟩
      by_cases h : t < m
      · rw [if_pos h]
        by_cases h' : m < mid + m - t
        · rw [decide_eq_true (by omega), api_Span_52.j6, if_pos rfl]
          have := rot_f (p := p ++ x1) (u := x2) (v := y1) (s := y2 ++ s) (k := k2) (fun e => by rw [e] at hm; simp at hm; omega) (fun e => by rw [e] at hy1l; simp at hy1l; omega) (by simp only [List.length_append]; omega) (by omega)
          rw [List.length_append, show p.length + x1.length = t by omega, show t + x2.length = m by omega, show m + y1.length = mid + m - t by omega] at this
          rw [show p ++ (x1 ++ x2 ++ (y1 ++ y2 ++ s)) = p ++ x1 ++ (x2 ++ (y1 ++ (y2 ++ s))) by simp, this]
          simp only [Option.bind_some, List.append_assoc]
        · rw [decide_eq_false (by omega), api_Span_52.j6, if_neg (by decide)]
          obtain rfl : y1 = [] := List.eq_nil_of_length_eq_zero (by omega)
          simp
      · rw [if_neg h, api_Span_52.j6, if_neg (by decide)]
        obtain rfl : x2 = [] := List.eq_nil_of_length_eq_zero (by omega)
        simp
    obtain ⟨k2, hk2, hj7⟩ := j7
    rw [hj7]
    have j8 : ∃ z1, Srt ltS z1 ∧ Same ltS (x1 ++ y1) z1 ∧ ∃ k3, k2 ≤ k3 + 2 ∧ api_Span_52.j7 k2 (p ++ (x1 ++ (y1 ++ (x2 ++ (y2 ++ s))))) a b mid t ((mid + m - t : Nat) : Int) =
        (if (mid : Int) < ((mid + m - t : Nat) : Int) then (if ((mid + m - t : Nat) : Int) < (b : Int) then ((api_Span_52.f k3 (p ++ (z1 ++ (x2 ++ (y2 ++ s)))) mid ((mid + m - t : Nat) : Int) b).bind fun t145 => (some t145)) else (some (p ++ (z1 ++ (x2 ++ (y2 ++ s)))))) else (some (p ++ (z1 ++ (x2 ++ (y2 ++ s)))))) := by
      obtain ⟨k3, rfl⟩ : ∃ q, k2 = q + 1 + 1 := ⟨k2 - 2, by omega⟩
      by_cases h : a < t ∧ t < mid
      · obtain ⟨z1, i1, i2, i3⟩ := ih p x1 y1 (x2 ++ (y2 ++ s)) k3 (by omega) (fun e => by rw [e] at hx1l; simp at hx1l; omega) (fun e => by rw [e] at hy1l; simp at hy1l; omega) hsx.left hsy.left (by simp only [List.length_append]; omega) (by omega)
        rw [ha, show a + x1.length = t by omega, show t + y1.length = mid by omega] at i3
        refine ⟨z1, i1, i2, k3, by omega, ?_⟩
        rw [api_Span_52.j7, if_pos (by omega), decide_eq_true (by omega), api_Span_52.j8, if_pos rfl, i3]
        simp only [Option.bind_some]
      · have hnil : x1 = [] ∨ y1 = [] := by
          rcases Nat.lt_or_ge a t with h' | h'
          · exact .inr (List.eq_nil_of_length_eq_zero (by omega))
          · exact .inl (List.eq_nil_of_length_eq_zero (by omega))
        have hz : Srt ltS (x1 ++ y1) := by
          rcases hnil with rfl | rfl
          · simpa using hsy.left
          · simpa using hsx.left
        refine ⟨x1 ++ y1, hz, Same.refl _, k3, by omega, ?_⟩
        rw [api_Span_52.j7]
        have hj : api_Span_52.j8 (k3 + 1) (p ++ (x1 ++ (y1 ++ (x2 ++ (y2 ++ s))))) a b mid t ((mid + m - t : Nat) : Int) false = (if (mid : Int) < ((mid + m - t : Nat) : Int) then (if ((mid + m - t : Nat) : Int) < (b : Int) then ((api_Span_52.f k3 (p ++ (x1 ++ y1 ++ (x2 ++ (y2 ++ s)))) mid ((mid + m - t : Nat) : Int) b).bind fun t145 => (some t145)) else (some (p ++ (x1 ++ y1 ++ (x2 ++ (y2 ++ s)))))) else (some (p ++ (x1 ++ y1 ++ (x2 ++ (y2 ++ s)))))) := by
          rw [api_Span_52.j8, if_neg (by decide)]
          simp only [List.append_assoc]
        by_cases h' : a < t
        · rw [if_pos (by omega), decide_eq_false (by omega)]
          exact hj
        · rw [if_neg (by omega)]
          exact hj
    obtain ⟨z1, i1, i2, k3, hk3, hj8⟩ := j8
    rw [hj8]
    have hz1 := i2.1
    rw [List.length_append] at hz1
    have key : ∃ z2, Srt ltS z2 ∧ Same ltS (x2 ++ y2) z2 ∧ (if (mid : Int) < ((mid + m - t : Nat) : Int) then (if ((mid + m - t : Nat) : Int) < (b : Int) then ((api_Span_52.f k3 (p ++ (z1 ++ (x2 ++ (y2 ++ s)))) mid ((mid + m - t : Nat) : Int) b).bind fun t145 => (some t145)) else (some (p ++ (z1 ++ (x2 ++ (y2 ++ s)))))) else (some (p ++ (z1 ++ (x2 ++ (y2 ++ s)))))) = some (p ++ (z1 ++ (z2 ++ s))) := by
      by_cases h : mid < mid + m - t ∧ mid + m - t < b
      · obtain ⟨z2, q1, q2, q3⟩ := ih (p ++ z1) x2 y2 s k3 (by omega) (fun e => by rw [e] at hm; simp at hm; omega) (fun e => by rw [e] at hb; simp at hb; omega) hsx.right hsy.right (by simp only [List.length_append]; omega) (by omega)
        rw [List.length_append, show p.length + z1.length = mid by omega, show mid + x2.length = mid + m - t by omega, show mid + m - t + y2.length = b by omega] at q3
        refine ⟨z2, q1, q2, ?_⟩
        rw [if_pos (by omega), if_pos (by omega), show p ++ (z1 ++ (x2 ++ (y2 ++ s))) = p ++ z1 ++ (x2 ++ (y2 ++ s)) by simp, q3]
        simp
      · have hnil : x2 = [] ∨ y2 = [] := by
          rcases Nat.lt_or_ge mid (mid + m - t) with h' | h'
          · exact .inr (List.eq_nil_of_length_eq_zero (by omega))
          · exact .inl (List.eq_nil_of_length_eq_zero (by omega))
        have hz : Srt ltS (x2 ++ y2) := by
          rcases hnil with rfl | rfl
          · simpa using hsy.right
          · simpa using hsx.right
        refine ⟨x2 ++ y2, hz, Same.refl _, ?_⟩
        by_cases h' : mid < mid + m - t
        · rw [if_pos (by omega), if_neg (by omega)]; simp
        · rw [if_neg (by omega)]; simp
    obtain ⟨z2, q1, q2, q3⟩ := key
    rw [q3]
    obtain ⟨f1, f2⟩ := merge_ok swS hsx hsy c2 c1 i1 i2 q1 q2
    exact ⟨z1 ++ z2, f1, f2, by simp⟩
/-! ### the whole -/
inductive Ch (bs : Nat) : List S28 → Prop
  | last (l : List S28) : l.length ≤ bs → Srt ltS l → Ch bs l
  | more (x l : List S28) : x.length = bs → Srt ltS x → Ch bs l → Ch bs (x ++ l)
theorem Ch.srt {bs : Nat} {l : List S28} (h : Ch bs l) (hl : l.length ≤ bs) (hb : 1 ≤ bs) : Srt ltS l := by
  cases h with
  | last l h1 h2 => exact h2
  | more x l h1 h2 h3 =>
    rw [List.length_append] at hl
    obtain rfl : l = [] := List.eq_nil_of_length_eq_zero (by omega)
    simpa using h2
theorem l2_ok (N bs : Nat) (hb : 1 ≤ bs) (hbN : bs ≤ 1000) (hN : N ≤ 1000) (d : Nat) : ∀ (rest p : List S28) (k : Nat), rest.length ≤ d → Ch bs rest → p.length + rest.length = N → gu N + d + 3 ≤ k →
    ∃ k' z, k ≤ k' + d + 1 ∧ Ch (2 * bs) z ∧ Same ltS rest z ∧ api_Span_49.l2 k (p ++ rest) N bs (p.length : Nat) ((p.length + 2 * bs : Nat) : Int) = api_Span_49.l1 k' (p ++ z) N ((2 * bs : Nat) : Int) := by
  induction d with
  | zero =>
    intro rest p k hd hc hp hk
    obtain rfl := List.eq_nil_of_length_eq_zero (Nat.le_zero.1 hd)
    obtain ⟨k, rfl⟩ : ∃ q, k = q + 1 := ⟨k - 1, by omega⟩
    refine ⟨k, [], by omega, .last [] (by simp) List.Pairwise.nil, Same.refl _, ?_⟩
    rw [List.length_nil] at hp
    rw [api_Span_49.l2, if_neg (by omega), wadd (by omega) (by omega), if_neg (by omega), show wrap64 ((bs : Int) * 2) = ((2 * bs : Nat) : Int) by rw [wsm (by omega) (by omega)]; omega]
  | succ d ih =>
    intro rest p k hd hc hp hk
    have hg := gu_ge N
    obtain ⟨k, rfl⟩ : ∃ q, k = q + 1 := ⟨k - 1, by omega⟩
    have e2 : wrap64 ((bs : Int) * 2) = ((2 * bs : Nat) : Int) := by rw [wsm (by omega) (by omega)]; omega
    cases hc with
    | last l h1 h2 =>
      refine ⟨k, rest, by omega, .last rest (by omega) h2, Same.refl _, ?_⟩
      rw [api_Span_49.l2, if_neg (by omega), wadd (by omega) (by omega), if_neg (by omega), e2]
    | more x l h1 h2 h3 =>
      rw [List.length_append] at hd hp
      have hxn : x ≠ [] := fun e => by rw [e] at h1; simp at h1; omega
      by_cases hlb : bs ≤ l.length
      · obtain ⟨y, r, rfl, hy1, hy2, hr⟩ : ∃ y r, l = y ++ r ∧ y.length = bs ∧ Srt ltS y ∧ Ch bs r := by
          cases h3 with
          | last l g1 g2 => exact ⟨l, [], by simp, by omega, g2, .last [] (by simp) List.Pairwise.nil⟩
          | more y r g1 g2 g3 => exact ⟨y, r, rfl, g1, g2, g3⟩
        rw [List.length_append] at hd hp
        obtain ⟨z1, q1, q2, q3⟩ := sym N p x y r k (by omega) hxn (fun e => by rw [e] at hy1; simp at hy1; omega) h2 hy2 (by omega) (by omega)
        rw [h1, show p.length + bs + y.length = p.length + 2 * bs by omega] at q3
        have hz := q2.1
        rw [List.length_append] at hz
        obtain ⟨k', z, g1, g2, g3, g4⟩ := ih r (p ++ z1) k (by omega) hr (by rw [List.length_append]; omega) (by omega)
        rw [List.length_append, show p.length + z1.length = p.length + 2 * bs by omega] at g4
        refine ⟨k', z1 ++ z, by omega, .more z1 z (by omega) q1 g2, ?_, ?_⟩
        · have := q2.app g3
          simpa [List.append_assoc] using this
        · rw [api_Span_49.l2, if_pos (by omega), wadd (by omega) (by omega), q3]
          simp only [Option.bind_some]
          have e3 : wrap64 (((p.length + 2 * bs : Nat) : Int) + wrap64 (2 * (bs : Int))) = ((p.length + 2 * bs + 2 * bs : Nat) : Int) := by
            rw [wsm (x := 2 * (bs : Int)) (by omega) (by omega), wsm (by omega) (by omega)]; omega
          rw [e3]
          simp only [List.append_assoc] at g4 ⊢
          exact g4
      · have hls : Srt ltS l := by
          cases h3 with
          | last l g1 g2 => exact g2
          | more y r g1 g2 g3 => rw [List.length_append] at hlb; omega
        by_cases hl0 : l = []
        · subst hl0
          refine ⟨k, x, by omega, .last x (by omega) h2, by simpa using Same.refl x, ?_⟩
          rw [List.length_nil] at hp hd
          rw [api_Span_49.l2, if_neg (by omega), wadd (by omega) (by omega), if_neg (by omega), e2, List.append_nil]
        · have hl1 := List.length_pos_iff.2 hl0
          obtain ⟨z1, q1, q2, q3⟩ := sym N p x l [] k (by omega) hxn hl0 h2 hls (by simp; omega) (by omega)
          rw [h1, show p.length + bs + l.length = N by omega] at q3
          have hz := q2.1
          rw [List.length_append] at hz
          refine ⟨k, z1, by omega, .last z1 (by omega) q1, q2, ?_⟩
          rw [api_Span_49.l2, if_neg (by omega), wadd (by omega) (by omega), if_pos (by omega), e2]
          simp only [List.append_nil] at q3
          rw [q3]
          rfl
def hu (N d : Nat) : Nat := gu N + 1100 * (d + 1)
theorem hu_succ (N d : Nat) : hu N (d + 1) = hu N d + 1100 := by unfold hu; omega
theorem hu_ge (N d : Nat) : gu N + 1100 ≤ hu N d := by unfold hu; omega
theorem l1_ok (N : Nat) (hN : N ≤ 1000) (d : Nat) : ∀ (bs : Nat) (l : List S28) (k : Nat), 1 ≤ bs → N ≤ bs + d → l.length = N → Ch bs l → hu N d ≤ k →
    ∃ z, Srt ltS z ∧ Same ltS l z ∧ api_Span_49.l1 k l N bs = some z := by
  induction d with
  | zero =>
    intro bs l k hb hbN hl hc hk
    have := hu_ge N 0
    obtain ⟨k, rfl⟩ : ∃ q, k = q + 1 := ⟨k - 1, by omega⟩
    refine ⟨l, hc.srt (by omega) hb, Same.refl _, ?_⟩
    rw [api_Span_49.l1, if_neg (by omega)]
  | succ d ih =>
    intro bs l k hb hbN hl hc hk
    rw [hu_succ] at hk
    have := hu_ge N d
    obtain ⟨k, rfl⟩ : ∃ q, k = q + 1 := ⟨k - 1, by omega⟩
    by_cases h : bs < N
    · obtain ⟨k', z, g1, g2, g3, g4⟩ := l2_ok N bs hb (by omega) hN N l [] k (by omega) hc (by simpa using hl) (by omega)
      have hz := g3.1
      obtain ⟨z2, f1, f2, f3⟩ := ih (2 * bs) z k' (by omega) (by omega) (by omega) g2 (by omega)
      refine ⟨z2, f1, g3.trans f2, ?_⟩
      rw [api_Span_49.l1, if_pos (by omega), show wrap64 (2 * (bs : Int)) = ((2 * bs : Nat) : Int) by rw [wsm (by omega) (by omega)]; omega]
      simp only [List.length_nil, List.nil_append, Nat.zero_add] at g4
      rw [show (0 : Int) = ((0 : Nat) : Int) from rfl, g4, f3]
    · refine ⟨l, hc.srt (by omega) hb, Same.refl _, ?_⟩
      rw [api_Span_49.l1, if_neg (by omega)]
theorem l0_ok (N : Nat) (hN : N ≤ 1000) (d : Nat) : ∀ (rest p : List S28) (k : Nat), rest.length ≤ d → p.length + rest.length = N → hu N 1000 + fu 30 + d + 1 ≤ k →
    ∃ k' z, hu N 1000 ≤ k' ∧ Ch 20 z ∧ Same ltS rest z ∧ api_Span_49.l0 k (p ++ rest) N 20 (p.length : Nat) ((p.length + 20 : Nat) : Int) = api_Span_49.l1 k' (p ++ z) N 20 := by
  have stop : ∀ (rest p : List S28) (k : Nat), rest.length < 20 → p.length + rest.length = N → hu N 1000 + fu 30 ≤ k → ∃ k' z, hu N 1000 ≤ k' ∧ Ch 20 z ∧ Same ltS rest z ∧ api_Span_49.l0 (k + 1) (p ++ rest) N 20 (p.length : Nat) ((p.length + 20 : Nat) : Int) = api_Span_49.l1 k' (p ++ z) N 20 := by
    intro rest p k hr hp hk
    obtain ⟨z, q1, q2, q3⟩ := ins_f (p := p) (x := rest) (s := []) (k := k) (by simp; omega) (Nat.le_trans (fu_le (show rest.length + 1 ≤ 30 by omega)) (by omega))
    rw [hp] at q3
    simp only [List.append_nil] at q3
    refine ⟨k, z, by omega, .last z (by rw [q2.1]; omega) q1, q2, ?_⟩
    rw [api_Span_49.l0, if_neg (by omega), q3]
    rfl
  induction d with
  | zero =>
    intro rest p k hd hp hk
    obtain ⟨k, rfl⟩ : ∃ q, k = q + 1 := ⟨k - 1, by omega⟩
    exact stop rest p k (by omega) hp (by omega)
  | succ d ih =>
    intro rest p k hd hp hk
    obtain ⟨k, rfl⟩ : ∃ q, k = q + 1 := ⟨k - 1, by omega⟩
    by_cases h : rest.length < 20
    · exact stop rest p k h hp (by omega)
    · obtain ⟨x, r, rfl, hx⟩ : ∃ x r, rest = x ++ r ∧ x.length = 20 := ⟨rest.take 20, rest.drop 20, (List.take_append_drop _ _).symm, by rw [List.length_take]; omega⟩
      rw [List.length_append] at hd hp
      obtain ⟨z1, q1, q2, q3⟩ := ins_f (p := p) (x := x) (s := r) (k := k) (by omega) (Nat.le_trans (fu_le (show x.length + 1 ≤ 30 by omega)) (by omega))
      rw [hx] at q3
      have hz := q2.1
      obtain ⟨k', z, g1, g2, g3, g4⟩ := ih r (p ++ z1) k (by omega) (by rw [List.length_append]; omega) (by omega)
      rw [List.length_append, show p.length + z1.length = p.length + 20 by omega] at g4
      refine ⟨k', z1 ++ z, g1, .more z1 z (by omega) q1 g2, q2.app g3, ?_⟩
      rw [api_Span_49.l0, if_pos (by omega), q3]
      simp only [Option.bind_some]
      have e3 : wrap64 (((p.length + 20 : Nat) : Int) + 20) = ((p.length + 20 + 20 : Nat) : Int) := by rw [wsm (by omega) (by omega)]; omega
      rw [e3]
      simp only [List.append_assoc] at g4 ⊢
      exact g4
def KS (N : Nat) : Nat := hu N 1000 + fu 30 + N + 1
theorem stable_ok (l : List S28) (hl : l.length ≤ 1000) {k : Nat} (hk : KS l.length ≤ k) : ∃ z, Srt ltS z ∧ Same ltS l z ∧ api_Span_42.f k l = some z := by
  obtain ⟨k', z, h1, h2, h3, h4⟩ := l0_ok l.length hl l.length l [] k (Nat.le_refl _) (by simp) hk
  have hz := h3.1
  obtain ⟨z2, g1, g2, g3⟩ := l1_ok l.length hl 1000 20 z k' (by omega) (by omega) hz h2 h1
  refine ⟨z2, g1, h3.trans g2, ?_⟩
  unfold api_Span_42.f api_Span_49.f
  simp only [List.length_nil, List.nil_append, Nat.zero_add] at h4
  rw [show (0 : Int) = ((0 : Nat) : Int) from rfl, show (20 : Int) = ((20 : Nat) : Int) from rfl] at *
  rw [h4, g3]
  rfl
end Go.Proofs.Ytigcdbeaachkoaa.PAll
