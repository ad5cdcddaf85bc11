/-
  The plain law of the stable sort of spans: what is sorted rises, and what is alike stands in its order.
  Conditions: at most a thousand elements.
-/
import Derived.Test.YtigcdbeaachkoaaStableCore
import Derived.Test.YtigcdbeaachkoaaPAllx3
import Derived.Test.YtigcdbeaachkoaaPAllx5
import Derived.Test.YtigcdbeaachkoaaPAllx6
namespace Go.Proofs.Ytigcdbeaachkoaa.PAll
open Go.RowKit Go.Proofs.YtigcdbeaachkoaaW.PrintWords Go.Proofs.YtigcdbeaachkoaaW.PrintLast Go.Proofs.YtigcdbeaachkoaaW.PrintMore
open Go.Proofs.Ytigcdbeaachkoaa.Stable
set_option linter.unusedVariables false
set_option linter.unusedSimpArgs false
theorem scmp_eq (a b : Int) : cmp_Compare_uint64.f a b = some (if a < b then -1 else if a > b then 1 else 0) := by
  unfold cmp_Compare_uint64.f cmp_isNaN_uint64.f
  have e : ∀ x : Int, (x != x) = false := fun x => by simp
  rw [e, e]
  simp only [Option.bind_some]
  rw [if_neg (by decide), if_neg (by decide)]
  split
  · rfl
  · split <;> rfl
theorem sori_eq {x y : Int} {k : Nat} (hk : 3 ≤ k) : cmp_Or_int.f k [x, y] = some (if x = 0 then y else x) := by
  obtain ⟨k, rfl⟩ : ∃ j, k = j + 1 + 1 + 1 := ⟨k - 3, by omega⟩
  have w0 : wrap64 (0 + 1) = 1 := by unfold wrap64; omega
  have w1 : wrap64 (1 + 1) = 2 := by unfold wrap64; omega
  unfold cmp_Or_int.f
  rw [cmp_Or_int.l0, if_pos (by simp), if_pos (by omega), if_pos (by simp), w0]
  have r0 : rd [x, y] 0 = x := rfl
  have r1 : rd [x, y] 1 = y := rfl
  rw [r0]
  by_cases hx : x = 0
  · rw [if_pos hx, if_pos hx, cmp_Or_int.l0, if_pos (by simp), if_pos (by omega), if_pos (by simp), w1, r1]
    by_cases hy : y = 0
    · rw [if_pos hy, cmp_Or_int.l0, if_neg (by simp), hy]
    · rw [if_neg hy]
  · rw [if_neg hx, if_neg hx]
def ordS (a b : S28) : Int := if (if a.f3 < b.f3 then (-1 : Int) else if a.f3 > b.f3 then 1 else 0) = 0 then (if a.f1 < b.f1 then (-1 : Int) else if a.f1 > b.f1 then 1 else 0) else (if a.f3 < b.f3 then (-1 : Int) else if a.f3 > b.f3 then 1 else 0)
def ltS (a b : S28) : Bool := decide (a.f3 < b.f3 ∨ (a.f3 = b.f3 ∧ a.f1 < b.f1))
theorem sord_eq (a b : S28) {k : Nat} (hk : 3 ≤ k) : span_order.f k a.f0 a.f1 a.f2 a.f3 a.f4 a.f5 a.f6 a.f7 b.f0 b.f1 b.f2 b.f3 b.f4 b.f5 b.f6 b.f7 = some (ordS a b) := by
  unfold span_order.f
  rw [scmp_eq, scmp_eq]
  simp only [Option.bind_some]
  rw [sori_eq hk]
  rfl
theorem ord_lt (a b : S28) : ordS a b < 0 ↔ ltS a b = true := by
  unfold ordS ltS
  rw [decide_eq_true_eq]
  split <;> split <;> (try split) <;> omega
theorem swS : SW ltS where
  irr a := by unfold ltS; rw [decide_eq_false_iff_not]; omega
  asy a b h := by unfold ltS at *; rw [decide_eq_true_eq] at h; rw [decide_eq_false_iff_not]; omega
  neg a b c h1 h2 := by unfold ltS at *; rw [decide_eq_false_iff_not] at *; omega
theorem wsm {x : Int} (h0 : -1000000 ≤ x) (h1 : x ≤ 1000000) : wrap64 x = x := by unfold wrap64; omega
theorem uhalf {a b : Nat} (ha : a ≤ 10000) (hb : b ≤ 10000) : wrap64 ((IntKind.u64.wrap (wrap64 ((a : Int) + b))) / 2) = (((a + b) / 2 : Nat) : Int) := by
  rw [wsm (x := (a : Int) + b) (by omega) (by omega)]
  have : IntKind.u64.wrap ((a : Int) + b) = (a : Int) + b := by simp [IntKind.wrap, IntKind.bits, IntKind.signed]; omega
  rw [this, wsm (by omega) (by omega)]
  omega
/-! ### swapRange -/
theorem r54_step {k : Nat} {x0 : List S28} {a b n i : Nat} (hi : i < n) (hb : b + i < x0.length) (ha : a + i < x0.length) (hl : x0.length ≤ 1000) :
    api_Span_54.l0 (k + 1) x0 a b n i = api_Span_54.l0 k ((x0.set (a + i) (x0.getD (b + i) z28)).set (b + i) (x0.getD (a + i) z28)) a b n ((i + 1 : Nat) : Int) := by
  have e1 : wrap64 ((b : Int) + i) = ((b + i : Nat) : Int) := by rw [wsm (by omega) (by omega)]; omega
  have e2 : wrap64 ((a : Int) + i) = ((a + i : Nat) : Int) := by rw [wsm (by omega) (by omega)]; omega
  have e3 : wrap64 ((i : Int) + 1) = ((i + 1 : Nat) : Int) := by rw [wsm (by omega) (by omega)]; omega
  rw [api_Span_54.l0, if_pos (by omega), e1, e2, e3, if_pos (by omega), if_pos (by omega), if_pos (by omega), if_pos (by omega)]
  rfl
theorem swapR (p u v w s : List S28) (n : Nat) (hu : u.length = n) (hw : w.length = n) (hl : p.length + n + v.length + n + s.length ≤ 1000) (d : Nat) : ∀ (k i : Nat), i + d = n → d < k →
    api_Span_54.l0 k (p ++ (w.take i ++ (u.drop i ++ (v ++ (u.take i ++ (w.drop i ++ s)))))) (p.length : Nat) ((p.length + n + v.length : Nat) : Int) n i = some (p ++ (w ++ (v ++ (u ++ s)))) := by
  induction d with
  | zero =>
    intro k i hi hk
    obtain ⟨k, rfl⟩ : ∃ m, k = m + 1 := ⟨k - 1, by omega⟩
    obtain rfl : i = n := by omega
    rw [api_Span_54.l0, if_neg (by omega), List.take_of_length_le (by omega), List.drop_of_length_le (by omega), List.take_of_length_le (by omega), List.drop_of_length_le (by omega)]
    simp
  | succ d ih =>
    intro k i hi hk
    obtain ⟨k, rfl⟩ : ∃ m, k = m + 1 := ⟨k - 1, by omega⟩
    have hiu : i < u.length := by omega
    have hiw : i < w.length := by omega
    obtain ⟨a, hda, hta⟩ : ∃ a, u.drop i = a :: u.drop (i + 1) ∧ u.take (i + 1) = u.take i ++ [a] := ⟨u[i], List.drop_eq_getElem_cons hiu, List.take_succ_eq_append_getElem hiu⟩
    obtain ⟨b, hdb, htb⟩ : ∃ b, w.drop i = b :: w.drop (i + 1) ∧ w.take (i + 1) = w.take i ++ [b] := ⟨w[i], List.drop_eq_getElem_cons hiw, List.take_succ_eq_append_getElem hiw⟩
    have hx : p ++ (w.take i ++ (u.drop i ++ (v ++ (u.take i ++ (w.drop i ++ s))))) = (p ++ w.take i) ++ a :: ((u.drop (i + 1) ++ (v ++ u.take i)) ++ b :: (w.drop (i + 1) ++ s)) := by
      rw [hda, hdb]; simp only [List.append_assoc, List.cons_append]
    have hA : p.length + i = (p ++ w.take i).length := by rw [List.length_append, List.length_take]; omega
    have hB : p.length + n + v.length + i = (p ++ w.take i).length + 1 + (u.drop (i + 1) ++ (v ++ u.take i)).length := by
      simp only [List.length_append, List.length_take, List.length_drop]; omega
    have hlen : ((p ++ w.take i) ++ a :: ((u.drop (i + 1) ++ (v ++ u.take i)) ++ b :: (w.drop (i + 1) ++ s))).length = p.length + n + v.length + n + s.length := by
      simp only [List.length_append, List.length_take, List.length_drop, List.length_cons]; omega
    rw [hx, r54_step (by omega) (by rw [hlen]; omega) (by rw [hlen]; omega) (by rw [hlen]; omega), getD_at _ _ _ _ hA]
    have e2 : ((p ++ w.take i) ++ a :: ((u.drop (i + 1) ++ (v ++ u.take i)) ++ b :: (w.drop (i + 1) ++ s))).getD (p.length + n + v.length + i) z28 = b := by
      have : (p ++ w.take i) ++ a :: ((u.drop (i + 1) ++ (v ++ u.take i)) ++ b :: (w.drop (i + 1) ++ s)) = ((p ++ w.take i) ++ a :: (u.drop (i + 1) ++ (v ++ u.take i))) ++ b :: (w.drop (i + 1) ++ s) := by simp only [List.append_assoc, List.cons_append]
      rw [this]
      exact getD_at _ _ _ _ (by rw [hB]; simp only [List.length_append, List.length_cons]; omega)
    rw [e2, set_two _ _ _ _ _ hA hB]
    have := ih k (i + 1) (by omega) (by omega)
    rw [← this]
    congr 1
    rw [hta, htb]
    simp only [List.append_assoc, List.cons_append, List.nil_append]
theorem swap_f {p u v w s : List S28} {n k : Nat} (hu : u.length = n) (hw : w.length = n) (hl : p.length + n + v.length + n + s.length ≤ 1000) (hk : n < k) :
    api_Span_54.f k (p ++ (u ++ (v ++ (w ++ s)))) (p.length : Nat) ((p.length + n + v.length : Nat) : Int) n = some (p ++ (w ++ (v ++ (u ++ s)))) := by
  have := swapR p u v w s n hu hw hl n k 0 (by omega) hk
  simpa [api_Span_54.f] using this
/-! ### rotate -/
theorem rot (d : Nat) : ∀ (k : Nat) (p u v s : List S28), u.length + v.length ≤ d → u ≠ [] → v ≠ [] → p.length + u.length + v.length + s.length ≤ 1000 → d + 1000 < k →
    api_Span_53.l0 k (p ++ (u ++ (v ++ s))) ((p.length + u.length : Nat) : Int) (u.length : Nat) (v.length : Nat) = some (p ++ (v ++ (u ++ s))) := by
  induction d with
  | zero => intro k p u v s h hu hv; exact absurd (List.eq_nil_of_length_eq_zero (by omega)) hu
  | succ d ih =>
    intro k p u v s h hu hv hl hk
    obtain ⟨k, rfl⟩ : ∃ m, k = m + 1 := ⟨k - 1, by omega⟩
    have hu1 := List.length_pos_iff.2 hu
    have hv1 := List.length_pos_iff.2 hv
    have e1 : wrap64 (((p.length + u.length : Nat) : Int) - (u.length : Nat)) = ((p.length : Nat) : Int) := by rw [wsm (by omega) (by omega)]; omega
    rw [api_Span_53.l0, e1]
    by_cases h1 : u.length = v.length
    · rw [if_pos (by omega)]
      have := swap_f (p := p) (u := u) (v := []) (w := v) (s := s) (n := u.length) (k := k) rfl h1.symm (by simp only [List.length_nil]; omega) (by omega)
      simp only [List.length_nil, Nat.add_zero, List.nil_append] at this
      rw [this]; rfl
    · rw [if_neg (by omega)]
      by_cases h2 : v.length < u.length
      · rw [if_pos (by omega)]
        have hu12 : u = u.take v.length ++ u.drop v.length := (List.take_append_drop _ _).symm
        have hl1 : (u.take v.length).length = v.length := by rw [List.length_take]; omega
        have hl2 : (u.drop v.length).length = u.length - v.length := List.length_drop
        generalize u.take v.length = u1 at *
        generalize u.drop v.length = u2 at *
        subst hu12
        rw [List.length_append] at *
        have := swap_f (p := p) (u := u1) (v := u2) (w := v) (s := s) (n := v.length) (k := k) hl1 rfl (by omega) (by omega)
        rw [show p.length + (u1.length + u2.length) = p.length + v.length + u2.length by omega]
        rw [show p ++ (u1 ++ u2 ++ (v ++ s)) = p ++ (u1 ++ (u2 ++ (v ++ s))) by simp, this]
        simp only [Option.bind_some]
        have e2 : wrap64 (((u1.length + u2.length : Nat) : Int) - (v.length : Nat)) = ((u2.length : Nat) : Int) := by rw [wsm (by omega) (by omega)]; omega
        rw [e2]
        have h3 := ih k (p ++ v) u2 u1 s (by omega) (fun e => by rw [e] at h2; simp at h2; omega) (fun e => by rw [e] at hl1; simp at hl1; omega) (by rw [List.length_append]; omega) (by omega)
        rw [List.length_append, hl1] at h3
        simp only [List.append_assoc] at h3 ⊢
        exact h3
      · rw [if_neg (by omega)]
        have hv12 : v = v.take (v.length - u.length) ++ v.drop (v.length - u.length) := (List.take_append_drop _ _).symm
        have hl1 : (v.take (v.length - u.length)).length = v.length - u.length := by rw [List.length_take]; omega
        have hl2 : (v.drop (v.length - u.length)).length = u.length := by rw [List.length_drop]; omega
        generalize v.take (v.length - u.length) = v1 at *
        generalize v.drop (v.length - u.length) = v2 at *
        subst hv12
        rw [List.length_append] at *
        have e3 : wrap64 (wrap64 (((p.length + u.length : Nat) : Int) + ((v1.length + v2.length : Nat) : Int)) - (u.length : Nat)) = ((p.length + u.length + v1.length : Nat) : Int) := by
          rw [wsm (x := ((p.length + u.length : Nat) : Int) + _) (by omega) (by omega), wsm (by omega) (by omega)]; omega
        rw [e3]
        have := swap_f (p := p) (u := u) (v := v1) (w := v2) (s := s) (n := u.length) (k := k) rfl hl2 (by omega) (by omega)
        rw [show p ++ (u ++ (v1 ++ v2 ++ s)) = p ++ (u ++ (v1 ++ (v2 ++ s))) by simp, this]
        simp only [Option.bind_some]
        have e2 : wrap64 (((v1.length + v2.length : Nat) : Int) - (u.length : Nat)) = ((v1.length : Nat) : Int) := by rw [wsm (by omega) (by omega)]; omega
        rw [e2]
        have h3 := ih k p v2 v1 (u ++ s) (by omega) (fun e => by rw [e] at hl2; simp at hl2; omega) (fun e => by rw [e] at h1; simp at h1; omega) (by rw [List.length_append]; omega) (by omega)
        rw [hl2] at h3
        simp only [List.append_assoc] at h3 ⊢
        exact h3
theorem rot_f {p u v s : List S28} {k : Nat} (hu : u ≠ []) (hv : v ≠ []) (hl : p.length + u.length + v.length + s.length ≤ 1000) (hk : 2001 < k) :
    api_Span_53.f k (p ++ (u ++ (v ++ s))) (p.length : Nat) ((p.length + u.length : Nat) : Int) ((p.length + u.length + v.length : Nat) : Int) = some (p ++ (v ++ (u ++ s))) := by
  have := rot 1000 k p u v s (by omega) hu hv hl (by omega)
  unfold api_Span_53.f
  rw [show wrap64 (((p.length + u.length : Nat) : Int) - (p.length : Nat)) = ((u.length : Nat) : Int) by rw [wsm (by omega) (by omega)]; omega, show wrap64 (((p.length + u.length + v.length : Nat) : Int) - ((p.length + u.length : Nat) : Int)) = ((v.length : Nat) : Int) by rw [wsm (by omega) (by omega)]; omega]
  exact this
/-! ### insertion sort -/
theorem ins_in (p R : List S28) (a b : Nat) (ha : a = p.length) (e : S28) (n : Nat) : ∀ (x1 x2 : List S28) (k : Nat), x1.length = n → Srt ltS (x1 ++ x2) → (∀ c ∈ x2, ltS e c = true) → p.length + x1.length + 1 + x2.length + R.length ≤ 1000 → n + 4 ≤ k →
    ∃ k' z, k ≤ k' + n + 1 ∧ k' ≤ k ∧ Srt ltS z ∧ Same ltS (x1 ++ x2 ++ [e]) z ∧
      api_Span_51.l1 k (p ++ (x1 ++ (e :: (x2 ++ R)))) a b ((p.length + x1.length + x2.length : Nat) : Int) ((p.length + x1.length : Nat) : Int) = api_Span_51.l0 k' (p ++ (z ++ R)) a b ((p.length + x1.length + x2.length + 1 : Nat) : Int) := by
  subst ha
  induction n with
  | zero =>
    intro x1 x2 k hn hs he hl hk
    obtain rfl := List.eq_nil_of_length_eq_zero hn
    obtain ⟨k, rfl⟩ : ∃ m, k = m + 1 := ⟨k - 1, by omega⟩
    have hi := insert_ok swS (x1 := []) (x2 := x2) (e := e) hs (by simp) he
    refine ⟨k, e :: x2, by omega, by omega, hi.1, hi.2, ?_⟩
    rw [api_Span_51.l1, if_neg (by simp)]
    have e3 : wrap64 (((p.length + ([] : List S28).length + x2.length : Nat) : Int) + 1) = ((p.length + ([] : List S28).length + x2.length + 1 : Nat) : Int) := by rw [wsm (by simp; omega) (by simp; omega)]; omega
    rw [e3]
    simp
  | succ n ih =>
    intro x1 x2 k hn hs he hl hk
    obtain ⟨k, rfl⟩ : ∃ m, k = m + 1 := ⟨k - 1, by omega⟩
    obtain ⟨t, c, rfl⟩ : ∃ t c, x1 = t ++ [c] := ⟨x1.dropLast, x1.getLast (by intro h; rw [h] at hn; simp at hn), (List.dropLast_concat_getLast _).symm⟩
    have ht : t.length = n := by simpa using hn
    have e1 : ((p.length + (t ++ [c]).length : Nat) : Int) = ((p.length + t.length + 1 : Nat) : Int) := by simp; omega
    have e2 : wrap64 (((p.length + t.length + 1 : Nat) : Int) - 1) = ((p.length + t.length : Nat) : Int) := by rw [wsm (by omega) (by omega)]; omega
    have hlen : (p ++ ((t ++ [c]) ++ (e :: (x2 ++ R)))).length = p.length + t.length + 2 + x2.length + R.length := by simp; omega
    rw [List.length_append, List.length_singleton] at hl
    have g1 : rd_T28 (p ++ ((t ++ [c]) ++ (e :: (x2 ++ R)))) ((p.length + t.length + 1 : Nat) : Int) = e := by
      have : p ++ ((t ++ [c]) ++ (e :: (x2 ++ R))) = (p ++ (t ++ [c])) ++ e :: (x2 ++ R) := by simp
      rw [this]; exact getD_at _ _ _ _ (by show p.length + t.length + 1 = _; simp; omega)
    have g2 : rd_T28 (p ++ ((t ++ [c]) ++ (e :: (x2 ++ R)))) ((p.length + t.length : Nat) : Int) = c := by
      have : p ++ ((t ++ [c]) ++ (e :: (x2 ++ R))) = (p ++ t) ++ c :: (e :: (x2 ++ R)) := by simp
      rw [this]; exact getD_at _ _ _ _ (by show p.length + t.length = _; simp)
    rw [api_Span_51.l1, e1, if_pos (by omega), if_pos (by omega), if_pos (by rw [hlen]; omega), e2, if_pos (by omega), if_pos (by rw [hlen]; omega), g1, g2, sord_eq _ _ (by omega)]
    simp only [Option.bind_some]
    by_cases hc : ltS e c = true
    · rw [if_pos ((ord_lt _ _).2 hc)]
      have hsw : ((p ++ ((t ++ [c]) ++ (e :: (x2 ++ R)))).set (((p.length + t.length + 1 : Nat) : Int)).toNat (⟨c.f0, c.f1, c.f2, c.f3, c.f4, c.f5, c.f6, c.f7⟩ : S28)).set (((p.length + t.length : Nat) : Int)).toNat (⟨e.f0, e.f1, e.f2, e.f3, e.f4, e.f5, e.f6, e.f7⟩ : S28) = p ++ (t ++ (e :: ((c :: x2) ++ R))) := by
        rw [Int.toNat_natCast, Int.toNat_natCast]
        have h1 : p ++ ((t ++ [c]) ++ (e :: (x2 ++ R))) = (p ++ (t ++ [c])) ++ e :: (x2 ++ R) := by simp
        rw [h1, set_at _ _ _ _ (by simp; omega)]
        have h2 : (p ++ (t ++ [c])) ++ (⟨c.f0, c.f1, c.f2, c.f3, c.f4, c.f5, c.f6, c.f7⟩ : S28) :: (x2 ++ R) = (p ++ t) ++ c :: (c :: (x2 ++ R)) := by simp
        rw [h2, set_at _ _ _ _ (by simp)]
        simp
      rw [hsw]
      obtain ⟨k', z, h1, h1', h2, h3, h4⟩ := ih t (c :: x2) k ht (by simpa using hs) (fun d hd => by
        rcases List.mem_cons.1 hd with h | h
        · rw [h]; exact hc
        · exact he d h) (by simp; omega) (by omega)
      refine ⟨k', z, by omega, by omega, h2, by simpa using h3, ?_⟩
      have q1 : p.length + t.length + (c :: x2).length = p.length + (t ++ [c]).length + x2.length := by simp; omega
      rw [q1] at h4
      exact h4
    · have hc' : ltS e c = false := by simpa using hc
      rw [if_neg (fun h => hc ((ord_lt _ _).1 h))]
      have hi := insert_ok swS (x1 := t ++ [c]) (x2 := x2) (e := e) hs (fun a ha => by
        rcases List.mem_append.1 ha with h | h
        · exact swS.neg e c a hc' (hs.left.cross a h c (List.mem_singleton.2 rfl))
        · rw [List.mem_singleton.1 h]; exact hc') he
      refine ⟨k, (t ++ [c]) ++ e :: x2, by omega, by omega, hi.1, hi.2, ?_⟩
      have e3 : wrap64 (((p.length + (t ++ [c]).length + x2.length : Nat) : Int) + 1) = ((p.length + (t ++ [c]).length + x2.length + 1 : Nat) : Int) := by rw [wsm (by simp; omega) (by simp; omega)]; omega
      rw [e3]
      congr 1
      simp
/-- Rounds. -/
def fu (n : Nat) : Nat := 1100 * n
theorem fu_succ (n : Nat) : fu (n + 1) = fu n + 1100 := by unfold fu; omega
theorem fu_le {a b : Nat} (h : a ≤ b) : fu a ≤ fu b := Nat.mul_le_mul_left _ h
theorem ins_out (p s : List S28) (a b : Nat) (ha : a = p.length) : ∀ (y x : List S28) (k : Nat), x ≠ [] → Srt ltS x → b = p.length + x.length + y.length → p.length + x.length + y.length + s.length ≤ 1000 → fu (y.length + 1) ≤ k →
    ∃ z, Srt ltS z ∧ Same ltS (x ++ y) z ∧ api_Span_51.l0 k (p ++ (x ++ (y ++ s))) a b ((p.length + x.length : Nat) : Int) = some (p ++ (z ++ s)) := by
  subst ha
  intro y
  induction y with
  | nil =>
    intro x k hx hs hb hl hk
    rw [List.length_nil, fu_succ] at hk
    obtain ⟨k, rfl⟩ : ∃ m, k = m + 1 := ⟨k - 1, by omega⟩
    refine ⟨x, hs, by simpa using Same.refl x, ?_⟩
    rw [api_Span_51.l0, if_neg (by rw [hb]; simp)]
    simp
  | cons e y ih =>
    intro x k hx hs hb hl hk
    rw [List.length_cons] at hb hl hk
    have hk0 := hk
    rw [fu_succ] at hk0
    obtain ⟨k, rfl⟩ : ∃ m, k = m + 1 := ⟨k - 1, by omega⟩
    have hk2 : fu (y.length + 1) + 1100 ≤ k + 1 := by rw [fu_succ] at hk; exact hk
    rw [api_Span_51.l0, if_pos (by omega)]
    obtain ⟨k', z, h1, h1', h2, h3, h4⟩ := ins_in p (y ++ s) p.length b rfl e x.length x [] k rfl (by simpa using hs) (by simp) (by simp; omega) (by omega)
    simp only [List.append_nil, List.nil_append, List.length_nil, Nat.add_zero] at h3 h4
    have hz := h3.1
    rw [List.length_append, List.length_singleton] at hz
    obtain ⟨z2, g1, g2, g3⟩ := ih z k' (fun e' => by rw [e'] at hz; simp at hz) h2 (by omega) (by omega) (by omega)
    refine ⟨z2, g1, ?_, ?_⟩
    · have := (h3.app (Same.refl (lt := ltS) y)).trans g2
      simpa [List.append_assoc] using this
    · have e4 : p ++ (x ++ (e :: y ++ s)) = p ++ (x ++ (e :: (y ++ s))) := rfl
      rw [e4, h4]
      rw [hz, show p.length + (x.length + 1) = p.length + x.length + 1 by omega] at g3
      exact g3
theorem ins_f {p x s : List S28} {k : Nat} (hl : p.length + x.length + s.length ≤ 1000) (hk : fu (x.length + 1) ≤ k) :
    ∃ z, Srt ltS z ∧ Same ltS x z ∧ api_Span_51.f k (p ++ (x ++ s)) (p.length : Nat) ((p.length + x.length : Nat) : Int) = some (p ++ (z ++ s)) := by
  have e1 : wrap64 (((p.length : Nat) : Int) + 1) = ((p.length + 1 : Nat) : Int) := by rw [wsm (by omega) (by omega)]; omega
  unfold api_Span_51.f
  rw [e1]
  cases x with
  | nil =>
    rw [List.length_nil, fu_succ] at hk
    obtain ⟨k, rfl⟩ : ∃ m, k = m + 1 := ⟨k - 1, by omega⟩
    refine ⟨[], List.Pairwise.nil, Same.refl _, ?_⟩
    rw [api_Span_51.l0, if_neg (by simp; omega)]
  | cons e y =>
    rw [List.length_cons] at hk hl
    have hk2 : fu (y.length + 1) ≤ k := by rw [fu_succ] at hk; omega
    obtain ⟨z, h1, h2, h3⟩ := ins_out p s p.length (p.length + (e :: y).length) rfl y [e] k (by simp) (List.pairwise_singleton _ _) (by simp; omega) (by simp; omega) hk2
    refine ⟨z, h1, by simpa using h2, ?_⟩
    simpa using h3
end Go.Proofs.Ytigcdbeaachkoaa.PAll
