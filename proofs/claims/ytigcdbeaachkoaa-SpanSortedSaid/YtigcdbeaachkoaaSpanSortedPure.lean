/-
  The plain law SpanSorted.
  Conditions: none.
-/
import Derived.KernelRfl
import Derived.Test.YtigcdbeaachkoaaSpanSymPure
import Derived.Test.YtigcdbeaachkoaaPAllx3
import Derived.Test.YtigcdbeaachkoaaPAllx4
import Derived.Test.YtigcdbeaachkoaaPAllx8
import Derived.Test.YtigcdbeaachkoaaPAllx9
namespace Go.Proofs.Ytigcdbeaachkoaa.PAll
open Go.RowKit Go.Proofs.YtigcdbeaachkoaaW.PrintWords Go.Proofs.YtigcdbeaachkoaaW.PrintLast Go.Proofs.YtigcdbeaachkoaaW.PrintMore
open Go.Proofs.Ytigcdbeaachkoaa.Stable
set_option linter.unusedVariables false
set_option linter.unusedSimpArgs false
theorem alive_so : winnowlaw03_alive.f = some true := by kernel_rfl
def eqS (a b : S28) : Bool := a.f0 == b.f0 && (a.f1 == b.f1 && (a.f2 == b.f2 && (a.f3 == b.f3 && (a.f4 == b.f4 && (a.f5.toList == b.f5.toList && (a.f6.toList == b.f6.toList && a.f7 == b.f7))))))
theorem eqS_eqv {a b : S28} (h : eqS a b = true) : eqv ltS b a = true := by
  simp only [eqS, Bool.and_eq_true, beq_iff_eq] at h
  simp only [eqv, ltS, Bool.and_eq_true, Bool.not_eq_true', decide_eq_false_iff_not]
  omega
theorem sless_eq (a b : S28) {k : Nat} (hk : 3 ≤ k) : span_Less.f k a.f0 a.f1 a.f2 a.f3 a.f4 a.f5 a.f6 a.f7 b.f0 b.f1 b.f2 b.f3 b.f4 b.f5 b.f6 b.f7 = some (ltS a b) := by
  unfold span_Less.f
  rw [sord_eq a b hk]
  simp only [Option.bind_some, Option.some.injEq]
  rw [Bool.eq_iff_iff, decide_eq_true_eq]
  exact ord_lt a b
theorem count_same {l z : List S28} (h : Same ltS l z) (e : S28) : z.countP (fun y => eqS y e) = l.countP (fun y => eqS y e) := by
  have go : ∀ L : List S28, L.countP (fun y => eqS y e) = (L.filter (eqv ltS e)).countP (fun y => eqS y e) := fun L => by
    rw [List.countP_filter]
    refine List.countP_congr fun x _ => ?_
    constructor
    · intro hx
      have hx' : eqS x e = true := hx
      simp [hx', eqS_eqv hx']
    · intro hx
      simp at hx
      exact hx.1
  rw [go z, go l, h.2]
def cj (L : List S28) (e : S28) (j : Nat) : Int := ((L.take j).countP (fun y => eqS y e) : Nat)
theorem cj_succ {L : List S28} {e : S28} {j : Nat} (h : j < L.length) : cj L e (j + 1) = cj L e j + (if eqS (L.getD j z28) e = true then 1 else 0) := by
  unfold cj
  rw [List.take_succ_eq_append_getElem h, List.countP_append, List.countP_singleton]
  have : L.getD j z28 = L[j] := by simp [List.getD_eq_getElem?_getD, List.getElem?_eq_getElem h]
  rw [this]
  split <;> simp
theorem cj_le (L : List S28) (e : S28) (j : Nat) (h : L.length ≤ 100) : 0 ≤ cj L e j ∧ cj L e j ≤ 100 := by
  unfold cj
  have h1 := List.countP_le_length (p := fun y => eqS y e) (l := L.take j)
  have h2 := List.length_take_le' j L
  omega
theorem so_l2 (l z : List S28) (hl : l.length ≤ 100) (hs : Same ltS l z) (i : Nat) (hi : i < l.length) (d : Nat) : ∀ (k j : Nat), j + d = l.length → d + 1 ≤ k →
    winnowlaw03_SpanSorted.l2 k l z i (cj l (l.getD i z28) j - cj z (l.getD i z28) j) j = winnowlaw03_SpanSorted.l1 (k - (d + 1)) l z ((i + 1 : Nat) : Int) := by
  have hz := hs.1
  induction d with
  | zero =>
    intro k j hj hk
    obtain ⟨k, rfl⟩ : ∃ q, k = q + 1 := ⟨k - 1, by omega⟩
    have h0 : cj l (l.getD i z28) j - cj z (l.getD i z28) j = 0 := by
      unfold cj
      rw [List.take_of_length_le (by omega), List.take_of_length_le (by omega), count_same hs]
      omega
    rw [winnowlaw03_SpanSorted.l2, if_neg (by omega), if_pos h0, wadd1 (by omega)]
    rfl
  | succ d ih =>
    intro k j hj hk
    obtain ⟨k, rfl⟩ : ∃ q, k = q + 1 := ⟨k - 1, by omega⟩
    have c1 := cj_le l (l.getD i z28) j hl
    have c2 := cj_le z (l.getD i z28) j (by omega)
    have s1 := cj_succ (L := l) (e := l.getD i z28) (j := j) (by omega)
    have s2 := cj_succ (L := z) (e := l.getD i z28) (j := j) (by omega)
    have hk2 : k + 1 - (d + 1 + 1) = k - (d + 1) := by omega
    have := ih k (j + 1) (by omega) (by omega)
    rw [hk2, ← this]
    rw [winnowlaw03_SpanSorted.l2, if_pos (by omega), if_pos (by omega), if_pos (by omega), if_pos (by omega), wadd1 (by omega)]
    generalize cj l (l.getD i z28) j = u at *
    generalize cj z (l.getD i z28) j = v at *
    rw [s1, s2]
    clear s1 s2 this
    change (if eqS (l.getD j z28) (l.getD i z28) = true then (if (j : Int) < (z.length : Int) then (if eqS (z.getD j z28) (l.getD i z28) = true then _ else _) else _) else (if (j : Int) < (z.length : Int) then (if eqS (z.getD j z28) (l.getD i z28) = true then _ else _) else _)) = _
    generalize eqS (l.getD j z28) (l.getD i z28) = p
    generalize eqS (z.getD j z28) (l.getD i z28) = q
    have hjz : (j : Int) < (z.length : Int) := by omega
    rw [if_pos hjz, if_pos hjz]
    cases p <;> cases q
    · simp only [if_false, Bool.false_eq_true]
      congr 1
      omega
    · simp only [if_false, if_true, Bool.false_eq_true]
      rw [wsm (x := u - v - 1) (by omega) (by omega)]
      congr 1
      omega
    · simp only [if_false, if_true, Bool.false_eq_true]
      rw [wsm (x := u - v + 1) (by omega) (by omega)]
      congr 1
      omega
    · simp only [if_true]
      rw [wsm (x := u - v + 1) (by omega) (by omega), wsm (by omega) (by omega)]
      congr 1
      omega
theorem so_l1 (l z : List S28) (hl : l.length ≤ 100) (hs : Same ltS l z) (d : Nat) : ∀ (k i : Nat), i + d = l.length → d * 102 + 2 ≤ k → winnowlaw03_SpanSorted.l1 k l z i = some true := by
  induction d with
  | zero =>
    intro k i hi hk
    obtain ⟨k, rfl⟩ : ∃ q, k = q + 1 := ⟨k - 1, by omega⟩
    rw [winnowlaw03_SpanSorted.l1, if_neg (by omega), alive_so]
    rfl
  | succ d ih =>
    intro k i hi hk
    obtain ⟨k, rfl⟩ : ∃ q, k = q + 1 := ⟨k - 1, by omega⟩
    have h := so_l2 l z hl hs i (by omega) l.length k 0 (by omega) (by omega)
    have h0 : cj l (l.getD i z28) 0 - cj z (l.getD i z28) 0 = 0 := by simp [cj]
    rw [h0] at h
    rw [winnowlaw03_SpanSorted.l1, if_pos (by omega)]
    rw [show ((0 : Nat) : Int) = 0 from rfl] at h
    rw [h]
    exact ih _ (i + 1) (by omega) (by omega)
theorem so_l0 (l z : List S28) (hl : l.length ≤ 100) (hs : Same ltS l z) (hr : Srt ltS z) (d : Nat) : ∀ (k i : Nat), i + d = l.length + 1 → 1 ≤ i → 11000 + d ≤ k → winnowlaw03_SpanSorted.l0 k l z i = some true := by
  have hz := hs.1
  induction d with
  | zero =>
    intro k i hi h1 hk
    obtain ⟨k, rfl⟩ : ∃ q, k = q + 1 := ⟨k - 1, by omega⟩
    rw [winnowlaw03_SpanSorted.l0, if_neg (by omega)]
    have := so_l1 l z hl hs l.length k 0 (by omega) (by omega)
    exact this
  | succ d ih =>
    intro k i hi h1 hk
    obtain ⟨k, rfl⟩ : ∃ q, k = q + 1 := ⟨k - 1, by omega⟩
    by_cases hlt : i < z.length
    · have hge : ltS (z.getD i z28) (z.getD (i - 1) z28) = false := by
        have e1 : z.getD i z28 = z[i] := by simp [List.getD_eq_getElem?_getD, List.getElem?_eq_getElem hlt]
        have e2 : z.getD (i - 1) z28 = z[i - 1] := by simp [List.getD_eq_getElem?_getD, List.getElem?_eq_getElem (show i - 1 < z.length by omega)]
        rw [e1, e2]
        exact List.pairwise_iff_getElem.1 hr (i - 1) i (by omega) hlt (by omega)
      rw [winnowlaw03_SpanSorted.l0, if_pos (by omega), if_pos (by omega), wsub1 h1 (by omega), if_pos (by omega), if_pos (by omega), rd_nat, rd_nat, sless_eq _ _ (by omega)]
      simp only [Option.bind_some]
      rw [if_neg (by rw [hge]; decide), wadd1 (by omega)]
      exact ih k (i + 1) (by omega) (by omega) (by omega)
    · rw [winnowlaw03_SpanSorted.l0, if_neg (by omega)]
      have := so_l1 l z hl hs l.length k 0 (by omega) (by omega)
      exact this
theorem SpanSorted (l : List S28) : ∃ k, winnowlaw03_SpanSorted.f k l = some true := by
  by_cases hl : l.length ≤ 100
  · refine ⟨KS l.length + 20000, ?_⟩
    obtain ⟨z, h1, h2, h3⟩ := stable_ok l (by omega) (k := KS l.length + 20000) (Nat.le_add_right _ _)
    have hz := h2.1
    unfold winnowlaw03_SpanSorted.f span_Sort.f api_Span_41.f
    rw [if_neg (by omega), if_pos (by omega)]
    simp only [Option.bind_some]
    rw [h3]
    simp only [Option.bind_some]
    rw [if_pos (by omega)]
    exact so_l0 l z hl h2 h1 l.length _ 1 (by omega) (Nat.le_refl _) (by omega)
  · refine ⟨0, ?_⟩
    unfold winnowlaw03_SpanSorted.f
    rw [if_pos (by omega), alive_so]
    rfl
end Go.Proofs.Ytigcdbeaachkoaa.PAll
