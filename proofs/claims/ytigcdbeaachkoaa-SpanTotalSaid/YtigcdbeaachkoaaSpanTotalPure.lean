/-
  The plain law SpanTotal.
  Conditions: none.
-/
import Derived.KernelRfl
import Derived.Test.YtigcdbeaachkoaaArrOf
import Derived.Test.YtigcdbeaachkoaaPAllx4
import Derived.Test.YtigcdbeaachkoaaPAllx8
import Derived.Test.YtigcdbeaachkoaaPAllx9
namespace Go.Proofs.Ytigcdbeaachkoaa.PAll
open Go.RowKit Go.Proofs.YtigcdbeaachkoaaW.PrintWords Go.Proofs.YtigcdbeaachkoaaW.PrintLast Go.Proofs.YtigcdbeaachkoaaW.PrintMore
set_option linter.unusedVariables false
set_option linter.unusedSimpArgs false

theorem alive_true' : winnowlaw03_alive.f = some true := by kernel_rfl
theorem cmp_eq (a b : Int) : cmp_Compare_uint64.f a b = some (if a < b then -1 else if a > b then 1 else 0) := by
  unfold cmp_Compare_uint64.f cmp_isNaN_uint64.f
  have e : ∀ x : Int, (x != x) = false := fun x => by simp
  rw [e, e]
  simp only [Option.bind_some]
  rw [if_neg (by decide), if_neg (by decide)]
  split
  · rfl
  · split <;> rfl
theorem ori_eq {x y : Int} {k : Nat} (hk : 3 ≤ k) : cmp_Or_int.f k [x, y] = some (if x = 0 then y else x) := by
  obtain ⟨k, rfl⟩ : ∃ j, k = j + 1 + 1 + 1 := ⟨k - 3, by omega⟩
  have w0 : wrap64 (0 + 1) = 1 := by unfold wrap64; omega
  have w1 : wrap64 (1 + 1) = 2 := by unfold wrap64; omega
  unfold cmp_Or_int.f
  rw [cmp_Or_int.l0, if_pos (by simp), if_pos (by omega), if_pos (by simp), w0]
  have r0 : rd [x, y] 0 = x := rfl
  have r1 : rd [x, y] 1 = y := rfl
  rw [r0]
  by_cases h : x = 0
  · rw [if_pos h, if_pos h, cmp_Or_int.l0, if_pos (by simp), if_pos (by omega), if_pos (by simp), w1, r1]
    by_cases h1 : y = 0
    · rw [if_pos h1, cmp_Or_int.l0, if_neg (by simp), h1]
    · rw [if_neg h1]
  · rw [if_neg h, if_neg h]
/-- Is the one span's time and Id below the other's? -/
def lessN (s i t j : Int) : Bool := decide (s < t ∨ s = t ∧ i < j)
theorem less_eq (a0 a1 a2 a3 a4 : Int) (a5 a6 : ByteArray) (a7 : Bool) (b0 b1 b2 b3 b4 : Int) (b5 b6 : ByteArray) (b7 : Bool) {k : Nat} (hk : 3 ≤ k) : span_Less.f k a0 a1 a2 a3 a4 a5 a6 a7 b0 b1 b2 b3 b4 b5 b6 b7 = some (lessN a3 a1 b3 b1) := by
  unfold span_Less.f span_order.f lessN
  rw [cmp_eq, cmp_eq]
  simp only [Option.bind_some]
  rw [ori_eq hk]
  simp only [Option.bind_some, Option.some.injEq, decide_eq_decide]
  by_cases h : a3 < b3
  · simp [h]
  · by_cases h1 : a3 > b3
    · have : ¬ a3 = b3 := by omega
      simp [h, h1, this]
    · have : a3 = b3 := by omega
      simp only [h, h1, this, if_false, if_true, gt_iff_lt, Int.lt_irrefl, false_or, true_and]
      split
      · simp [*]
      · split <;> simp [*]
theorem SpanTotal (a0 a1 a2 a3 a4 : Int) (a5 a6 : ByteArray) (a7 : Bool) (b0 b1 b2 b3 b4 : Int) (b5 b6 : ByteArray) (b7 : Bool) (c0 c1 c2 c3 c4 : Int) (c5 c6 : ByteArray) (c7 : Bool) : winnowlaw03_SpanTotal.f 10 a0 a1 a2 a3 a4 a5 a6 a7 b0 b1 b2 b3 b4 b5 b6 b7 c0 c1 c2 c3 c4 c5 c6 c7 = some true := by
  have hL := fun (a0 a1 a2 a3 a4 : Int) (a5 a6 : ByteArray) (a7 : Bool) (b0 b1 b2 b3 b4 : Int) (b5 b6 : ByteArray) (b7 : Bool) => @less_eq a0 a1 a2 a3 a4 a5 a6 a7 b0 b1 b2 b3 b4 b5 b6 b7
  have haa : lessN a3 a1 a3 a1 = false := by unfold lessN; rw [decide_eq_false_iff_not]; omega
  have h1 : winnowlaw03_SpanTotal.j1 9 false a0 a1 a2 a3 a4 a5 a6 a7 b0 b1 b2 b3 b4 b5 b6 b7 c0 c1 c2 c3 c4 c5 c6 c7 = some true := by
    rw [winnowlaw03_SpanTotal.j1, if_neg (by decide), less_eq _ _ _ _ _ _ _ _ _ _ _ _ _ _ _ _ (by omega), less_eq _ _ _ _ _ _ _ _ _ _ _ _ _ _ _ _ (by omega), less_eq _ _ _ _ _ _ _ _ _ _ _ _ _ _ _ _ (by omega), alive_true']
    simp only [Option.bind_some]
    split
    · split
      · rename_i g1 g2
        unfold lessN at g1 g2 ⊢
        rw [decide_eq_true_eq] at g1 g2
        rw [if_pos (decide_eq_true (by omega))]
      · rfl
    · rfl
  have h0 : ∀ alike : Bool, (alike = true ↔ a3 = b3 ∧ a1 = b1) → winnowlaw03_SpanTotal.j0 10 alike a0 a1 a2 a3 a4 a5 a6 a7 b0 b1 b2 b3 b4 b5 b6 b7 c0 c1 c2 c3 c4 c5 c6 c7 = some true := by
    intro alike hal
    rw [winnowlaw03_SpanTotal.j0]
    simp only [less_eq _ _ _ _ _ _ _ _ _ _ _ _ _ _ _ _ (show 3 ≤ 9 by omega), Option.bind_some, haa]
    rw [if_neg (by decide)]
    have key : ∀ x y : Bool, lessN a3 a1 b3 b1 = x → lessN b3 b1 a3 a1 = y → (x = true → y = false) ∧ (alike == (x || y)) = false := by
      intro x y hx hy
      unfold lessN at hx hy
      subst hx hy
      refine ⟨fun h => ?_, ?_⟩
      · rw [decide_eq_true_eq] at h
        rw [decide_eq_false_iff_not]
        omega
      · rw [beq_eq_false_iff_ne]
        intro e
        have : (alike = true) ↔ ((a3 < b3 ∨ a3 = b3 ∧ a1 < b1) ∨ (b3 < a3 ∨ b3 = a3 ∧ b1 < a1)) := by
          rw [e, Bool.or_eq_true, decide_eq_true_eq, decide_eq_true_eq]
        rw [hal] at this
        omega
    obtain ⟨k1, k2⟩ := key _ _ rfl rfl
    cases hx : lessN a3 a1 b3 b1 with
    | true =>
      have hy := k1 hx
      rw [hx, hy] at k2
      rw [hy]
      simp only [Bool.true_or, if_true] at k2 ⊢
      rw [if_neg (by decide), k2]
      exact h1
    | false =>
      rw [hx] at k2
      rw [Bool.false_or] at k2
      rw [if_neg (by decide), if_neg (by decide), k2]
      exact h1
  unfold winnowlaw03_SpanTotal.f
  split
  · rename_i h
    refine h0 _ ?_
    rw [beq_iff_eq]
    exact ⟨fun e => ⟨h, e⟩, fun e => e.2⟩
  · rename_i h
    refine h0 _ ?_
    exact ⟨fun e => (by cases e), fun e => absurd e.1 h⟩
end Go.Proofs.Ytigcdbeaachkoaa.PAll
