/-
  The plain law of the order of ballots.
  Conditions: none beyond the ranges of Go's own kinds.
-/
import Derived.Test.YtjnhmdmcmmffeaaPAllx2
import Derived.Test.YtjnhmdmcmmffeaaPAllx5
import Derived.Test.YtjnhmdmcmmffeaaOpsAll
namespace Go.Proofs.Ytjnhmdmcmmffeaa.PAll
open Go.RowKit Go.Proofs.YtjnhmdmcmmffeaaW.PrintWords Go.Proofs.YtjnhmdmcmmffeaaW.PrintLast Go.Proofs.YtjnhmdmcmmffeaaW.PrintMore
set_option linter.unusedVariables false
set_option linter.unusedSimpArgs false

theorem arr_of {cs : Array Value} {l : List Value} (h : cs.toList = l) : cs = l.toArray := by rw [← h]
theorem wf_u64 {x : Int} (h : (Lit.int .u64 x).wf = true) : 0 ≤ x ∧ x ≤ 18446744073709551615 := by
  simpa [Lit.wf, IntKind.min, IntKind.max, IntKind.signed, IntKind.bits] using h
theorem wf_i64 {x : Int} (h : (Lit.int .i64 x).wf = true) : -9223372036854775808 ≤ x ∧ x ≤ 9223372036854775807 := by
  simpa [Lit.wf, IntKind.min, IntKind.max, IntKind.signed, IntKind.bits] using h

/-- A ballot below another one. -/
def lt2 (a0 a1 b0 b1 : Int) : Prop := a0 < b0 ∨ a0 = b0 ∧ a1 < b1
instance (a0 a1 b0 b1 : Int) : Decidable (lt2 a0 a1 b0 b1) := by unfold lt2; infer_instance

theorem compare_eq (a b : Int) : cmp_Compare_uint64.f a b = some (if a < b then -1 else if a > b then 1 else 0) := by
  unfold cmp_Compare_uint64.f cmp_isNaN_uint64.f
  simp
  split <;> first | rfl | (split <;> rfl)
theorem or_eq (k : Nat) (a b : Int) : cmp_Or_int.f (k + 3) [a, b] = some (if a = 0 then b else a) := by
  unfold cmp_Or_int.f
  by_cases ha : a = 0
  · by_cases hb : b = 0
    · subst ha hb
      simp [cmp_Or_int.l0, rd, wrap64]
    · subst ha
      simp [cmp_Or_int.l0, rd, wrap64, hb]
  · simp [cmp_Or_int.l0, rd, ha]
theorem order_eq (k : Nat) (a0 a1 b0 b1 : Int) :
    ballot_order.f (k + 3) a0 a1 b0 b1 = some (if a0 < b0 then -1 else if a0 > b0 then 1 else if a1 < b1 then -1 else if a1 > b1 then 1 else 0) := by
  unfold ballot_order.f
  rw [compare_eq, compare_eq]
  simp only [Option.bind_some]
  rw [or_eq]
  simp only [Option.bind_some]
  by_cases h1 : a0 < b0
  · simp [h1]
  · by_cases h2 : a0 > b0
    · simp [h1, h2]
    · simp [h1, h2]
theorem less_eq (k : Nat) (a0 a1 b0 b1 : Int) : ballot_Less.f (k + 3) a0 a1 b0 b1 = some (decide (lt2 a0 a1 b0 b1)) := by
  unfold ballot_Less.f
  rw [order_eq]
  simp only [Option.bind_some, Option.some.injEq, decide_eq_decide, lt2]
  by_cases h1 : a0 < b0
  · simp [h1]
  · by_cases h2 : a0 > b0
    · simp [h1, h2]; omega
    · have h3 : a0 = b0 := by omega
      subst h3
      by_cases h4 : a1 < b1
      · simp [h4]
      · by_cases h5 : a1 > b1
        · simp [h4, h5]
        · simp [h4, h5]
theorem order_ge {k : Nat} (hk : 3 ≤ k) (a0 a1 b0 b1 : Int) : ballot_order.f k a0 a1 b0 b1 = some (if a0 < b0 then -1 else if a0 > b0 then 1 else if a1 < b1 then -1 else if a1 > b1 then 1 else 0) := by
  obtain ⟨j, rfl⟩ : ∃ j, k = j + 3 := ⟨k - 3, by omega⟩
  exact order_eq j a0 a1 b0 b1
theorem order_sign {k : Nat} (hk : 3 ≤ k) (a0 a1 b0 b1 : Int) : ∃ v, ballot_order.f k a0 a1 b0 b1 = some v ∧ (v < 0 ↔ lt2 a0 a1 b0 b1) := by
  refine ⟨_, order_ge hk a0 a1 b0 b1, ?_⟩
  unfold lt2
  (repeat' split) <;> omega
theorem less_ge {k : Nat} (hk : 3 ≤ k) (a0 a1 b0 b1 : Int) : ballot_Less.f k a0 a1 b0 b1 = some (decide (lt2 a0 a1 b0 b1)) := by
  obtain ⟨j, rfl⟩ : ∃ j, k = j + 3 := ⟨k - 3, by omega⟩
  exact less_eq j a0 a1 b0 b1
theorem rless_eq (a0 a1 b0 b1 : Int) : winnowref11_Less.f a0 a1 b0 b1 = some (decide (lt2 a0 a1 b0 b1)) := by
  unfold winnowref11_Less.f lt2
  by_cases h1 : a0 < b0
  · simp [h1]
  · by_cases h2 : a0 = b0 <;> simp [h1, h2]
end Go.Proofs.Ytjnhmdmcmmffeaa.PAll
