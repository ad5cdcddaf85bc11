/-
  The plain law of registers: what register's functions compute.
  Conditions: none beyond the ranges of Go's own kinds.
-/
import Derived.Test.YtjnhmdmcmmffeaaLessCore
import Derived.Test.YtjnhmdmcmmffeaaPAllx2
import Derived.Test.YtjnhmdmcmmffeaaPAllx3
import Derived.Test.YtjnhmdmcmmffeaaPAllx4
namespace Go.Proofs.Ytjnhmdmcmmffeaa.PAll
open Go.RowKit Go.Proofs.YtjnhmdmcmmffeaaW.PrintWords Go.Proofs.YtjnhmdmcmmffeaaW.PrintLast Go.Proofs.YtjnhmdmcmmffeaaW.PrintMore
set_option linter.unusedVariables false
set_option linter.unusedSimpArgs false

/-- May the ballot be asked for? -/
def OkP (p0 p1 b0 b1 : Int) : Prop := 0 < b0 ∧ ¬ lt2 b0 b1 p0 p1
instance (p0 p1 b0 b1 : Int) : Decidable (OkP p0 p1 b0 b1) := by unfold OkP; infer_instance
/-- May the verdict be taken? -/
def OkA (p0 p1 t0 t1 v b0 b1 u : Int) : Prop := OkP p0 p1 b0 b1 ∧ 1 ≤ u ∧ u ≤ 3 ∧ ¬ (t0 = b0 ∧ t1 = b1 ∧ v ≠ u)
instance (p0 p1 t0 t1 v b0 b1 u : Int) : Decidable (OkA p0 p1 t0 t1 v b0 b1 u) := by unfold OkA; infer_instance

theorem stands_eq {k : Nat} (hk : 3 ≤ k) (p0 p1 t0 t1 v b0 b1 : Int) : register_Reg_stands.f k p0 p1 t0 t1 v b0 b1 = some (decide (OkP p0 p1 b0 b1)) := by
  unfold register_Reg_stands.f
  by_cases h : b0 > 0
  · rw [if_pos h, less_ge hk]
    simp only [Option.bind_some, Option.some.injEq]
    by_cases h2 : lt2 b0 b1 p0 p1 <;> simp [OkP, h2] <;> omega
  · rw [if_neg h]
    simp only [Option.some.injEq]
    symm
    rw [decide_eq_false_iff_not]
    exact fun hh => h hh.1
theorem prep_yes {k : Nat} (hk : 3 ≤ k) {p0 p1 t0 t1 v b0 b1 : Int} (h : OkP p0 p1 b0 b1) : register_Prepare.f k p0 p1 t0 t1 v b0 b1 = some (b0, b1, t0, t1, v, true) := by
  unfold register_Prepare.f
  rw [stands_eq hk]; simp [h]
theorem prep_no {k : Nat} (hk : 3 ≤ k) {p0 p1 t0 t1 v b0 b1 : Int} (h : ¬ OkP p0 p1 b0 b1) : register_Prepare.f k p0 p1 t0 t1 v b0 b1 = some (p0, p1, t0, t1, v, false) := by
  unfold register_Prepare.f
  rw [stands_eq hk]; simp [h]
theorem told_eq (u : Int) : register_told.f u = some (decide (1 ≤ u ∧ u ≤ 3)) := by
  unfold register_told.f
  by_cases h : 1 ≤ u <;> simp [h]
theorem acc_yes {k : Nat} (hk : 3 ≤ k) {p0 p1 t0 t1 v b0 b1 u : Int} (h : OkA p0 p1 t0 t1 v b0 b1 u) : register_Accept.f k p0 p1 t0 t1 v b0 b1 u = some (b0, b1, b0, b1, u, true) := by
  obtain ⟨h1, h2, h3, h4⟩ := h
  unfold register_Accept.f
  rw [stands_eq hk, told_eq]
  simp only [Option.bind_some]
  rw [if_pos (by simpa using h1), if_pos (by simpa using ⟨h2, h3⟩)]
  by_cases e : t0 = b0 ∧ t1 = b1
  · rw [if_pos (by simpa using e), if_pos (Classical.byContradiction fun hne => h4 ⟨e.1, e.2, hne⟩)]
  · rw [if_neg (by simpa using e)]
theorem acc_no {k : Nat} (hk : 3 ≤ k) {p0 p1 t0 t1 v b0 b1 u : Int} (h : ¬ OkA p0 p1 t0 t1 v b0 b1 u) : register_Accept.f k p0 p1 t0 t1 v b0 b1 u = some (p0, p1, t0, t1, v, false) := by
  unfold register_Accept.f
  rw [stands_eq hk, told_eq]
  simp only [Option.bind_some]
  by_cases h1 : OkP p0 p1 b0 b1
  · rw [if_pos (by simpa using h1)]
    by_cases h2 : 1 ≤ u ∧ u ≤ 3
    · rw [if_pos (by simpa using h2)]
      by_cases e : t0 = b0 ∧ t1 = b1
      · rw [if_pos (by simpa using e)]
        by_cases hv : v = u
        · exact absurd ⟨h1, h2.1, h2.2, fun hh => hh.2.2 hv⟩ h
        · rw [if_neg hv]
      · exact absurd ⟨h1, h2.1, h2.2, fun hh => e ⟨hh.1, hh.2.1⟩⟩ h
    · rw [if_neg (by simpa using h2)]
  · rw [if_neg (by simpa using h1)]
/-- Is a register right? -/
def OkR (p0 p1 t0 t1 v : Int) : Prop := (t0 = 0 ∧ t1 = 0 ∧ v = 0) ∨ (¬ (t0 = 0 ∧ t1 = 0) ∧ 1 ≤ v ∧ v ≤ 3 ∧ ¬ lt2 p0 p1 t0 t1)
instance (p0 p1 t0 t1 v : Int) : Decidable (OkR p0 p1 t0 t1 v) := by unfold OkR; infer_instance
theorem right_eq {k : Nat} (hk : 3 ≤ k) (p0 p1 t0 t1 v : Int) : register_Right.f k p0 p1 t0 t1 v = some (decide (OkR p0 p1 t0 t1 v)) := by
  unfold register_Right.f
  by_cases h : t0 = 0 ∧ t1 = 0
  · rw [if_pos (by simpa using h)]
    simp only [Option.some.injEq]
    by_cases hv : v = 0 <;> simp [OkR, h.1, h.2, hv]
  · rw [if_neg (by simpa using h), told_eq]
    simp only [Option.bind_some]
    by_cases h2 : 1 ≤ v ∧ v ≤ 3
    · rw [if_pos (by simpa using h2), less_ge hk]
      simp only [Option.bind_some, Option.some.injEq]
      by_cases h3 : lt2 p0 p1 t0 t1
      · simp only [h3, decide_true, Bool.not_true]
        symm
        rw [decide_eq_false_iff_not]
        unfold OkR
        rintro (⟨a, b, _⟩ | ⟨_, _, _, g⟩)
        · exact h ⟨a, b⟩
        · exact g h3
      · simp only [h3, decide_false, Bool.not_false]
        symm
        rw [decide_eq_true_eq]
        exact .inr ⟨h, h2.1, h2.2, h3⟩
    · rw [if_neg (by simpa using h2)]
      simp only [Option.some.injEq]
      symm
      rw [decide_eq_false_iff_not]
      unfold OkR
      rintro (⟨a, b, _⟩ | ⟨_, a, b, _⟩)
      · exact h ⟨a, b⟩
      · exact h2 ⟨a, b⟩
theorem alive12 {k : Nat} (hk : 3 ≤ k) : winnowlaw12_alive.f k = some true := by
  unfold winnowlaw12_alive.f
  rw [prep_yes hk (by decide)]
  simp only [Option.bind_some]
  rw [prep_no hk (by decide), acc_yes hk (by decide)]
  simp only [Option.bind_some]
  rw [if_pos trivial, if_neg (by decide), if_pos trivial, if_pos trivial, right_eq hk]
  simp only [Option.bind_some]
  decide

end Go.Proofs.Ytjnhmdmcmmffeaa.PAll
