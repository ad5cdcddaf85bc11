/-
  The plain law of right registers: what the document says (over the text of that function alone).
  Conditions: none beyond the ranges of Go's own kinds.
-/
import Derived.Test.YtjnhmdmcmmffeaaRegisterCore
import Derived.Test.YtjnhmdmcmmffeaaPAllx18r
namespace Go.Proofs.Ytjnhmdmcmmffeaa.PAll
open Go.RowKit Go.Proofs.YtjnhmdmcmmffeaaW.PrintWords Go.Proofs.YtjnhmdmcmmffeaaW.PrintLast Go.Proofs.YtjnhmdmcmmffeaaW.PrintMore
set_option linter.unusedVariables false
set_option linter.unusedSimpArgs false

theorem rright_eq {p0 p1 t0 t1 v : Int} (h0 : 0 ≤ p0) (h1 : 0 ≤ p1) : winnowref12_Right.f p0 p1 t0 t1 v = some (decide (OkR p0 p1 t0 t1 v)) := by
  unfold winnowref12_Right.f
  rw [rless_eq]
  simp only [Option.bind_some]
  by_cases h : lt2 p0 p1 t0 t1
  · rw [if_pos (by simpa using h)]
    simp only [Option.some.injEq]
    symm
    rw [decide_eq_false_iff_not]
    unfold OkR
    rintro (⟨a, b, _⟩ | ⟨_, _, _, g⟩)
    · unfold lt2 at h; omega
    · exact g h
  · rw [if_neg (by simpa using h)]
    by_cases h3 : v ≥ 0
    · rw [if_pos h3]
      by_cases h4 : v ≤ 3
      · rw [if_pos h4]
        simp only [Option.some.injEq]
        unfold OkR
        by_cases h5 : t0 = 0 ∧ t1 = 0
        · obtain ⟨rfl, rfl⟩ := h5
          by_cases h6 : v = 0
          · subst h6; simp
          · simp [h6]
        · by_cases h6 : v = 0
          · subst h6
            simp [h5]
            exact fun g1 g2 => h5 ⟨g1, g2⟩
          · have : 1 ≤ v := by omega
            have e1 : (v == 0) = false := by simpa using h6
            have e2 : (t0 == 0 && (t1 == 0)) = false := by
              rw [Bool.eq_false_iff]
              intro g
              exact h5 (by simpa using g)
            rw [e1, e2]
            simp [h5, h6, this, h4, h]
      · rw [if_neg h4]
        simp only [Option.some.injEq]
        symm
        rw [decide_eq_false_iff_not]
        unfold OkR
        omega
    · rw [if_neg h3]
      simp only [Option.some.injEq]
      symm
      rw [decide_eq_false_iff_not]
      unfold OkR
      omega
end Go.Proofs.Ytjnhmdmcmmffeaa.PAll
