/-
  The plain law RegisterSteps: what any ballot and verdict does to any register, and what it answers.
  Conditions: none beyond the ranges of Go's own kinds.
-/
import Derived.Test.YtjnhmdmcmmffeaaRegisterCore
import Derived.Test.YtjnhmdmcmmffeaaPAllx18
import Derived.Test.YtjnhmdmcmmffeaaPAllx19
import Derived.Test.YtjnhmdmcmmffeaaPAllx20
import Derived.Test.YtjnhmdmcmmffeaaPAllx21
import Derived.Test.YtjnhmdmcmmffeaaPAllx22
import Derived.Test.YtjnhmdmcmmffeaaPAllx23
namespace Go.Proofs.Ytjnhmdmcmmffeaa.PAll
open Go.RowKit Go.Proofs.YtjnhmdmcmmffeaaW.PrintWords Go.Proofs.YtjnhmdmcmmffeaaW.PrintLast Go.Proofs.YtjnhmdmcmmffeaaW.PrintMore
set_option linter.unusedVariables false
set_option linter.unusedSimpArgs false

theorem rprep_eq {p0 p1 t0 t1 v b0 b1 : Int} (hb : 0 ≤ b0) : winnowref12_Prepare.f p0 p1 t0 t1 v b0 b1 = some (if OkP p0 p1 b0 b1 then (b0, b1, t0, t1, v, true) else (p0, p1, t0, t1, v, false)) := by
  unfold winnowref12_Prepare.f
  rw [rless_eq]
  simp only [Option.bind_some]
  by_cases h : lt2 b0 b1 p0 p1
  · rw [if_pos (by simpa using h), if_neg (fun hh => hh.2 h)]
  · rw [if_neg (by simpa using h)]
    by_cases h2 : b0 = 0
    · rw [if_pos h2, if_neg (fun hh => by have := hh.1; omega)]
    · rw [if_neg h2, if_pos ⟨by omega, h⟩]
theorem prep_eq {k : Nat} (hk : 3 ≤ k) (p0 p1 t0 t1 v b0 b1 : Int) : register_Prepare.f k p0 p1 t0 t1 v b0 b1 = some (if OkP p0 p1 b0 b1 then (b0, b1, t0, t1, v, true) else (p0, p1, t0, t1, v, false)) := by
  by_cases h : OkP p0 p1 b0 b1
  · rw [prep_yes hk h, if_pos h]
  · rw [prep_no hk h, if_neg h]
theorem acc_eq {k : Nat} (hk : 3 ≤ k) (p0 p1 t0 t1 v b0 b1 u : Int) : register_Accept.f k p0 p1 t0 t1 v b0 b1 u = some (if OkA p0 p1 t0 t1 v b0 b1 u then (b0, b1, b0, b1, u, true) else (p0, p1, t0, t1, v, false)) := by
  by_cases h : OkA p0 p1 t0 t1 v b0 b1 u
  · rw [acc_yes hk h, if_pos h]
  · rw [acc_no hk h, if_neg h]
theorem racc_eq {p0 p1 t0 t1 v b0 b1 u : Int} (hb : 0 ≤ b0) : winnowref12_Accept.f p0 p1 t0 t1 v b0 b1 u = some (if OkA p0 p1 t0 t1 v b0 b1 u then (b0, b1, b0, b1, u, true) else (p0, p1, t0, t1, v, false)) := by
  unfold winnowref12_Accept.f
  rw [rless_eq]
  simp only [Option.bind_some]
  by_cases h : lt2 b0 b1 p0 p1
  · rw [if_pos (by simpa using h), if_neg (fun hh => hh.1.2 h)]
  rw [if_neg (by simpa using h)]
  by_cases h2 : b0 = 0
  · rw [if_pos h2, if_neg (fun hh => by have := hh.1.1; omega)]
  rw [if_neg h2]
  by_cases h3 : u < 1
  · rw [if_pos h3, if_neg (fun hh => by have := hh.2.1; omega)]
  rw [if_neg h3]
  by_cases h4 : u > 3
  · rw [if_pos h4, if_neg (fun hh => by have := hh.2.2.1; omega)]
  rw [if_neg h4]
  by_cases h5 : b0 = t0 ∧ b1 = t1
  · rw [if_pos (by simpa using h5)]
    by_cases h6 : u = v
    · rw [if_pos h6, if_pos ⟨⟨by omega, h⟩, by omega, by omega, fun hh => hh.2.2 h6.symm⟩]
    · rw [if_neg h6, if_neg (fun hh => hh.2.2.2 ⟨h5.1.symm, h5.2.symm, fun e => h6 e.symm⟩)]
  · rw [if_neg (by simpa using h5), if_pos ⟨⟨by omega, h⟩, by omega, by omega, fun hh => h5 ⟨hh.1.symm, hh.2.1.symm⟩⟩]
theorem rright_eq {p0 p1 t0 t1 v : Int} (h0 : 0 ≤ p0) (h1 : 0 ≤ p1) : winnowref12_Right.f p0 p1 t0 t1 v = some (decide (OkR p0 p1 t0 t1 v)) := by
  unfold winnowref12_Right.f
  rw [rless_eq]
  simp only [Option.bind_some]
  by_cases h : lt2 p0 p1 t0 t1
  · rw [if_pos (by simpa using h)]
    simp only [Option.some.injEq]
    symm
    rw [decide_eq_false_iff_not]
    unfold OkR
    rintro (⟨a, b, _⟩ | ⟨_, _, _, g⟩)
    · unfold lt2 at h; omega
    · exact g h
  · rw [if_neg (by simpa using h)]
    by_cases h3 : v ≥ 0
    · rw [if_pos h3]
      by_cases h4 : v ≤ 3
      · rw [if_pos h4]
        simp only [Option.some.injEq]
        unfold OkR
        by_cases h5 : t0 = 0 ∧ t1 = 0
        · obtain ⟨rfl, rfl⟩ := h5
          by_cases h6 : v = 0
          · subst h6; simp
          · simp [h6]
        · by_cases h6 : v = 0
          · subst h6
            simp [h5]
            exact fun g1 g2 => h5 ⟨g1, g2⟩
          · have : 1 ≤ v := by omega
            have e1 : (v == 0) = false := by simpa using h6
            have e2 : (t0 == 0 && (t1 == 0)) = false := by
              rw [Bool.eq_false_iff]
              intro g
              exact h5 (by simpa using g)
            rw [e1, e2]
            simp [h5, h6, this, h4, h]
      · rw [if_neg h4]
        simp only [Option.some.injEq]
        symm
        rw [decide_eq_false_iff_not]
        unfold OkR
        omega
    · rw [if_neg h3]
      simp only [Option.some.injEq]
      symm
      rw [decide_eq_false_iff_not]
      unfold OkR
      omega
theorem same_nil (k : Nat) (a0 a1 a2 a3 a4 a5 a6 : Int) (a7 : Bool) : winnowref05_Same.f (k + 4) a0 a1 a2 a3 a4 a5 a6 a7 [] [] [] a0 a1 a2 a3 a4 a5 a6 a7 [] [] [] = some true := by
  simp [winnowref05_Same.f, winnowref05_Same.j0, winnowref05_Same.l0, winnowref05_Same.l1, winnowref03_Spans.f, winnowref03_Spans.l0]
theorem answer_eq (k : Nat) (a0 a1 a2 a3 a4 : Int) (t b0 b1 : Int) (ok took : Bool) : winnowref12_Answer.f (k + 1) a0 a1 a2 a3 a4 t b0 b1 ok took = register_Answer.f a0 a1 a2 a3 a4 t b0 b1 ok took := by
  unfold winnowref12_Answer.f register_Answer.f
  cases ok <;> cases took <;> simp [winnowref12_Answer.j0]
theorem answer_some (a0 a1 a2 a3 a4 : Int) (t b0 b1 : Int) (ok took : Bool) : ∃ x0 x1 x2 x3 x4 x5 x6 x7, register_Answer.f a0 a1 a2 a3 a4 t b0 b1 ok took = some (x0, x1, x2, x3, x4, x5, x6, x7, [], [], []) := by
  unfold register_Answer.f
  cases ok <;> cases took <;> simp
theorem RegisterSteps (r0 r1 r2 r3 r4 b0 b1 v t : Int) (ok took : Bool) (h0 : 0 ≤ r0) (h1 : 0 ≤ r1) (hb : 0 ≤ b0) : winnowlaw12_RegisterSteps.f 20 r0 r1 r2 r3 r4 b0 b1 v t ok took = some true := by
  unfold winnowlaw12_RegisterSteps.f
  have hback : ∀ a b c d e, winnowlaw12_Back.f a b c d e = some (a, b, c, d, e) := fun _ _ _ _ _ => rfl
  simp only [own_eq, Option.bind_some, prep_eq (show 3 ≤ 20 by omega), rprep_eq hb, acc_eq (show 3 ≤ 20 by omega), racc_eq hb, right_eq (show 3 ≤ 20 by omega), rright_eq h0 h1, hback]
  obtain ⟨x0, x1, x2, x3, x4, x5, x6, x7, e⟩ := answer_some r0 r1 r2 r3 r4 t b0 b1 ok took
  rw [answer_eq, e]
  simp only [Option.bind_some]
  rw [same_nil, alive12 (by omega)]
  simp
end Go.Proofs.Ytjnhmdmcmmffeaa.PAll
