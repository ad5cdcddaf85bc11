/-
  The plain law RegisterAnswers: what a right register says to what it was asked is a right packet.
  Conditions: none beyond the ranges of Go's own kinds.
-/
import Derived.Test.YtjnhmdmcmmffeaaRegisterRightA
import Derived.Test.YtjnhmdmcmmffeaaPAllAns
namespace Go.Proofs.Ytjnhmdmcmmffeaa.PAll
open Go.RowKit Go.Proofs.YtjnhmdmcmmffeaaW.PrintWords Go.Proofs.YtjnhmdmcmmffeaaW.PrintLast Go.Proofs.YtjnhmdmcmmffeaaW.PrintMore
set_option linter.unusedVariables false
set_option linter.unusedSimpArgs false

theorem sameA (k : Nat) (a0 a1 a2 a3 a4 a5 a6 : Int) (a7 : Bool) : winnowref05_Same.f (k + 4) a0 a1 a2 a3 a4 a5 a6 a7 [] [] [] a0 a1 a2 a3 a4 a5 a6 a7 [] [] [] = some true := by
  simp [winnowref05_Same.f, winnowref05_Same.j0, winnowref05_Same.l0, winnowref05_Same.l1, winnowref03_Spans.f, winnowref03_Spans.l0]
theorem right5 (k : Nat) {t b0 b1 s0 s1 v : Int} {ok : Bool} (ht : t ≠ 0) (hb : b0 ≠ 0) (h : (ok = true ∧ ((v = 0 ∧ s0 = 0 ∧ s1 = 0) ∨ (1 ≤ v ∧ v ≤ 3 ∧ ¬ (s0 = 0 ∧ s1 = 0)))) ∨ (ok = false ∧ v = 0 ∧ ¬ (s0 = 0 ∧ s1 = 0))) :
    winnowref05_Right.f (k + 10) 5 t b0 b1 s0 s1 v ok [] [] [] = some 0 := by
  have e : winnowref05_only.f 5 t b0 b1 s0 s1 v ok [] [] [] = some (5, t, b0, b1, s0, s1, v, ok, [], [], []) := by simp [winnowref05_only.f]
  unfold winnowref05_Right.f
  rw [e]
  simp only [Option.bind_some]
  rw [sameA (k + 6)]
  simp only [Option.bind_some]
  have hn : ¬ (s0 = 0 ∧ s1 = 0) → (s0 == 0 && (s1 == 0)) = false := fun g => by
    rw [Bool.eq_false_iff]
    intro q
    exact g (by simpa using q)
  rcases h with ⟨rfl, ⟨rfl, rfl, rfl⟩ | ⟨h1, h2, h3⟩⟩ | ⟨rfl, rfl, h3⟩
  · simp [winnowref05_Right.j0, winnowref05_Right.j1, winnowref05_Right.j2, winnowref05_Right.j3, ht, hb]
  · have hv : v ≠ 0 := by omega
    simp [winnowref05_Right.j0, winnowref05_Right.j1, winnowref05_Right.j2, winnowref05_Right.j3, ht, hb, hn h3, h1, h2, hv]
  · simp [winnowref05_Right.j0, winnowref05_Right.j1, winnowref05_Right.j2, winnowref05_Right.j3, ht, hb, hn h3]
theorem right7 (k : Nat) {t b0 b1 s0 s1 : Int} {ok : Bool} (ht : t ≠ 0) (hb : b0 ≠ 0) (h : (ok = true ∧ s0 = 0 ∧ s1 = 0) ∨ (ok = false ∧ ¬ (s0 = 0 ∧ s1 = 0))) :
    winnowref05_Right.f (k + 10) 7 t b0 b1 s0 s1 0 ok [] [] [] = some 0 := by
  have e : winnowref05_only.f 7 t b0 b1 s0 s1 0 ok [] [] [] = some (7, t, b0, b1, s0, s1, 0, ok, [], [], []) := by simp [winnowref05_only.f]
  unfold winnowref05_Right.f
  rw [e]
  simp only [Option.bind_some]
  rw [sameA (k + 6)]
  simp only [Option.bind_some]
  have hn : ¬ (s0 = 0 ∧ s1 = 0) → (s0 == 0 && (s1 == 0)) = false := fun g => by
    rw [Bool.eq_false_iff]
    intro q
    exact g (by simpa using q)
  rcases h with ⟨rfl, rfl, rfl⟩ | ⟨rfl, h3⟩
  · simp [winnowref05_Right.j0, winnowref05_Right.j1, winnowref05_Right.j2, winnowref05_Right.j3, ht, hb]
  · simp [winnowref05_Right.j0, winnowref05_Right.j1, winnowref05_Right.j2, winnowref05_Right.j3, ht, hb, hn h3]
theorem answers1 (k : Nat) {t b0 b1 x0 x1 x2 x3 x4 y0 y1 y2 y3 y4 : Int} {i j c : Bool} (ht : t ≠ 0) (hb : b0 ≠ 0)
    (hx : (i = true ∧ ((x4 = 0 ∧ x2 = 0 ∧ x3 = 0) ∨ (1 ≤ x4 ∧ x4 ≤ 3 ∧ ¬ (x2 = 0 ∧ x3 = 0)))) ∨ (i = false ∧ ¬ (x0 = 0 ∧ x1 = 0)))
    (hy : j = true ∨ (j = false ∧ ¬ (y0 = 0 ∧ y1 = 0))) :
    winnowlaw12_RegisterAnswers.j1 (k + 11) t i j c b0 b1 x0 x1 x2 x3 x4 y0 y1 y2 y3 y4 = some true := by
  have h5 : ∃ s0 s1 v, register_Answer.f x0 x1 x2 x3 x4 t b0 b1 i false = some (5, t, b0, b1, s0, s1, v, i, [], [], []) ∧ winnowref05_Right.f (k + 10) 5 t b0 b1 s0 s1 v i [] [] [] = some 0 := by
    rcases hx with ⟨rfl, h⟩ | ⟨rfl, h⟩
    · exact ⟨x2, x3, x4, by simp [register_Answer.f], right5 k ht hb (.inl ⟨rfl, h⟩)⟩
    · exact ⟨x0, x1, 0, by simp [register_Answer.f], right5 k ht hb (.inr ⟨rfl, rfl, h⟩)⟩
  have h7 : ∃ s0 s1, register_Answer.f y0 y1 y2 y3 y4 t b0 b1 j true = some (7, t, b0, b1, s0, s1, 0, j, [], [], []) ∧ winnowref05_Right.f (k + 10) 7 t b0 b1 s0 s1 0 j [] [] [] = some 0 := by
    rcases hy with rfl | ⟨rfl, h⟩
    · exact ⟨0, 0, by simp [register_Answer.f], right7 k ht hb (.inl ⟨rfl, rfl, rfl⟩)⟩
    · exact ⟨y0, y1, by simp [register_Answer.f], right7 k ht hb (.inr ⟨rfl, h⟩)⟩
  obtain ⟨s0, s1, v, e5, r5⟩ := h5
  obtain ⟨q0, q1, e7, r7⟩ := h7
  rw [winnowlaw12_RegisterAnswers.j1]
  cases c with
  | true =>
    rw [if_pos rfl, e5]
    simp only [Option.bind_some]
    rw [r5]
    simp only [Option.bind_some]
    rw [if_pos trivial, alive12 (by omega)]
    rfl
  | false =>
    rw [if_neg (by decide), e5]
    simp only [Option.bind_some]
    rw [r5]
    simp only [Option.bind_some]
    rw [if_pos trivial, e7]
    simp only [Option.bind_some]
    rw [r7]
    simp only [Option.bind_some]
    rw [if_pos trivial, alive12 (by omega)]
    rfl
theorem RegisterAnswers (p0 p1 t0 t1 v b0 b1 u t : Int) (h0 : 0 ≤ p0) (h1 : 0 ≤ p1) (hb0 : 0 ≤ b0) (hb1 : 0 ≤ b1) : winnowlaw12_RegisterAnswers.f 20 p0 p1 t0 t1 v b0 b1 u t = some true := by
  have ha : ∀ b, b = true → winnowlaw12_RegisterAnswers.j0 20 u t b p0 p1 t0 t1 v b0 b1 = some true := by
    rintro _ rfl
    rw [winnowlaw12_RegisterAnswers.j0, if_pos rfl, alive12 (by omega)]
    rfl
  unfold winnowlaw12_RegisterAnswers.f
  rw [rright_eq h0 h1]
  simp only [Option.bind_some]
  by_cases hR : OkR p0 p1 t0 t1 v
  · rw [if_pos (by simpa using hR)]
    by_cases c1 : b0 = 0
    · rw [if_pos c1]; exact ha _ rfl
    rw [if_neg c1]
    by_cases c2 : t = 0
    · rw [if_pos c2]; exact ha _ rfl
    rw [if_neg c2]
    by_cases c3 : u < 1
    · rw [if_pos c3]; exact ha _ rfl
    rw [if_neg c3]
    by_cases c4 : u > 3
    · exact ha _ (by simpa using c4)
    rw [show decide (u > 3) = false from by simpa using c4, winnowlaw12_RegisterAnswers.j0, if_neg (by decide), own_eq]
    simp only [Option.bind_some]
    have hlp : ∀ q0 q1 : Int, lt2 b0 b1 q0 q1 → ¬ (q0 = 0 ∧ q1 = 0) := by intro q0 q1 h; unfold lt2 at h; omega
    have hx : ∃ (i : Bool) (x0 x1 : Int), register_Prepare.f 19 p0 p1 t0 t1 v b0 b1 = some (x0, x1, t0, t1, v, i) ∧ ((i = true ∧ ((v = 0 ∧ t0 = 0 ∧ t1 = 0) ∨ (1 ≤ v ∧ v ≤ 3 ∧ ¬ (t0 = 0 ∧ t1 = 0)))) ∨ (i = false ∧ ¬ (x0 = 0 ∧ x1 = 0))) := by
      by_cases hP : OkP p0 p1 b0 b1
      · refine ⟨true, b0, b1, prep_yes (by omega) hP, .inl ⟨rfl, ?_⟩⟩
        rcases hR with ⟨g1, g2, g3⟩ | ⟨g1, g2, g3, _⟩
        · exact .inl ⟨g3, g1, g2⟩
        · exact .inr ⟨g2, g3, g1⟩
      · refine ⟨false, p0, p1, prep_no (by omega) hP, .inr ⟨rfl, hlp _ _ (Classical.byContradiction fun g => hP ⟨by omega, g⟩)⟩⟩
    have hy : ∃ (j : Bool) (y0 y1 y2 y3 y4 : Int), register_Accept.f 19 p0 p1 t0 t1 v b0 b1 u = some (y0, y1, y2, y3, y4, j) ∧ (j = true ∨ (j = false ∧ ¬ (y0 = 0 ∧ y1 = 0))) := by
      by_cases hA : OkA p0 p1 t0 t1 v b0 b1 u
      · exact ⟨true, _, _, _, _, _, acc_yes (by omega) hA, .inl rfl⟩
      · refine ⟨false, _, _, _, _, _, acc_no (by omega) hA, .inr ⟨rfl, ?_⟩⟩
        by_cases hP : OkP p0 p1 b0 b1
        · have ht : t0 = b0 ∧ t1 = b1 ∧ v ≠ u := Classical.byContradiction fun g => hA ⟨hP, by omega, by omega, g⟩
          rcases hR with ⟨g1, g2, g3⟩ | ⟨g1, g2, g3, g4⟩
          · omega
          · unfold lt2 at g4; omega
        · exact hlp _ _ (Classical.byContradiction fun g => hP ⟨by omega, g⟩)
    obtain ⟨i, x0, x1, ex, hx⟩ := hx
    obtain ⟨j, y0, y1, y2, y3, y4, ey, hy⟩ := hy
    rw [ex, ey]
    simp only [Option.bind_some]
    have hend : ∀ c, winnowlaw12_RegisterAnswers.j1 19 t i j c b0 b1 x0 x1 t0 t1 v y0 y1 y2 y3 y4 = some true := fun c => answers1 8 c2 c1 hx hy
    by_cases hj : j = true
    · rw [if_pos hj]; exact hend _
    · rw [if_neg hj]
      split <;> exact hend _
  · rw [if_neg (by simpa using hR)]
    exact ha _ rfl
end Go.Proofs.Ytjnhmdmcmmffeaa.PAll
