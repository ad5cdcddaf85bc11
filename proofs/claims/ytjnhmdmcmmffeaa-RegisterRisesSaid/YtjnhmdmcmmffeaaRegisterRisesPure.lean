/-
  The plain law RegisterRises: a right register stays right and never falls, and what it has taken under a ballot stays under it.
  Conditions: none beyond the ranges of Go's own kinds.
-/
import Derived.Test.YtjnhmdmcmmffeaaRegisterRight
import Derived.Test.YtjnhmdmcmmffeaaPAllRises
namespace Go.Proofs.Ytjnhmdmcmmffeaa.PAll
open Go.RowKit Go.Proofs.YtjnhmdmcmmffeaaW.PrintWords Go.Proofs.YtjnhmdmcmmffeaaW.PrintLast Go.Proofs.YtjnhmdmcmmffeaaW.PrintMore
set_option linter.unusedVariables false
set_option linter.unusedSimpArgs false

theorem rises1 {k : Nat} (hk : 3 < k) (p0 p1 t0 t1 v b0 b1 u : Int) (hA : OkA p0 p1 t0 t1 v b0 b1 u) : winnowlaw12_RegisterRises.j1 k u true true false p0 p1 t0 t1 v b0 b1 b0 b1 t0 t1 v b0 b1 b0 b1 u = some true := by
  obtain ⟨k, rfl⟩ : ∃ j, k = j + 1 := ⟨k - 1, by omega⟩
  rw [winnowlaw12_RegisterRises.j1, if_neg (by decide), if_pos rfl, if_pos rfl, if_pos (by simp), if_pos rfl, alive12 (by omega)]
  rfl
theorem rises2 {k : Nat} (hk : 3 < k) (p0 p1 t0 t1 v b0 b1 u : Int) : winnowlaw12_RegisterRises.j1 k u true false false p0 p1 t0 t1 v b0 b1 b0 b1 t0 t1 v p0 p1 t0 t1 v = some true := by
  obtain ⟨k, rfl⟩ : ∃ j, k = j + 1 := ⟨k - 1, by omega⟩
  rw [winnowlaw12_RegisterRises.j1, if_neg (by decide), if_pos rfl, if_neg (by decide), own_eq]
  simp only [Option.bind_some]
  rw [if_pos (by simp), alive12 (by omega)]
  rfl
theorem rises3 {k : Nat} (hk : 3 < k) (p0 p1 t0 t1 v b0 b1 u : Int) : winnowlaw12_RegisterRises.j1 k u false false false p0 p1 t0 t1 v b0 b1 p0 p1 t0 t1 v p0 p1 t0 t1 v = some true := by
  obtain ⟨k, rfl⟩ : ∃ j, k = j + 1 := ⟨k - 1, by omega⟩
  rw [winnowlaw12_RegisterRises.j1, if_neg (by decide), if_neg (by decide), own_eq]
  simp only [Option.bind_some]
  rw [if_pos (by simp), if_neg (by decide)]
  rw [if_pos (by simp), alive12 (by omega)]
  rfl
theorem RegisterRises (p0 p1 t0 t1 v b0 b1 u : Int) (h0 : 0 ≤ p0) (h1 : 0 ≤ p1) : winnowlaw12_RegisterRises.f 20 p0 p1 t0 t1 v b0 b1 u = some true := by
  unfold winnowlaw12_RegisterRises.f
  rw [rright_eq h0 h1]
  simp only [Option.bind_some]
  by_cases hR : OkR p0 p1 t0 t1 v
  · rw [if_pos (by simpa using hR), own_eq]
    simp only [Option.bind_some]
    have hpp : ¬ lt2 p0 p1 p0 p1 := by unfold lt2; omega
    have htt : ¬ lt2 t0 t1 t0 t1 := by unfold lt2; omega
    by_cases hA : OkA p0 p1 t0 t1 v b0 b1 u
    · have hP := hA.1
      have hb := hP.1
      have hbp := hP.2
      have hRx : OkR b0 b1 t0 t1 v := by
        rcases hR with h | ⟨h1, h2, h3, h4⟩
        · exact .inl h
        · exact .inr ⟨h1, h2, h3, by unfold lt2 at *; omega⟩
      have hRy : OkR b0 b1 b0 b1 u := .inr ⟨by omega, hA.2.1, hA.2.2.1, by unfold lt2; omega⟩
      have hbt : ¬ lt2 b0 b1 t0 t1 := by
        rcases hR with ⟨h1, h2, _⟩ | ⟨_, _, _, h4⟩
        · unfold lt2; omega
        · unfold lt2 at *; omega
      rw [prep_yes (by omega) hP, acc_yes (by omega) hA]
      simp only [Option.bind_some]
      rw [right_eq (by omega), right_eq (by omega)]
      simp only [Option.bind_some, rless_eq]
      rw [if_pos (by simpa using hRx), if_pos (by simpa using hRy), if_neg (by simpa using hbp), if_neg (by simpa using hbp)]
      rw [show decide (lt2 b0 b1 t0 t1) = false from by simpa using hbt, winnowlaw12_RegisterRises.j0, if_neg (by decide), if_neg (by simp), if_pos rfl]
      by_cases hq : b0 = t0 ∧ b1 = t1
      · rw [if_pos (by simpa using hq)]
        have hv : v = u := Classical.byContradiction fun hne => hA.2.2.2 ⟨hq.1.symm, hq.2.symm, hne⟩
        have e : (u != v) = false := by simp [hv]
        rw [e]
        exact rises1 (by omega) p0 p1 t0 t1 v b0 b1 u hA
      · rw [if_neg (by simpa using hq)]
        exact rises1 (by omega) p0 p1 t0 t1 v b0 b1 u hA
    · obtain ⟨i, x0, x1, hj, hx, hl, hp⟩ : ∃ (i : Bool) (x0 x1 : Int), winnowlaw12_RegisterRises.j1 19 u i false false p0 p1 t0 t1 v b0 b1 x0 x1 t0 t1 v p0 p1 t0 t1 v = some true ∧ OkR x0 x1 t0 t1 v ∧ ¬ lt2 x0 x1 p0 p1 ∧ register_Prepare.f 20 p0 p1 t0 t1 v b0 b1 = some (x0, x1, t0, t1, v, i) := by
        by_cases hP : OkP p0 p1 b0 b1
        · refine ⟨true, b0, b1, rises2 (by omega) p0 p1 t0 t1 v b0 b1 u, ?_, hP.2, prep_yes (by omega) hP⟩
          have hbp := hP.2
          rcases hR with h | ⟨h1, h2, h3, h4⟩
          · exact .inl h
          · exact .inr ⟨h1, h2, h3, by unfold lt2 at *; omega⟩
        · exact ⟨false, p0, p1, rises3 (by omega) p0 p1 t0 t1 v b0 b1 u, hR, hpp, prep_no (by omega) hP⟩
      rw [hp, acc_no (by omega) hA]
      simp only [Option.bind_some]
      rw [right_eq (by omega), right_eq (by omega)]
      simp only [Option.bind_some, rless_eq]
      rw [if_pos (by simpa using hx), if_pos (by simpa using hR), if_neg (by simpa using hl), if_neg (by simpa using hpp)]
      rw [show decide (lt2 t0 t1 t0 t1) = false from by simpa using htt, winnowlaw12_RegisterRises.j0, if_neg (by decide), if_neg (by simp), if_pos rfl, if_pos (by simp)]
      have e : (v != v) = false := by simp
      rw [e]
      exact hj
  · rw [if_neg (by simpa using hR), alive12 (by omega)]
    rfl
end Go.Proofs.Ytjnhmdmcmmffeaa.PAll
