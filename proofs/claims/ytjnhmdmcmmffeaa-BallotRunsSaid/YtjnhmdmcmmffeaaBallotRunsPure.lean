/-
  The plain law BallotRuns: ballots that are each the next of the greatest one rise, whoever proposes, and stop at the end of numbers.
  Conditions: none beyond the ranges of Go's own kinds.
-/
import Derived.Test.YtjnhmdmcmmffeaaBallotPure
import Derived.Test.YtjnhmdmcmmffeaaPAllx14
namespace Go.Proofs.Ytjnhmdmcmmffeaa.PAll
open Go.RowKit Go.Proofs.YtjnhmdmcmmffeaaW.PrintWords Go.Proofs.YtjnhmdmcmmffeaaW.PrintLast Go.Proofs.YtjnhmdmcmmffeaaW.PrintMore
set_option linter.unusedVariables false
set_option linter.unusedSimpArgs false

theorem rd_mem {xs : List Int} {i : Int} (h0 : 0 ≤ i) (h1 : i < (xs.length : Int)) : rd xs i ∈ xs := by
  have hi : i.toNat < xs.length := by omega
  unfold rd
  rw [List.getD_eq_getElem?_getD, List.getElem?_eq_getElem hi]
  exact List.getElem_mem hi
theorem two_max (s0 s1 m n : Int) (h0 : 0 ≤ s0) (hm : s0 < m) : [(⟨s0, s1⟩ : S24), ⟨m, n⟩].foldl up z24 = ⟨m, n⟩ := by
  have e0 : z24.f0 = 0 ∧ z24.f1 = 0 := ⟨rfl, rfl⟩
  simp only [List.foldl_cons, List.foldl_nil]
  have h : ∀ x : S24, x = ⟨s0, s1⟩ ∨ x = z24 → up x ⟨m, n⟩ = ⟨m, n⟩ := by
    intro x hx
    unfold up
    rw [if_pos]
    unfold lt2
    rcases hx with rfl | rfl
    · exact .inl hm
    · rw [e0.1]; exact .inl (by show (0 : Int) < m; omega)
  refine h _ ?_
  unfold up
  split
  · exact .inl rfl
  · exact .inr rfl
theorem runs_tells (xs ys : List Int) (hx : ∀ x ∈ xs, (Lit.int .u64 x).wf = true) (hy : ∀ x ∈ ys, (Lit.int .u64 x).wf = true) (hn : xs.length ≤ 60) (d : Nat) : ∀ (k : Nat) (i s0 s1 : Int), 0 ≤ i → i ≤ xs.length → (xs.length : Int) - i = d → 3 * d + 10 < k → 0 ≤ s0 → s0 ≤ 18446744073709551615 →
    winnowlaw11_BallotRuns.l0 k xs ys i s0 s1 = some true := by
  induction d with
  | zero =>
    intro k i s0 s1 h0 h1 hd hk hs0 hs1
    obtain ⟨k, rfl⟩ : ∃ j, k = j + 1 := ⟨k - 1, by omega⟩
    rw [winnowlaw11_BallotRuns.l0, if_neg (by omega)]
    obtain ⟨k, rfl⟩ : ∃ j, k = j + 1 := ⟨k - 1, by omega⟩
    rw [winnowlaw11_BallotRuns.j2, if_neg (by decide), alive11_ge (by omega)]
    rfl
  | succ d ih =>
    intro k i s0 s1 h0 h1 hd hk hs0 hs1
    obtain ⟨k, rfl⟩ : ∃ j, k = j + 1 := ⟨k - 1, by omega⟩
    have hlt : i < (xs.length : Int) := by omega
    rw [winnowlaw11_BallotRuns.l0, if_pos hlt]
    obtain ⟨k, rfl⟩ : ∃ j, k = j + 1 := ⟨k - 1, by omega⟩
    rw [winnowlaw11_BallotRuns.j2]
    by_cases hl2 : i < (ys.length : Int)
    · rw [if_pos (by simpa using hl2), if_pos h0, if_pos hl2, if_pos hlt]
      have hv := wf_u64 (hy _ (rd_mem h0 hl2))
      have hw : wrap64 (i + 1) = i + 1 := by unfold wrap64; omega
      have hi := fun s0 s1 => ih k (i + 1) s0 s1 (by omega) (by omega) (by omega) (by omega)
      rcases bnext s0 (rd ys i) s1 (rd xs i) ⟨hs0, hs1⟩ hv with ⟨e, h⟩ | ⟨hn0, hst, h⟩ | ⟨m, hn0, hm1, hm2, hm3, hm4, hm5, h⟩
      · rw [h]; simp only [Option.bind_some]
        rw [if_pos e, if_pos trivial, hw]
        exact hi s0 s1 hs0 hs1
      · rw [h]; simp only [Option.bind_some]
        rw [if_neg hn0, if_pos trivial, ]
        obtain ⟨k, rfl⟩ : ∃ j, k = j + 1 := ⟨k - 1, by omega⟩
        have hi := ih k (i + 1) s0 s1 (by omega) (by omega) (by omega) (by omega) hs0 hs1
        by_cases e : s0 = 18446744073709551615
        · rw [if_pos e, winnowlaw11_BallotRuns.j3, if_neg (by decide), hw]
          exact hi
        · have hv' : rd ys i = 18446744073709551615 := by omega
          rw [if_neg e, winnowlaw11_BallotRuns.j3, if_neg (by rw [hv']; decide), hw]
          exact hi
      · rw [h]; simp only [Option.bind_some]
        rw [if_neg hn0, if_neg (by decide), if_pos trivial, if_neg (by omega), max_eq _ (by simp) k (by simp; omega), two_max s0 s1 m (rd xs i) hs0 hm3]
        simp only [Option.bind_some]
        rw [if_neg (by simp), hw]
        exact hi m (rd xs i) (by omega) (by omega)
    · rw [if_neg (by simpa using hl2), alive11_ge (by omega)]
      rfl
theorem BallotRuns (a : Int) (xs ys : List Int) (ha : (Lit.int .u64 a).wf = true) (hx : ∀ x ∈ xs, (Lit.int .u64 x).wf = true) (hy : ∀ x ∈ ys, (Lit.int .u64 x).wf = true) : winnowlaw11_BallotRuns.f 500 a xs ys = some true := by
  have h0 := wf_u64 ha
  unfold winnowlaw11_BallotRuns.f
  have hal : ∀ b, b = true → winnowlaw11_BallotRuns.j0 500 a xs ys b = some true := by
    rintro _ rfl
    rw [winnowlaw11_BallotRuns.j0, if_pos rfl, alive11_ge (by omega)]
    rfl
  by_cases h1 : (xs.length : Int) > 60
  · rw [if_pos h1]; exact hal _ rfl
  · rw [if_neg h1]
    by_cases h2 : (ys.length : Int) > 60
    · exact hal _ (by simpa using h2)
    · rw [winnowlaw11_BallotRuns.j0, if_neg (by simpa using h2)]
      exact runs_tells xs ys hx hy (by omega) xs.length 499 0 a 0 (by omega) (by omega) (by omega) (by omega) h0.1 h0.2
end Go.Proofs.Ytjnhmdmcmmffeaa.PAll
