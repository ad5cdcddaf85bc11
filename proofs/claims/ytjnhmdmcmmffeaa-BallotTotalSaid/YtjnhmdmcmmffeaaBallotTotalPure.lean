/-
  The plain law BallotTotal: of two ballots that are not the same one is below the other, the order goes on, the greatest of some is one of them and above none.
  Conditions: none beyond the ranges of Go's own kinds.
-/
import Derived.Test.YtjnhmdmcmmffeaaBallotPure
import Derived.Test.YtjnhmdmcmmffeaaPAllx13
namespace Go.Proofs.Ytjnhmdmcmmffeaa.PAll
open Go.RowKit Go.Proofs.YtjnhmdmcmmffeaaW.PrintWords Go.Proofs.YtjnhmdmcmmffeaaW.PrintLast Go.Proofs.YtjnhmdmcmmffeaaW.PrintMore
set_option linter.unusedVariables false
set_option linter.unusedSimpArgs false

theorem total_tells (xs : List S24) (m0 m1 : Int) (hn : xs.length ≤ 1000000) (hab : ∀ y ∈ xs, ¬ lt2 m0 m1 y.f0 y.f1) (d : Nat) : ∀ (k : Nat) (i : Int) (is : Bool), 0 ≤ i → i ≤ xs.length → (xs.length : Int) - i = d → d + 4 < k →
    (is = true ∨ ∃ x ∈ xs.drop i.toNat, x.f0 = m0 ∧ x.f1 = m1) → winnowlaw11_BallotTotal.l0 k xs is i m0 m1 = some true := by
  induction d with
  | zero =>
    intro k i is h0 h1 hd hk his
    obtain ⟨k, rfl⟩ : ∃ j, k = j + 1 := ⟨k - 1, by omega⟩
    simp only [winnowlaw11_BallotTotal.l0]
    rw [if_neg (by omega)]
    rcases his with rfl | ⟨x, hx, _⟩
    · rw [if_pos rfl, alive11_ge (by omega)]; rfl
    · rw [List.drop_eq_nil_of_le (by omega)] at hx
      cases hx
  | succ d ih =>
    intro k i is h0 h1 hd hk his
    obtain ⟨k, rfl⟩ : ∃ j, k = j + 1 := ⟨k - 1, by omega⟩
    have hlt : i < (xs.length : Int) := by omega
    have hdr := drop_rd xs i h0 hlt
    have hmem : rd_T24 xs i ∈ xs := List.mem_of_mem_drop (i := i.toNat) (by rw [hdr]; exact List.mem_cons_self ..)
    simp only [winnowlaw11_BallotTotal.l0]
    rw [if_pos hlt, if_pos h0, less_ge (by omega), wrap_up h0 hlt hn]
    simp only [Option.bind_some]
    rw [if_neg (by simpa using hab _ hmem)]
    have hi := fun is => ih k (i + 1) is (by omega) (by omega) (by omega) (by omega)
    cases his' : is with
    | true => rw [if_pos rfl]; exact hi true (.inl rfl)
    | false =>
      rw [if_neg (by decide)]
      refine hi _ ?_
      rcases his with h | ⟨x, hx, hx0, hx1⟩
      · rw [his'] at h; cases h
      · rw [hdr] at hx
        rcases List.mem_cons.1 hx with rfl | hx
        · exact .inl (by simp [hx0, hx1])
        · exact .inr ⟨x, hx, hx0, hx1⟩
theorem total_end (l : List S24) (hok : ∀ x ∈ l, ok24 x) (hl : l.length ≤ 1000000) (k : Nat) (hk : l.length + 6 < k) : winnowlaw11_BallotTotal.j0 k l false = some true := by
  obtain ⟨k, rfl⟩ : ∃ j, k = j + 1 := ⟨k - 1, by omega⟩
  simp only [winnowlaw11_BallotTotal.j0]
  rw [if_neg (by decide), max_eq l hl k (by omega)]
  simp only [Option.bind_some]
  refine total_tells l _ _ hl (fold_above l z24).2 l.length k 0 _ (by omega) (by omega) (by omega) (by omega) ?_
  cases l with
  | nil => exact .inl (by simp)
  | cons x xs => exact .inr (by
      have := fold_in (x :: xs) (fun y hy => ⟨(wf_u64 (hok y hy).1).1, (wf_u64 (hok y hy).2).1⟩) (by simp)
      simpa using this)
theorem BallotTotal (x y z : S24) (l : List S24) (hok : ∀ x ∈ l, ok24 x) : ∃ k, winnowlaw11_BallotTotal.f k x.f0 x.f1 y.f0 y.f1 z.f0 z.f1 l = some true := by
  refine ⟨l.length + 7, ?_⟩
  unfold winnowlaw11_BallotTotal.f
  have ha : winnowlaw11_alive.f (l.length + 7) = some true := alive11 (l.length + 4)
  by_cases hl : (l.length : Int) > 200
  · rw [if_pos hl, ha]; rfl
  · have he := total_end l hok (by omega) (l.length + 7) (by omega)
    have hls : ∀ a b c d, ballot_Less.f (l.length + 7) a b c d = some (decide (lt2 a b c d)) := less_eq (l.length + 4)
    rw [if_neg hl]
    simp only [hls, Option.bind_some]
    rw [if_neg (by simp [lt2])]
    by_cases hxy : lt2 x.f0 x.f1 y.f0 y.f1
    · have hyx : ¬ lt2 y.f0 y.f1 x.f0 x.f1 := by unfold lt2 at *; omega
      have hne : ¬ (x.f0 = y.f0 ∧ x.f1 = y.f1) := by unfold lt2 at *; omega
      rw [if_neg (by simp [hxy, hyx]; intro h; exact fun g => hne ⟨h, g⟩), if_pos (by simpa using hxy)]
      by_cases hyz : lt2 y.f0 y.f1 z.f0 z.f1
      · have hxz := lt2_trans hxy hyz
        rw [if_pos (by simpa using hyz)]
        simp only [hxz, decide_true, Bool.not_true]
        exact he
      · rw [if_neg (by simpa using hyz)]; exact he
    · by_cases hyx : lt2 y.f0 y.f1 x.f0 x.f1
      · have hne : ¬ (x.f0 = y.f0 ∧ x.f1 = y.f1) := by unfold lt2 at *; omega
        rw [if_neg (by simp [hxy, hyx]; intro h; exact fun g => hne ⟨h, g⟩), if_neg (by simpa using hxy)]
        exact he
      · have hq : x.f0 = y.f0 ∧ x.f1 = y.f1 := by unfold lt2 at *; omega
        rw [if_neg (by simp [hq.1, hq.2, lt2]), if_neg (by simpa using hxy)]
        exact he
end Go.Proofs.Ytjnhmdmcmmffeaa.PAll
