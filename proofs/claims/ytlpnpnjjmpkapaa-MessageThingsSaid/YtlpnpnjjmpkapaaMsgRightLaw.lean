/-
  The plain law MessageRight, joined: every kind of packet answers alike.
  Conditions: numbers of their kinds; few spans, members and ids.
-/
import Derived.Test.YtlpnpnjjmpkapaaMsgRightPure
import Derived.Test.YtlpnpnjjmpkapaaPAllx11
import Derived.Test.YtlpnpnjjmpkapaaPAllx19
import Derived.Test.YtlpnpnjjmpkapaaPAllx20
import Derived.Test.YtlpnpnjjmpkapaaPAllx4
namespace Go.Proofs.Ytlpnpnjjmpkapaa.PAll
open Go.RowKit Go.Proofs.YtlpnpnjjmpkapaaW.PrintWords Go.Proofs.YtlpnpnjjmpkapaaW.PrintLast Go.Proofs.YtlpnpnjjmpkapaaW.PrintMore
set_option linter.unusedVariables false
set_option linter.unusedSimpArgs false
theorem fin_eq (b x : Bool) : message_Right.fin b (some x) = some (if (b && x) = true then 0 else 6) := by
 cases b <;> cases x <;> rfl
theorem tB_if (v : Int) : message_Right.tB v = if v ≥ 1 then decide (v ≤ 3) else false := by
 unfold message_Right.tB
 by_cases h : v ≥ 1
 ·rw [if_pos h, decide_eq_true (by omega), Bool.true_and]
 ·rw [if_neg h, decide_eq_false (by omega), Bool.false_and]
theorem tB_zero {v : Int} (h : message_Right.tB v = true) : (v == 0) = false := by
 unfold message_Right.tB at h
 rw [Bool.and_eq_true, decide_eq_true_eq] at h
 exact beq_eq_false_iff_ne.2 (by omega)
theorem pos_ne {v : Int} (h : 0 ≤ v) : decide (0 < v) = (v != 0) := by
 by_cases e : v = 0
 ·rw [e]; rfl
 ·rw [decide_eq_true (by omega), bne_iff_ne.2 e]
theorem ifB {x y : Bool} (h : x = y) : some (if x = true then (0 : Int) else 6) = some (if y = true then 0 else 6) := by rw [h]
theorem jj (m : Nat) (x3 x4 : Bool) (a0 a1 a2 a3 a4 a5 a6 : Int) (a7 : Bool) (l8 : List S76) (l9 : List S92) (l10 : List Int) :
  winnowref05_Right.j0 (m + 1 + 1) x3 x4 a0 a1 a2 a3 a4 a5 a6 a7 l8 l9 l10 = winnowref05_Right.j2 m x3 x4 (message_Right.tB a6) a0 (a0 == 1 || a0 == 2) a0 a1 a2 a3 a4 a5 a6 a7 l8 l9 l10 := by
 rw [tB_if]
 by_cases h : a6 ≥ 1 <;> by_cases h1 : a0 = 1
 ·rw [winnowref05_Right.j0, if_pos h, if_pos h, winnowref05_Right.j1, if_pos h1, beq_iff_eq.2 h1, Bool.true_or]
 ·rw [winnowref05_Right.j0, if_pos h, if_pos h, winnowref05_Right.j1, if_neg h1, beq_eq_false_iff_ne.2 h1, Bool.false_or]
 ·rw [winnowref05_Right.j0, if_neg h, if_neg h, winnowref05_Right.j1, if_pos h1, beq_iff_eq.2 h1, Bool.true_or]
 ·rw [winnowref05_Right.j0, if_neg h, if_neg h, winnowref05_Right.j1, if_neg h1, beq_eq_false_iff_ne.2 h1, Bool.false_or]
/-! ### what the document's law says, kind by kind -/
theorem ref1 (a1 a2 a3 a4 a5 a6 : Int) (a7 : Bool) {l8 : List S76} {l9 : List S92} {l10 : List Int} (hl8 : l8.length ≤ 40) (hl9 : l9.length ≤ 100) (hl10 : l10.length ≤ 100) (w8 : ∀ s ∈ l8, 0 ≤ s.f1 ∧ s.f1 < 18446744073709551616) (w9 : ∀ s ∈ l9, 0 ≤ s.f0) (w10 : ∀ s ∈ l10, 0 ≤ s) (p1 : 0 ≤ a1) (p2 : 0 ≤ a2) {k : Nat} (hk : 4000 ≤ k) : winnowref05_Right.f k 1 a1 a2 a3 a4 a5 a6 a7 l8 l9 l10 = some (if ((rwB l8 l8 l9 ([] : List S92) l10 ([] : List Int) && scB 1 a1 a2 a3 a4 a5 a6 a7 1 a1 0 0 0 0 0 false) && ((a1 != 0) && (goB a1 [] l8 && lnB l8.length))) = true then 0 else 6) := by
 obtain ⟨k, rfl⟩ : ∃ m, k = m + 1 + 1 + 1 + 1 := ⟨k - 4, by omega⟩
 have ho : winnowref05_only.f (k + 1 + 1 + 1 + 1) 1 a1 a2 a3 a4 a5 a6 a7 l8 l9 l10 = some (1, a1, 0, 0, 0, 0, 0, false, l8, ([] : List S92), ([] : List Int)) := by
  unfold winnowref05_only.f
  rw [if_pos rfl, winnowref05_only.j0]
  rfl
 unfold winnowref05_Right.f
 rw [ho]
 simp only [Option.bind_some]
 rw [same_eq_ 1 a1 a2 a3 a4 a5 a6 a7 1 a1 0 0 0 0 0 false (.inl rfl) (.inr rfl) (.inr rfl) (by omega) (by omega) (by omega) (by omega)]
 simp only [Option.bind_some]
 simp only [↓reduceIte, Int.reduceEq]
 generalize (rwB l8 l8 l9 ([] : List S92) l10 ([] : List Int) && scB 1 a1 a2 a3 a4 a5 a6 a7 1 a1 0 0 0 0 0 false) = sm
 have hx : (if sm = true then winnowref05_Right.j0 (k + 1 + 1 + 1 + 1) (a4 == 0 && a5 == 0) (a1 != 0) 1 a1 a2 a3 a4 a5 a6 a7 l8 l9 l10 else winnowref05_Right.j0 (k + 1 + 1 + 1 + 1) (a4 == 0 && a5 == 0) false 1 a1 a2 a3 a4 a5 a6 a7 l8 l9 l10) = winnowref05_Right.j2 (k + 1 + 1) (a4 == 0 && a5 == 0) (sm && (a1 != 0)) (message_Right.tB a6) 1 (1 == 1 || 1 == 2) 1 a1 a2 a3 a4 a5 a6 a7 l8 l9 l10 := by
  cases sm
  ·rw [if_neg (by decide), jj]; rfl
  ·rw [if_pos rfl, jj]; rfl
 refine Eq.trans hx ?_
 rw [← Bool.and_assoc]
 generalize (sm && (a1 != 0)) = x4
 rw [winnowref05_Right.j2]
 rw [if_pos (by decide), rs_eq a1 l8 hl8 (by omega)]
 simp only [Option.bind_some]
 cases x4 <;> cases (goB a1 [] l8 && lnB l8.length) <;> rfl
theorem ref2 (a1 a2 a3 a4 a5 a6 : Int) (a7 : Bool) {l8 : List S76} {l9 : List S92} {l10 : List Int} (hl8 : l8.length ≤ 40) (hl9 : l9.length ≤ 100) (hl10 : l10.length ≤ 100) (w8 : ∀ s ∈ l8, 0 ≤ s.f1 ∧ s.f1 < 18446744073709551616) (w9 : ∀ s ∈ l9, 0 ≤ s.f0) (w10 : ∀ s ∈ l10, 0 ≤ s) (p1 : 0 ≤ a1) (p2 : 0 ≤ a2) {k : Nat} (hk : 4000 ≤ k) : winnowref05_Right.f k 2 a1 a2 a3 a4 a5 a6 a7 l8 l9 l10 = some (if ((rwB l8 l8 l9 ([] : List S92) l10 ([] : List Int) && scB 2 a1 a2 a3 a4 a5 a6 a7 2 a1 0 0 0 0 0 false) && ((a1 != 0) && (goB a1 [] l8 && lnB l8.length))) = true then 0 else 6) := by
 obtain ⟨k, rfl⟩ : ∃ m, k = m + 1 + 1 + 1 + 1 := ⟨k - 4, by omega⟩
 have ho : winnowref05_only.f (k + 1 + 1 + 1 + 1) 2 a1 a2 a3 a4 a5 a6 a7 l8 l9 l10 = some (2, a1, 0, 0, 0, 0, 0, false, l8, ([] : List S92), ([] : List Int)) := by
  unfold winnowref05_only.f
  rw [if_neg (by decide), winnowref05_only.j0]
  rfl
 unfold winnowref05_Right.f
 rw [ho]
 simp only [Option.bind_some]
 rw [same_eq_ 2 a1 a2 a3 a4 a5 a6 a7 2 a1 0 0 0 0 0 false (.inl rfl) (.inr rfl) (.inr rfl) (by omega) (by omega) (by omega) (by omega)]
 simp only [Option.bind_some]
 simp only [↓reduceIte, Int.reduceEq]
 generalize (rwB l8 l8 l9 ([] : List S92) l10 ([] : List Int) && scB 2 a1 a2 a3 a4 a5 a6 a7 2 a1 0 0 0 0 0 false) = sm
 have hx : (if sm = true then winnowref05_Right.j0 (k + 1 + 1 + 1 + 1) (a4 == 0 && a5 == 0) (a1 != 0) 2 a1 a2 a3 a4 a5 a6 a7 l8 l9 l10 else winnowref05_Right.j0 (k + 1 + 1 + 1 + 1) (a4 == 0 && a5 == 0) false 2 a1 a2 a3 a4 a5 a6 a7 l8 l9 l10) = winnowref05_Right.j2 (k + 1 + 1) (a4 == 0 && a5 == 0) (sm && (a1 != 0)) (message_Right.tB a6) 2 (2 == 1 || 2 == 2) 2 a1 a2 a3 a4 a5 a6 a7 l8 l9 l10 := by
  cases sm
  ·rw [if_neg (by decide), jj]; rfl
  ·rw [if_pos rfl, jj]; rfl
 refine Eq.trans hx ?_
 rw [← Bool.and_assoc]
 generalize (sm && (a1 != 0)) = x4
 rw [winnowref05_Right.j2]
 rw [if_pos (by decide), rs_eq a1 l8 hl8 (by omega)]
 simp only [Option.bind_some]
 cases x4 <;> cases (goB a1 [] l8 && lnB l8.length) <;> rfl
theorem ref3 (a1 a2 a3 a4 a5 a6 : Int) (a7 : Bool) {l8 : List S76} {l9 : List S92} {l10 : List Int} (hl8 : l8.length ≤ 40) (hl9 : l9.length ≤ 100) (hl10 : l10.length ≤ 100) (w8 : ∀ s ∈ l8, 0 ≤ s.f1 ∧ s.f1 < 18446744073709551616) (w9 : ∀ s ∈ l9, 0 ≤ s.f0) (w10 : ∀ s ∈ l10, 0 ≤ s) (p1 : 0 ≤ a1) (p2 : 0 ≤ a2) {k : Nat} (hk : 4000 ≤ k) : winnowref05_Right.f k 3 a1 a2 a3 a4 a5 a6 a7 l8 l9 l10 = some (if ((rwB l8 ([] : List S76) l9 l9 l10 ([] : List Int) && scB 3 a1 a2 a3 a4 a5 a6 a7 3 0 0 0 0 0 0 false) && (true && (riseB 0 (l9.map (·.f0)) && lnB l9.length && !l9.any oddB))) = true then 0 else 6) := by
 obtain ⟨k, rfl⟩ : ∃ m, k = m + 1 + 1 + 1 + 1 := ⟨k - 4, by omega⟩
 have ho : winnowref05_only.f (k + 1 + 1 + 1 + 1) 3 a1 a2 a3 a4 a5 a6 a7 l8 l9 l10 = some (3, 0, 0, 0, 0, 0, 0, false, ([] : List S76), l9, ([] : List Int)) := by
  unfold winnowref05_only.f
  rw [if_neg (by decide), winnowref05_only.j0]
  rfl
 unfold winnowref05_Right.f
 rw [ho]
 simp only [Option.bind_some]
 rw [same_eq_ 3 a1 a2 a3 a4 a5 a6 a7 3 0 0 0 0 0 0 false (.inr rfl) (.inl rfl) (.inr rfl) (by omega) (by omega) (by omega) (by omega)]
 simp only [Option.bind_some]
 simp only [↓reduceIte, Int.reduceEq]
 generalize (rwB l8 ([] : List S76) l9 l9 l10 ([] : List Int) && scB 3 a1 a2 a3 a4 a5 a6 a7 3 0 0 0 0 0 0 false) = sm
 have hx : (if sm = true then winnowref05_Right.j0 (k + 1 + 1 + 1 + 1) (a4 == 0 && a5 == 0) true 3 a1 a2 a3 a4 a5 a6 a7 l8 l9 l10 else winnowref05_Right.j0 (k + 1 + 1 + 1 + 1) (a4 == 0 && a5 == 0) false 3 a1 a2 a3 a4 a5 a6 a7 l8 l9 l10) = winnowref05_Right.j2 (k + 1 + 1) (a4 == 0 && a5 == 0) (sm && true) (message_Right.tB a6) 3 (3 == 1 || 3 == 2) 3 a1 a2 a3 a4 a5 a6 a7 l8 l9 l10 := by
  cases sm
  ·rw [if_neg (by decide), jj]; rfl
  ·rw [if_pos rfl, jj]; rfl
 refine Eq.trans hx ?_
 rw [← Bool.and_assoc]
 generalize (sm && true) = x4
 rw [winnowref05_Right.j2]
 rw [if_neg (by decide)]
 rw [if_pos rfl]
 rw [rm_eq l9 w9 (by omega) (by omega)]
 simp only [Option.bind_some]
 cases x4 <;> cases (riseB 0 (l9.map (·.f0)) && lnB l9.length && !l9.any oddB) <;> rfl
theorem ref4 (a1 a2 a3 a4 a5 a6 : Int) (a7 : Bool) {l8 : List S76} {l9 : List S92} {l10 : List Int} (hl8 : l8.length ≤ 40) (hl9 : l9.length ≤ 100) (hl10 : l10.length ≤ 100) (w8 : ∀ s ∈ l8, 0 ≤ s.f1 ∧ s.f1 < 18446744073709551616) (w9 : ∀ s ∈ l9, 0 ≤ s.f0) (w10 : ∀ s ∈ l10, 0 ≤ s) (p1 : 0 ≤ a1) (p2 : 0 ≤ a2) {k : Nat} (hk : 4000 ≤ k) : winnowref05_Right.f k 4 a1 a2 a3 a4 a5 a6 a7 l8 l9 l10 = some (if ((rwB l8 ([] : List S76) l9 ([] : List S92) l10 ([] : List Int) && scB 4 a1 a2 a3 a4 a5 a6 a7 4 a1 a2 a3 0 0 0 false) && ((a1 != 0) && (a2 != 0))) = true then 0 else 6) := by
 obtain ⟨k, rfl⟩ : ∃ m, k = m + 1 + 1 + 1 + 1 := ⟨k - 4, by omega⟩
 have ho : winnowref05_only.f (k + 1 + 1 + 1 + 1) 4 a1 a2 a3 a4 a5 a6 a7 l8 l9 l10 = some (4, a1, a2, a3, 0, 0, 0, false, ([] : List S76), ([] : List S92), ([] : List Int)) := by
  unfold winnowref05_only.f
  rw [if_neg (by decide), winnowref05_only.j0]
  rfl
 unfold winnowref05_Right.f
 rw [ho]
 simp only [Option.bind_some]
 rw [same_eq_ 4 a1 a2 a3 a4 a5 a6 a7 4 a1 a2 a3 0 0 0 false (.inr rfl) (.inr rfl) (.inr rfl) (by omega) (by omega) (by omega) (by omega)]
 simp only [Option.bind_some]
 simp only [↓reduceIte, Int.reduceEq]
 generalize (rwB l8 ([] : List S76) l9 ([] : List S92) l10 ([] : List Int) && scB 4 a1 a2 a3 a4 a5 a6 a7 4 a1 a2 a3 0 0 0 false) = sm
 have hx : (if sm = true then winnowref05_Right.j0 (k + 1 + 1 + 1 + 1) (a4 == 0 && a5 == 0) (a1 != 0) 4 a1 a2 a3 a4 a5 a6 a7 l8 l9 l10 else winnowref05_Right.j0 (k + 1 + 1 + 1 + 1) (a4 == 0 && a5 == 0) false 4 a1 a2 a3 a4 a5 a6 a7 l8 l9 l10) = winnowref05_Right.j2 (k + 1 + 1) (a4 == 0 && a5 == 0) (sm && (a1 != 0)) (message_Right.tB a6) 4 (4 == 1 || 4 == 2) 4 a1 a2 a3 a4 a5 a6 a7 l8 l9 l10 := by
  cases sm
  ·rw [if_neg (by decide), jj]; rfl
  ·rw [if_pos rfl, jj]; rfl
 refine Eq.trans hx ?_
 rw [← Bool.and_assoc]
 generalize (sm && (a1 != 0)) = x4
 rw [winnowref05_Right.j2]
 rw [if_neg (by decide)]
 rw [if_neg (by decide)]
 rw [if_pos rfl]
 by_cases h2 : a2 = 0
 ·rw [if_pos h2, h2]; cases x4 <;> rfl
 ·rw [if_neg h2, bne_iff_ne.2 h2]; cases x4 <;> rfl
theorem ref5 (a1 a2 a3 a4 a5 a6 : Int) (a7 : Bool) {l8 : List S76} {l9 : List S92} {l10 : List Int} (hl8 : l8.length ≤ 40) (hl9 : l9.length ≤ 100) (hl10 : l10.length ≤ 100) (w8 : ∀ s ∈ l8, 0 ≤ s.f1 ∧ s.f1 < 18446744073709551616) (w9 : ∀ s ∈ l9, 0 ≤ s.f0) (w10 : ∀ s ∈ l10, 0 ≤ s) (p1 : 0 ≤ a1) (p2 : 0 ≤ a2) {k : Nat} (hk : 4000 ≤ k) : winnowref05_Right.f k 5 a1 a2 a3 a4 a5 a6 a7 l8 l9 l10 = some (if ((rwB l8 ([] : List S76) l9 ([] : List S92) l10 ([] : List Int) && scB 5 a1 a2 a3 a4 a5 a6 a7 5 a1 a2 a3 a4 a5 a6 a7) && ((a1 != 0) && (a2 != 0 && (bif a7 then (bif a6 == 0 then (a4 == 0 && a5 == 0) else (message_Right.tB a6 && !(a4 == 0 && a5 == 0))) else (a6 == 0 && !(a4 == 0 && a5 == 0)))))) = true then 0 else 6) := by
 obtain ⟨k, rfl⟩ : ∃ m, k = m + 1 + 1 + 1 + 1 := ⟨k - 4, by omega⟩
 have ho : winnowref05_only.f (k + 1 + 1 + 1 + 1) 5 a1 a2 a3 a4 a5 a6 a7 l8 l9 l10 = some (5, a1, a2, a3, a4, a5, a6, a7, ([] : List S76), ([] : List S92), ([] : List Int)) := by
  unfold winnowref05_only.f
  rw [if_neg (by decide), winnowref05_only.j0]
  rfl
 unfold winnowref05_Right.f
 rw [ho]
 simp only [Option.bind_some]
 rw [same_eq_ 5 a1 a2 a3 a4 a5 a6 a7 5 a1 a2 a3 a4 a5 a6 a7 (.inr rfl) (.inr rfl) (.inr rfl) (by omega) (by omega) (by omega) (by omega)]
 simp only [Option.bind_some]
 simp only [↓reduceIte, Int.reduceEq]
 generalize (rwB l8 ([] : List S76) l9 ([] : List S92) l10 ([] : List Int) && scB 5 a1 a2 a3 a4 a5 a6 a7 5 a1 a2 a3 a4 a5 a6 a7) = sm
 have hx : (if sm = true then winnowref05_Right.j0 (k + 1 + 1 + 1 + 1) (a4 == 0 && a5 == 0) (a1 != 0) 5 a1 a2 a3 a4 a5 a6 a7 l8 l9 l10 else winnowref05_Right.j0 (k + 1 + 1 + 1 + 1) (a4 == 0 && a5 == 0) false 5 a1 a2 a3 a4 a5 a6 a7 l8 l9 l10) = winnowref05_Right.j2 (k + 1 + 1) (a4 == 0 && a5 == 0) (sm && (a1 != 0)) (message_Right.tB a6) 5 (5 == 1 || 5 == 2) 5 a1 a2 a3 a4 a5 a6 a7 l8 l9 l10 := by
  cases sm
  ·rw [if_neg (by decide), jj]; rfl
  ·rw [if_pos rfl, jj]; rfl
 refine Eq.trans hx ?_
 rw [← Bool.and_assoc]
 generalize (sm && (a1 != 0)) = x4
 rw [winnowref05_Right.j2]
 rw [if_neg (by decide)]
 rw [if_neg (by decide)]
 rw [if_neg (by decide)]
 rw [if_pos rfl]
 generalize (a4 == 0 && a5 == 0) = z
 simp only [winnowref05_Right.j3]
 generalize message_Right.tB a6 = tb
 by_cases h2 : a2 = 0 <;> by_cases h6 : a6 = 0 <;> cases x4 <;> cases a7 <;> cases z <;> cases tb <;> simp [h2, h6]
theorem ref6 (a1 a2 a3 a4 a5 a6 : Int) (a7 : Bool) {l8 : List S76} {l9 : List S92} {l10 : List Int} (hl8 : l8.length ≤ 40) (hl9 : l9.length ≤ 100) (hl10 : l10.length ≤ 100) (w8 : ∀ s ∈ l8, 0 ≤ s.f1 ∧ s.f1 < 18446744073709551616) (w9 : ∀ s ∈ l9, 0 ≤ s.f0) (w10 : ∀ s ∈ l10, 0 ≤ s) (p1 : 0 ≤ a1) (p2 : 0 ≤ a2) {k : Nat} (hk : 4000 ≤ k) : winnowref05_Right.f k 6 a1 a2 a3 a4 a5 a6 a7 l8 l9 l10 = some (if ((rwB l8 ([] : List S76) l9 ([] : List S92) l10 ([] : List Int) && scB 6 a1 a2 a3 a4 a5 a6 a7 6 a1 a2 a3 0 0 a6 false) && ((a1 != 0) && (a2 != 0 && message_Right.tB a6))) = true then 0 else 6) := by
 obtain ⟨k, rfl⟩ : ∃ m, k = m + 1 + 1 + 1 + 1 := ⟨k - 4, by omega⟩
 have ho : winnowref05_only.f (k + 1 + 1 + 1 + 1) 6 a1 a2 a3 a4 a5 a6 a7 l8 l9 l10 = some (6, a1, a2, a3, 0, 0, a6, false, ([] : List S76), ([] : List S92), ([] : List Int)) := by
  unfold winnowref05_only.f
  rw [if_neg (by decide), winnowref05_only.j0]
  rfl
 unfold winnowref05_Right.f
 rw [ho]
 simp only [Option.bind_some]
 rw [same_eq_ 6 a1 a2 a3 a4 a5 a6 a7 6 a1 a2 a3 0 0 a6 false (.inr rfl) (.inr rfl) (.inr rfl) (by omega) (by omega) (by omega) (by omega)]
 simp only [Option.bind_some]
 simp only [↓reduceIte, Int.reduceEq]
 generalize (rwB l8 ([] : List S76) l9 ([] : List S92) l10 ([] : List Int) && scB 6 a1 a2 a3 a4 a5 a6 a7 6 a1 a2 a3 0 0 a6 false) = sm
 have hx : (if sm = true then winnowref05_Right.j0 (k + 1 + 1 + 1 + 1) (a4 == 0 && a5 == 0) (a1 != 0) 6 a1 a2 a3 a4 a5 a6 a7 l8 l9 l10 else winnowref05_Right.j0 (k + 1 + 1 + 1 + 1) (a4 == 0 && a5 == 0) false 6 a1 a2 a3 a4 a5 a6 a7 l8 l9 l10) = winnowref05_Right.j2 (k + 1 + 1) (a4 == 0 && a5 == 0) (sm && (a1 != 0)) (message_Right.tB a6) 6 (6 == 1 || 6 == 2) 6 a1 a2 a3 a4 a5 a6 a7 l8 l9 l10 := by
  cases sm
  ·rw [if_neg (by decide), jj]; rfl
  ·rw [if_pos rfl, jj]; rfl
 refine Eq.trans hx ?_
 rw [← Bool.and_assoc]
 generalize (sm && (a1 != 0)) = x4
 rw [winnowref05_Right.j2]
 rw [if_neg (by decide)]
 rw [if_neg (by decide)]
 rw [if_neg (by decide)]
 rw [if_neg (by decide)]
 rw [if_pos rfl]
 by_cases h2 : a2 = 0
 ·rw [if_pos h2, h2]; cases x4 <;> rfl
 ·rw [if_neg h2, bne_iff_ne.2 h2]; cases x4 <;> cases message_Right.tB a6 <;> rfl
theorem ref7 (a1 a2 a3 a4 a5 a6 : Int) (a7 : Bool) {l8 : List S76} {l9 : List S92} {l10 : List Int} (hl8 : l8.length ≤ 40) (hl9 : l9.length ≤ 100) (hl10 : l10.length ≤ 100) (w8 : ∀ s ∈ l8, 0 ≤ s.f1 ∧ s.f1 < 18446744073709551616) (w9 : ∀ s ∈ l9, 0 ≤ s.f0) (w10 : ∀ s ∈ l10, 0 ≤ s) (p1 : 0 ≤ a1) (p2 : 0 ≤ a2) {k : Nat} (hk : 4000 ≤ k) : winnowref05_Right.f k 7 a1 a2 a3 a4 a5 a6 a7 l8 l9 l10 = some (if ((rwB l8 ([] : List S76) l9 ([] : List S92) l10 ([] : List Int) && scB 7 a1 a2 a3 a4 a5 a6 a7 7 a1 a2 a3 a4 a5 0 a7) && ((a1 != 0) && (a2 != 0 && (a7 == (a4 == 0 && a5 == 0))))) = true then 0 else 6) := by
 obtain ⟨k, rfl⟩ : ∃ m, k = m + 1 + 1 + 1 + 1 := ⟨k - 4, by omega⟩
 have ho : winnowref05_only.f (k + 1 + 1 + 1 + 1) 7 a1 a2 a3 a4 a5 a6 a7 l8 l9 l10 = some (7, a1, a2, a3, a4, a5, 0, a7, ([] : List S76), ([] : List S92), ([] : List Int)) := by
  unfold winnowref05_only.f
  rw [if_neg (by decide), winnowref05_only.j0]
  rfl
 unfold winnowref05_Right.f
 rw [ho]
 simp only [Option.bind_some]
 rw [same_eq_ 7 a1 a2 a3 a4 a5 a6 a7 7 a1 a2 a3 a4 a5 0 a7 (.inr rfl) (.inr rfl) (.inr rfl) (by omega) (by omega) (by omega) (by omega)]
 simp only [Option.bind_some]
 simp only [↓reduceIte, Int.reduceEq]
 generalize (rwB l8 ([] : List S76) l9 ([] : List S92) l10 ([] : List Int) && scB 7 a1 a2 a3 a4 a5 a6 a7 7 a1 a2 a3 a4 a5 0 a7) = sm
 have hx : (if sm = true then winnowref05_Right.j0 (k + 1 + 1 + 1 + 1) (a4 == 0 && a5 == 0) (a1 != 0) 7 a1 a2 a3 a4 a5 a6 a7 l8 l9 l10 else winnowref05_Right.j0 (k + 1 + 1 + 1 + 1) (a4 == 0 && a5 == 0) false 7 a1 a2 a3 a4 a5 a6 a7 l8 l9 l10) = winnowref05_Right.j2 (k + 1 + 1) (a4 == 0 && a5 == 0) (sm && (a1 != 0)) (message_Right.tB a6) 7 (7 == 1 || 7 == 2) 7 a1 a2 a3 a4 a5 a6 a7 l8 l9 l10 := by
  cases sm
  ·rw [if_neg (by decide), jj]; rfl
  ·rw [if_pos rfl, jj]; rfl
 refine Eq.trans hx ?_
 rw [← Bool.and_assoc]
 generalize (sm && (a1 != 0)) = x4
 rw [winnowref05_Right.j2]
 rw [if_neg (by decide)]
 rw [if_neg (by decide)]
 rw [if_neg (by decide)]
 rw [if_neg (by decide)]
 rw [if_neg (by decide)]
 rw [if_pos rfl]
 generalize (a4 == 0 && a5 == 0) = z
 by_cases h2 : a2 = 0
 ·rw [if_pos h2, h2]; cases x4 <;> rfl
 ·rw [if_neg h2, bne_iff_ne.2 h2]; cases x4 <;> cases a7 <;> cases z <;> rfl
theorem ref8 (a1 a2 a3 a4 a5 a6 : Int) (a7 : Bool) {l8 : List S76} {l9 : List S92} {l10 : List Int} (hl8 : l8.length ≤ 40) (hl9 : l9.length ≤ 100) (hl10 : l10.length ≤ 100) (w8 : ∀ s ∈ l8, 0 ≤ s.f1 ∧ s.f1 < 18446744073709551616) (w9 : ∀ s ∈ l9, 0 ≤ s.f0) (w10 : ∀ s ∈ l10, 0 ≤ s) (p1 : 0 ≤ a1) (p2 : 0 ≤ a2) {k : Nat} (hk : 4000 ≤ k) : winnowref05_Right.f k 8 a1 a2 a3 a4 a5 a6 a7 l8 l9 l10 = some (if ((rwB l8 ([] : List S76) l9 ([] : List S92) l10 ([] : List Int) && scB 8 a1 a2 a3 a4 a5 a6 a7 8 a1 0 0 0 0 a6 false) && ((a1 != 0) && (message_Right.tB a6))) = true then 0 else 6) := by
 obtain ⟨k, rfl⟩ : ∃ m, k = m + 1 + 1 + 1 + 1 := ⟨k - 4, by omega⟩
 have ho : winnowref05_only.f (k + 1 + 1 + 1 + 1) 8 a1 a2 a3 a4 a5 a6 a7 l8 l9 l10 = some (8, a1, 0, 0, 0, 0, a6, false, ([] : List S76), ([] : List S92), ([] : List Int)) := by
  unfold winnowref05_only.f
  rw [if_neg (by decide), winnowref05_only.j0]
  rfl
 unfold winnowref05_Right.f
 rw [ho]
 simp only [Option.bind_some]
 rw [same_eq_ 8 a1 a2 a3 a4 a5 a6 a7 8 a1 0 0 0 0 a6 false (.inr rfl) (.inr rfl) (.inr rfl) (by omega) (by omega) (by omega) (by omega)]
 simp only [Option.bind_some]
 simp only [↓reduceIte, Int.reduceEq]
 generalize (rwB l8 ([] : List S76) l9 ([] : List S92) l10 ([] : List Int) && scB 8 a1 a2 a3 a4 a5 a6 a7 8 a1 0 0 0 0 a6 false) = sm
 have hx : (if sm = true then winnowref05_Right.j0 (k + 1 + 1 + 1 + 1) (a4 == 0 && a5 == 0) (a1 != 0) 8 a1 a2 a3 a4 a5 a6 a7 l8 l9 l10 else winnowref05_Right.j0 (k + 1 + 1 + 1 + 1) (a4 == 0 && a5 == 0) false 8 a1 a2 a3 a4 a5 a6 a7 l8 l9 l10) = winnowref05_Right.j2 (k + 1 + 1) (a4 == 0 && a5 == 0) (sm && (a1 != 0)) (message_Right.tB a6) 8 (8 == 1 || 8 == 2) 8 a1 a2 a3 a4 a5 a6 a7 l8 l9 l10 := by
  cases sm
  ·rw [if_neg (by decide), jj]; rfl
  ·rw [if_pos rfl, jj]; rfl
 refine Eq.trans hx ?_
 rw [← Bool.and_assoc]
 generalize (sm && (a1 != 0)) = x4
 rw [winnowref05_Right.j2]
 rw [if_neg (by decide)]
 rw [if_neg (by decide)]
 rw [if_neg (by decide)]
 rw [if_neg (by decide)]
 rw [if_neg (by decide)]
 rw [if_neg (by decide)]
 rw [if_pos rfl]
 cases x4 <;> cases message_Right.tB a6 <;> rfl
theorem ref9 (a1 a2 a3 a4 a5 a6 : Int) (a7 : Bool) {l8 : List S76} {l9 : List S92} {l10 : List Int} (hl8 : l8.length ≤ 40) (hl9 : l9.length ≤ 100) (hl10 : l10.length ≤ 100) (w8 : ∀ s ∈ l8, 0 ≤ s.f1 ∧ s.f1 < 18446744073709551616) (w9 : ∀ s ∈ l9, 0 ≤ s.f0) (w10 : ∀ s ∈ l10, 0 ≤ s) (p1 : 0 ≤ a1) (p2 : 0 ≤ a2) {k : Nat} (hk : 4000 ≤ k) : winnowref05_Right.f k 9 a1 a2 a3 a4 a5 a6 a7 l8 l9 l10 = some (if ((rwB l8 l8 l9 ([] : List S92) l10 ([] : List Int) && scB 9 a1 a2 a3 a4 a5 a6 a7 9 a1 a2 a3 0 0 0 false) && ((a1 != 0) && (a2 != 0 && (goB a1 [] l8 && lnB l8.length)))) = true then 0 else 6) := by
 obtain ⟨k, rfl⟩ : ∃ m, k = m + 1 + 1 + 1 + 1 := ⟨k - 4, by omega⟩
 have ho : winnowref05_only.f (k + 1 + 1 + 1 + 1) 9 a1 a2 a3 a4 a5 a6 a7 l8 l9 l10 = some (9, a1, a2, a3, 0, 0, 0, false, l8, ([] : List S92), ([] : List Int)) := by
  unfold winnowref05_only.f
  rw [if_neg (by decide), winnowref05_only.j0]
  rfl
 unfold winnowref05_Right.f
 rw [ho]
 simp only [Option.bind_some]
 rw [same_eq_ 9 a1 a2 a3 a4 a5 a6 a7 9 a1 a2 a3 0 0 0 false (.inl rfl) (.inr rfl) (.inr rfl) (by omega) (by omega) (by omega) (by omega)]
 simp only [Option.bind_some]
 simp only [↓reduceIte, Int.reduceEq]
 generalize (rwB l8 l8 l9 ([] : List S92) l10 ([] : List Int) && scB 9 a1 a2 a3 a4 a5 a6 a7 9 a1 a2 a3 0 0 0 false) = sm
 have hx : (if sm = true then winnowref05_Right.j0 (k + 1 + 1 + 1 + 1) (a4 == 0 && a5 == 0) (a1 != 0) 9 a1 a2 a3 a4 a5 a6 a7 l8 l9 l10 else winnowref05_Right.j0 (k + 1 + 1 + 1 + 1) (a4 == 0 && a5 == 0) false 9 a1 a2 a3 a4 a5 a6 a7 l8 l9 l10) = winnowref05_Right.j2 (k + 1 + 1) (a4 == 0 && a5 == 0) (sm && (a1 != 0)) (message_Right.tB a6) 9 (9 == 1 || 9 == 2) 9 a1 a2 a3 a4 a5 a6 a7 l8 l9 l10 := by
  cases sm
  ·rw [if_neg (by decide), jj]; rfl
  ·rw [if_pos rfl, jj]; rfl
 refine Eq.trans hx ?_
 rw [← Bool.and_assoc]
 generalize (sm && (a1 != 0)) = x4
 rw [winnowref05_Right.j2]
 rw [if_neg (by decide)]
 rw [if_neg (by decide)]
 rw [if_neg (by decide)]
 rw [if_neg (by decide)]
 rw [if_neg (by decide)]
 rw [if_neg (by decide)]
 rw [if_neg (by decide)]
 rw [if_pos rfl]
 rw [rs_eq a1 l8 hl8 (by omega)]
 simp only [Option.bind_some]
 by_cases h2 : a2 = 0
 ·rw [if_pos h2, h2]; cases x4 <;> rfl
 ·rw [if_neg h2, bne_iff_ne.2 h2]; cases x4 <;> cases (goB a1 [] l8 && lnB l8.length) <;> rfl
theorem ref10 (a1 a2 a3 a4 a5 a6 : Int) (a7 : Bool) {l8 : List S76} {l9 : List S92} {l10 : List Int} (hl8 : l8.length ≤ 40) (hl9 : l9.length ≤ 100) (hl10 : l10.length ≤ 100) (w8 : ∀ s ∈ l8, 0 ≤ s.f1 ∧ s.f1 < 18446744073709551616) (w9 : ∀ s ∈ l9, 0 ≤ s.f0) (w10 : ∀ s ∈ l10, 0 ≤ s) (p1 : 0 ≤ a1) (p2 : 0 ≤ a2) {k : Nat} (hk : 4000 ≤ k) : winnowref05_Right.f k 10 a1 a2 a3 a4 a5 a6 a7 l8 l9 l10 = some (if ((rwB l8 ([] : List S76) l9 ([] : List S92) l10 l10 && scB 10 a1 a2 a3 a4 a5 a6 a7 10 a1 0 0 0 0 0 false) && ((a1 != 0) && (riseB 0 l10 && lnB l10.length))) = true then 0 else 6) := by
 obtain ⟨k, rfl⟩ : ∃ m, k = m + 1 + 1 + 1 + 1 := ⟨k - 4, by omega⟩
 have ho : winnowref05_only.f (k + 1 + 1 + 1 + 1) 10 a1 a2 a3 a4 a5 a6 a7 l8 l9 l10 = some (10, a1, 0, 0, 0, 0, 0, false, ([] : List S76), ([] : List S92), l10) := by
  unfold winnowref05_only.f
  rw [if_neg (by decide), winnowref05_only.j0]
  rfl
 unfold winnowref05_Right.f
 rw [ho]
 simp only [Option.bind_some]
 rw [same_eq_ 10 a1 a2 a3 a4 a5 a6 a7 10 a1 0 0 0 0 0 false (.inr rfl) (.inr rfl) (.inl rfl) (by omega) (by omega) (by omega) (by omega)]
 simp only [Option.bind_some]
 simp only [↓reduceIte, Int.reduceEq]
 generalize (rwB l8 ([] : List S76) l9 ([] : List S92) l10 l10 && scB 10 a1 a2 a3 a4 a5 a6 a7 10 a1 0 0 0 0 0 false) = sm
 have hx : (if sm = true then winnowref05_Right.j0 (k + 1 + 1 + 1 + 1) (a4 == 0 && a5 == 0) (a1 != 0) 10 a1 a2 a3 a4 a5 a6 a7 l8 l9 l10 else winnowref05_Right.j0 (k + 1 + 1 + 1 + 1) (a4 == 0 && a5 == 0) false 10 a1 a2 a3 a4 a5 a6 a7 l8 l9 l10) = winnowref05_Right.j2 (k + 1 + 1) (a4 == 0 && a5 == 0) (sm && (a1 != 0)) (message_Right.tB a6) 10 (10 == 1 || 10 == 2) 10 a1 a2 a3 a4 a5 a6 a7 l8 l9 l10 := by
  cases sm
  ·rw [if_neg (by decide), jj]; rfl
  ·rw [if_pos rfl, jj]; rfl
 refine Eq.trans hx ?_
 rw [← Bool.and_assoc]
 generalize (sm && (a1 != 0)) = x4
 rw [winnowref05_Right.j2]
 rw [if_neg (by decide)]
 rw [if_neg (by decide)]
 rw [if_neg (by decide)]
 rw [if_neg (by decide)]
 rw [if_neg (by decide)]
 rw [if_neg (by decide)]
 rw [if_neg (by decide)]
 rw [if_neg (by decide)]
 rw [if_pos rfl]
 rw [rr_eq l10 w10 (by omega) (by omega)]
 simp only [Option.bind_some]
 cases x4 <;> cases (riseB 0 l10 && lnB l10.length) <;> rfl
/-! ### both texts, kind by kind -/
theorem both1 (a1 a2 a3 a4 a5 a6 : Int) (a7 : Bool) {l8 : List S76} {l9 : List S92} {l10 : List Int} (hl8 : l8.length ≤ 40) (hl9 : l9.length ≤ 100) (hl10 : l10.length ≤ 100) (w8 : ∀ s ∈ l8, 0 ≤ s.f1 ∧ s.f1 < 18446744073709551616) (w9 : ∀ s ∈ l9, 0 ≤ s.f0) (w10 : ∀ s ∈ l10, 0 ≤ s) (p1 : 0 ≤ a1) (p2 : 0 ≤ a2) {k : Nat} (hk : 4000 ≤ k) : ∃ v, message_Right.f 1 a1 a2 a3 a4 a5 a6 a7 l8 l9 l10 = some v ∧ winnowref05_Right.f k 1 a1 a2 a3 a4 a5 a6 a7 l8 l9 l10 = some v := by
 refine ⟨_, ?_, ref1 a1 a2 a3 a4 a5 a6 a7 hl8 hl9 hl10 w8 w9 w10 p1 p2 hk⟩
 unfold message_Right.f
 rw [if_pos ⟨by omega, by omega, by omega⟩]
 rw [if_pos rfl]
 rw [ms_eq a1 l8 hl8 w8]
 simp only [Option.bind_some]
 rw [alike_eq 1 a1 a2 a3 a4 a5 a6 a7 1 a1 0 0 0 0 0 false (.inl rfl) (.inr rfl) (.inr rfl) (by omega) (by omega) (by omega), fin_eq]
 refine ifB ?_
 rw [pos_ne p1]
 exact Bool.and_comm ..
theorem both2 (a1 a2 a3 a4 a5 a6 : Int) (a7 : Bool) {l8 : List S76} {l9 : List S92} {l10 : List Int} (hl8 : l8.length ≤ 40) (hl9 : l9.length ≤ 100) (hl10 : l10.length ≤ 100) (w8 : ∀ s ∈ l8, 0 ≤ s.f1 ∧ s.f1 < 18446744073709551616) (w9 : ∀ s ∈ l9, 0 ≤ s.f0) (w10 : ∀ s ∈ l10, 0 ≤ s) (p1 : 0 ≤ a1) (p2 : 0 ≤ a2) {k : Nat} (hk : 4000 ≤ k) : ∃ v, message_Right.f 2 a1 a2 a3 a4 a5 a6 a7 l8 l9 l10 = some v ∧ winnowref05_Right.f k 2 a1 a2 a3 a4 a5 a6 a7 l8 l9 l10 = some v := by
 refine ⟨_, ?_, ref2 a1 a2 a3 a4 a5 a6 a7 hl8 hl9 hl10 w8 w9 w10 p1 p2 hk⟩
 unfold message_Right.f
 rw [if_pos ⟨by omega, by omega, by omega⟩]
 rw [if_neg (by decide)]
 rw [if_pos rfl]
 rw [ms_eq a1 l8 hl8 w8]
 simp only [Option.bind_some]
 rw [alike_eq 2 a1 a2 a3 a4 a5 a6 a7 2 a1 0 0 0 0 0 false (.inl rfl) (.inr rfl) (.inr rfl) (by omega) (by omega) (by omega), fin_eq]
 refine ifB ?_
 rw [pos_ne p1]
 exact Bool.and_comm ..
theorem both3 (a1 a2 a3 a4 a5 a6 : Int) (a7 : Bool) {l8 : List S76} {l9 : List S92} {l10 : List Int} (hl8 : l8.length ≤ 40) (hl9 : l9.length ≤ 100) (hl10 : l10.length ≤ 100) (w8 : ∀ s ∈ l8, 0 ≤ s.f1 ∧ s.f1 < 18446744073709551616) (w9 : ∀ s ∈ l9, 0 ≤ s.f0) (w10 : ∀ s ∈ l10, 0 ≤ s) (p1 : 0 ≤ a1) (p2 : 0 ≤ a2) {k : Nat} (hk : 4000 ≤ k) : ∃ v, message_Right.f 3 a1 a2 a3 a4 a5 a6 a7 l8 l9 l10 = some v ∧ winnowref05_Right.f k 3 a1 a2 a3 a4 a5 a6 a7 l8 l9 l10 = some v := by
 refine ⟨_, ?_, ref3 a1 a2 a3 a4 a5 a6 a7 hl8 hl9 hl10 w8 w9 w10 p1 p2 hk⟩
 unfold message_Right.f
 rw [if_pos ⟨by omega, by omega, by omega⟩]
 rw [if_neg (by decide)]
 rw [if_neg (by decide)]
 rw [if_pos rfl]
 rw [m62_eq l9 (by omega), m64_eq l9 (by omega)]
 simp only [Option.bind_some]
 rw [alike_eq 3 a1 a2 a3 a4 a5 a6 a7 3 0 0 0 0 0 0 false (.inr rfl) (.inl rfl) (.inr rfl) (by omega) (by omega) (by omega), fin_eq]
 refine ifB ?_
 rw [Bool.true_and]
 exact Bool.and_comm ..
theorem both4 (a1 a2 a3 a4 a5 a6 : Int) (a7 : Bool) {l8 : List S76} {l9 : List S92} {l10 : List Int} (hl8 : l8.length ≤ 40) (hl9 : l9.length ≤ 100) (hl10 : l10.length ≤ 100) (w8 : ∀ s ∈ l8, 0 ≤ s.f1 ∧ s.f1 < 18446744073709551616) (w9 : ∀ s ∈ l9, 0 ≤ s.f0) (w10 : ∀ s ∈ l10, 0 ≤ s) (p1 : 0 ≤ a1) (p2 : 0 ≤ a2) {k : Nat} (hk : 4000 ≤ k) : ∃ v, message_Right.f 4 a1 a2 a3 a4 a5 a6 a7 l8 l9 l10 = some v ∧ winnowref05_Right.f k 4 a1 a2 a3 a4 a5 a6 a7 l8 l9 l10 = some v := by
 refine ⟨_, ?_, ref4 a1 a2 a3 a4 a5 a6 a7 hl8 hl9 hl10 w8 w9 w10 p1 p2 hk⟩
 unfold message_Right.f
 rw [if_pos ⟨by omega, by omega, by omega⟩]
 rw [if_neg (by decide)]
 rw [if_neg (by decide)]
 rw [if_neg (by decide)]
 rw [if_pos rfl]
 rw [alike_eq 4 a1 a2 a3 a4 a5 a6 a7 (if a6 = 0 then 4 else 6) a1 a2 a3 0 0 a6 false (.inr rfl) (.inr rfl) (.inr rfl) (by omega) (by omega) (by omega), fin_eq]
 refine ifB ?_
 unfold message_Right.rAsk scB
 generalize rwB l8 _ l9 _ l10 _ = rr
 rw [pos_ne p1, pos_ne p2]
 have ht := @tB_zero a6
 revert ht
 generalize message_Right.tB a6 = tb
 intro ht
 simp only [beq_self_eq_true, Bool.and_true, Bool.true_and, bne]
 generalize (a1 == 0) = b1
 generalize (a2 == 0) = b2
 generalize (a4 == 0) = b4
 generalize (a5 == 0) = b5
 by_cases h6 : a6 = 0
 ·simp only [h6, ↓reduceIte] at ht ⊢
  cases tb
  ·cases b1 <;> cases b2 <;> cases b4 <;> cases b5 <;> cases a7 <;> cases rr <;> rfl
  ·exact absurd (ht rfl) (by decide)
 ·rw [beq_eq_false_iff_ne.2 h6]
  try rw [if_neg h6]
  cases tb <;> cases b1 <;> cases b2 <;> cases b4 <;> cases b5 <;> cases a7 <;> cases rr <;> rfl
theorem both5 (a1 a2 a3 a4 a5 a6 : Int) (a7 : Bool) {l8 : List S76} {l9 : List S92} {l10 : List Int} (hl8 : l8.length ≤ 40) (hl9 : l9.length ≤ 100) (hl10 : l10.length ≤ 100) (w8 : ∀ s ∈ l8, 0 ≤ s.f1 ∧ s.f1 < 18446744073709551616) (w9 : ∀ s ∈ l9, 0 ≤ s.f0) (w10 : ∀ s ∈ l10, 0 ≤ s) (p1 : 0 ≤ a1) (p2 : 0 ≤ a2) {k : Nat} (hk : 4000 ≤ k) : ∃ v, message_Right.f 5 a1 a2 a3 a4 a5 a6 a7 l8 l9 l10 = some v ∧ winnowref05_Right.f k 5 a1 a2 a3 a4 a5 a6 a7 l8 l9 l10 = some v := by
 refine ⟨_, ?_, ref5 a1 a2 a3 a4 a5 a6 a7 hl8 hl9 hl10 w8 w9 w10 p1 p2 hk⟩
 unfold message_Right.f
 rw [if_pos ⟨by omega, by omega, by omega⟩]
 rw [if_neg (by decide)]
 rw [if_neg (by decide)]
 rw [if_neg (by decide)]
 rw [if_neg (by decide)]
 rw [if_pos rfl]
 rw [alike_eq 5 a1 a2 a3 a4 a5 a6 a7 5 a1 a2 a3 a4 a5 a6 a7 (.inr rfl) (.inr rfl) (.inr rfl) (by omega) (by omega) (by omega), fin_eq]
 refine ifB ?_
 unfold message_Right.rReply message_Right.zB scB
 generalize rwB l8 _ l9 _ l10 _ = rr
 have ht := @tB_zero a6
 revert ht
 generalize message_Right.tB a6 = tb
 intro ht
 simp only [beq_self_eq_true, Bool.and_true, Bool.true_and, bne]
 generalize (a1 == 0) = b1
 generalize (a2 == 0) = b2
 generalize (a4 == 0) = b4
 generalize (a5 == 0) = b5
 by_cases h6 : a6 = 0
 ·simp only [h6, ↓reduceIte] at ht ⊢
  cases tb
  ·cases b1 <;> cases b2 <;> cases b4 <;> cases b5 <;> cases a7 <;> cases rr <;> rfl
  ·exact absurd (ht rfl) (by decide)
 ·rw [beq_eq_false_iff_ne.2 h6]
  cases tb <;> cases b1 <;> cases b2 <;> cases b4 <;> cases b5 <;> cases a7 <;> cases rr <;> rfl
theorem both6 (a1 a2 a3 a4 a5 a6 : Int) (a7 : Bool) {l8 : List S76} {l9 : List S92} {l10 : List Int} (hl8 : l8.length ≤ 40) (hl9 : l9.length ≤ 100) (hl10 : l10.length ≤ 100) (w8 : ∀ s ∈ l8, 0 ≤ s.f1 ∧ s.f1 < 18446744073709551616) (w9 : ∀ s ∈ l9, 0 ≤ s.f0) (w10 : ∀ s ∈ l10, 0 ≤ s) (p1 : 0 ≤ a1) (p2 : 0 ≤ a2) {k : Nat} (hk : 4000 ≤ k) : ∃ v, message_Right.f 6 a1 a2 a3 a4 a5 a6 a7 l8 l9 l10 = some v ∧ winnowref05_Right.f k 6 a1 a2 a3 a4 a5 a6 a7 l8 l9 l10 = some v := by
 refine ⟨_, ?_, ref6 a1 a2 a3 a4 a5 a6 a7 hl8 hl9 hl10 w8 w9 w10 p1 p2 hk⟩
 unfold message_Right.f
 rw [if_pos ⟨by omega, by omega, by omega⟩]
 rw [if_neg (by decide)]
 rw [if_neg (by decide)]
 rw [if_neg (by decide)]
 rw [if_neg (by decide)]
 rw [if_neg (by decide)]
 rw [if_pos rfl]
 rw [alike_eq 6 a1 a2 a3 a4 a5 a6 a7 (if a6 = 0 then 4 else 6) a1 a2 a3 0 0 a6 false (.inr rfl) (.inr rfl) (.inr rfl) (by omega) (by omega) (by omega), fin_eq]
 refine ifB ?_
 unfold message_Right.rAsk scB
 generalize rwB l8 _ l9 _ l10 _ = rr
 rw [pos_ne p1, pos_ne p2]
 have ht := @tB_zero a6
 revert ht
 generalize message_Right.tB a6 = tb
 intro ht
 simp only [beq_self_eq_true, Bool.and_true, Bool.true_and, bne]
 generalize (a1 == 0) = b1
 generalize (a2 == 0) = b2
 generalize (a4 == 0) = b4
 generalize (a5 == 0) = b5
 by_cases h6 : a6 = 0
 ·simp only [h6, ↓reduceIte] at ht ⊢
  cases tb
  ·cases b1 <;> cases b2 <;> cases b4 <;> cases b5 <;> cases a7 <;> cases rr <;> rfl
  ·exact absurd (ht rfl) (by decide)
 ·rw [beq_eq_false_iff_ne.2 h6]
  try rw [if_neg h6]
  cases tb <;> cases b1 <;> cases b2 <;> cases b4 <;> cases b5 <;> cases a7 <;> cases rr <;> rfl
theorem both7 (a1 a2 a3 a4 a5 a6 : Int) (a7 : Bool) {l8 : List S76} {l9 : List S92} {l10 : List Int} (hl8 : l8.length ≤ 40) (hl9 : l9.length ≤ 100) (hl10 : l10.length ≤ 100) (w8 : ∀ s ∈ l8, 0 ≤ s.f1 ∧ s.f1 < 18446744073709551616) (w9 : ∀ s ∈ l9, 0 ≤ s.f0) (w10 : ∀ s ∈ l10, 0 ≤ s) (p1 : 0 ≤ a1) (p2 : 0 ≤ a2) {k : Nat} (hk : 4000 ≤ k) : ∃ v, message_Right.f 7 a1 a2 a3 a4 a5 a6 a7 l8 l9 l10 = some v ∧ winnowref05_Right.f k 7 a1 a2 a3 a4 a5 a6 a7 l8 l9 l10 = some v := by
 refine ⟨_, ?_, ref7 a1 a2 a3 a4 a5 a6 a7 hl8 hl9 hl10 w8 w9 w10 p1 p2 hk⟩
 unfold message_Right.f
 rw [if_pos ⟨by omega, by omega, by omega⟩]
 rw [if_neg (by decide)]
 rw [if_neg (by decide)]
 rw [if_neg (by decide)]
 rw [if_neg (by decide)]
 rw [if_neg (by decide)]
 rw [if_neg (by decide)]
 rw [if_pos rfl]
 rw [alike_eq 7 a1 a2 a3 a4 a5 a6 a7 7 a1 a2 a3 a4 a5 a6 a7 (.inr rfl) (.inr rfl) (.inr rfl) (by omega) (by omega) (by omega), fin_eq]
 refine ifB ?_
 unfold message_Right.rReply message_Right.zB scB
 generalize rwB l8 _ l9 _ l10 _ = rr
 have ht := @tB_zero a6
 revert ht
 generalize message_Right.tB a6 = tb
 intro ht
 simp only [beq_self_eq_true, Bool.and_true, Bool.true_and, bne]
 generalize (a1 == 0) = b1
 generalize (a2 == 0) = b2
 generalize (a4 == 0) = b4
 generalize (a5 == 0) = b5
 by_cases h6 : a6 = 0
 ·simp only [h6, ↓reduceIte] at ht ⊢
  cases tb
  ·cases b1 <;> cases b2 <;> cases b4 <;> cases b5 <;> cases a7 <;> cases rr <;> rfl
  ·exact absurd (ht rfl) (by decide)
 ·rw [beq_eq_false_iff_ne.2 h6]
  cases tb <;> cases b1 <;> cases b2 <;> cases b4 <;> cases b5 <;> cases a7 <;> cases rr <;> rfl
theorem both8 (a1 a2 a3 a4 a5 a6 : Int) (a7 : Bool) {l8 : List S76} {l9 : List S92} {l10 : List Int} (hl8 : l8.length ≤ 40) (hl9 : l9.length ≤ 100) (hl10 : l10.length ≤ 100) (w8 : ∀ s ∈ l8, 0 ≤ s.f1 ∧ s.f1 < 18446744073709551616) (w9 : ∀ s ∈ l9, 0 ≤ s.f0) (w10 : ∀ s ∈ l10, 0 ≤ s) (p1 : 0 ≤ a1) (p2 : 0 ≤ a2) {k : Nat} (hk : 4000 ≤ k) : ∃ v, message_Right.f 8 a1 a2 a3 a4 a5 a6 a7 l8 l9 l10 = some v ∧ winnowref05_Right.f k 8 a1 a2 a3 a4 a5 a6 a7 l8 l9 l10 = some v := by
 refine ⟨_, ?_, ref8 a1 a2 a3 a4 a5 a6 a7 hl8 hl9 hl10 w8 w9 w10 p1 p2 hk⟩
 unfold message_Right.f
 rw [if_pos ⟨by omega, by omega, by omega⟩]
 rw [if_neg (by decide)]
 rw [if_neg (by decide)]
 rw [if_neg (by decide)]
 rw [if_neg (by decide)]
 rw [if_neg (by decide)]
 rw [if_neg (by decide)]
 rw [if_neg (by decide)]
 rw [if_pos rfl]
 rw [alike_eq 8 a1 a2 a3 a4 a5 a6 a7 8 a1 0 0 0 0 a6 false (.inr rfl) (.inr rfl) (.inr rfl) (by omega) (by omega) (by omega), fin_eq]
 refine ifB ?_
 rw [pos_ne p1]
 exact Bool.and_comm ..
theorem both9 (a1 a2 a3 a4 a5 a6 : Int) (a7 : Bool) {l8 : List S76} {l9 : List S92} {l10 : List Int} (hl8 : l8.length ≤ 40) (hl9 : l9.length ≤ 100) (hl10 : l10.length ≤ 100) (w8 : ∀ s ∈ l8, 0 ≤ s.f1 ∧ s.f1 < 18446744073709551616) (w9 : ∀ s ∈ l9, 0 ≤ s.f0) (w10 : ∀ s ∈ l10, 0 ≤ s) (p1 : 0 ≤ a1) (p2 : 0 ≤ a2) {k : Nat} (hk : 4000 ≤ k) : ∃ v, message_Right.f 9 a1 a2 a3 a4 a5 a6 a7 l8 l9 l10 = some v ∧ winnowref05_Right.f k 9 a1 a2 a3 a4 a5 a6 a7 l8 l9 l10 = some v := by
 refine ⟨_, ?_, ref9 a1 a2 a3 a4 a5 a6 a7 hl8 hl9 hl10 w8 w9 w10 p1 p2 hk⟩
 unfold message_Right.f
 rw [if_pos ⟨by omega, by omega, by omega⟩]
 rw [if_neg (by decide)]
 rw [if_neg (by decide)]
 rw [if_neg (by decide)]
 rw [if_neg (by decide)]
 rw [if_neg (by decide)]
 rw [if_neg (by decide)]
 rw [if_neg (by decide)]
 rw [if_neg (by decide)]
 rw [if_pos rfl]
 rw [ms_eq a1 l8 hl8 w8]
 simp only [Option.bind_some]
 rw [alike_eq 9 a1 a2 a3 a4 a5 a6 a7 9 a1 a2 a3 0 0 0 false (.inl rfl) (.inr rfl) (.inr rfl) (by omega) (by omega) (by omega), fin_eq]
 refine ifB ?_
 rw [pos_ne p1, pos_ne p2]
 exact Bool.and_comm ..
theorem both10 (a1 a2 a3 a4 a5 a6 : Int) (a7 : Bool) {l8 : List S76} {l9 : List S92} {l10 : List Int} (hl8 : l8.length ≤ 40) (hl9 : l9.length ≤ 100) (hl10 : l10.length ≤ 100) (w8 : ∀ s ∈ l8, 0 ≤ s.f1 ∧ s.f1 < 18446744073709551616) (w9 : ∀ s ∈ l9, 0 ≤ s.f0) (w10 : ∀ s ∈ l10, 0 ≤ s) (p1 : 0 ≤ a1) (p2 : 0 ≤ a2) {k : Nat} (hk : 4000 ≤ k) : ∃ v, message_Right.f 10 a1 a2 a3 a4 a5 a6 a7 l8 l9 l10 = some v ∧ winnowref05_Right.f k 10 a1 a2 a3 a4 a5 a6 a7 l8 l9 l10 = some v := by
 refine ⟨_, ?_, ref10 a1 a2 a3 a4 a5 a6 a7 hl8 hl9 hl10 w8 w9 w10 p1 p2 hk⟩
 unfold message_Right.f
 rw [if_pos ⟨by omega, by omega, by omega⟩]
 rw [if_neg (by decide)]
 rw [if_neg (by decide)]
 rw [if_neg (by decide)]
 rw [if_neg (by decide)]
 rw [if_neg (by decide)]
 rw [if_neg (by decide)]
 rw [if_neg (by decide)]
 rw [if_neg (by decide)]
 rw [if_neg (by decide)]
 rw [if_pos rfl]
 rw [mr_eq l10 (by omega)]
 simp only [Option.bind_some]
 rw [alike_eq 10 a1 a2 a3 a4 a5 a6 a7 10 a1 0 0 0 0 0 false (.inr rfl) (.inr rfl) (.inl rfl) (by omega) (by omega) (by omega), fin_eq]
 refine ifB ?_
 rw [pos_ne p1]
 exact Bool.and_comm ..
theorem bothN (a0 a1 a2 a3 a4 a5 a6 : Int) (a7 : Bool) {l8 : List S76} {l9 : List S92} {l10 : List Int} (hl8 : l8.length ≤ 40) (hl9 : l9.length ≤ 100) (hl10 : l10.length ≤ 100) (w8 : ∀ s ∈ l8, 0 ≤ s.f1 ∧ s.f1 < 18446744073709551616) (w9 : ∀ s ∈ l9, 0 ≤ s.f0) (w10 : ∀ s ∈ l10, 0 ≤ s) (p1 : 0 ≤ a1) (p2 : 0 ≤ a2) {k : Nat} (hk : 4000 ≤ k) : ∃ v, message_Right.f a0 a1 a2 a3 a4 a5 a6 a7 l8 l9 l10 = some v ∧ winnowref05_Right.f k a0 a1 a2 a3 a4 a5 a6 a7 l8 l9 l10 = some v := by
 by_cases h1 : a0 = 1
 ·subst h1; exact both1 a1 a2 a3 a4 a5 a6 a7 hl8 hl9 hl10 w8 w9 w10 p1 p2 hk
 by_cases h2 : a0 = 2
 ·subst h2; exact both2 a1 a2 a3 a4 a5 a6 a7 hl8 hl9 hl10 w8 w9 w10 p1 p2 hk
 by_cases h3 : a0 = 3
 ·subst h3; exact both3 a1 a2 a3 a4 a5 a6 a7 hl8 hl9 hl10 w8 w9 w10 p1 p2 hk
 by_cases h4 : a0 = 4
 ·subst h4; exact both4 a1 a2 a3 a4 a5 a6 a7 hl8 hl9 hl10 w8 w9 w10 p1 p2 hk
 by_cases h5 : a0 = 5
 ·subst h5; exact both5 a1 a2 a3 a4 a5 a6 a7 hl8 hl9 hl10 w8 w9 w10 p1 p2 hk
 by_cases h6 : a0 = 6
 ·subst h6; exact both6 a1 a2 a3 a4 a5 a6 a7 hl8 hl9 hl10 w8 w9 w10 p1 p2 hk
 by_cases h7 : a0 = 7
 ·subst h7; exact both7 a1 a2 a3 a4 a5 a6 a7 hl8 hl9 hl10 w8 w9 w10 p1 p2 hk
 by_cases h8 : a0 = 8
 ·subst h8; exact both8 a1 a2 a3 a4 a5 a6 a7 hl8 hl9 hl10 w8 w9 w10 p1 p2 hk
 by_cases h9 : a0 = 9
 ·subst h9; exact both9 a1 a2 a3 a4 a5 a6 a7 hl8 hl9 hl10 w8 w9 w10 p1 p2 hk
 by_cases h10 : a0 = 10
 ·subst h10; exact both10 a1 a2 a3 a4 a5 a6 a7 hl8 hl9 hl10 w8 w9 w10 p1 p2 hk
 refine ⟨6, ?_, ?_⟩
 ·unfold message_Right.f
  rw [if_pos ⟨by omega, by omega, by omega⟩, if_neg h1, if_neg h2, if_neg h3, if_neg h4, if_neg h5, if_neg h6, if_neg h7, if_neg h8, if_neg h9, if_neg h10]
 ·obtain ⟨k, rfl⟩ : ∃ m, k = m + 1 + 1 + 1 + 1 := ⟨k - 4, by omega⟩
  have ho : winnowref05_only.f (k + 1 + 1 + 1 + 1) a0 a1 a2 a3 a4 a5 a6 a7 l8 l9 l10 = some (a0, a1, 0, 0, 0, 0, 0, false, ([] : List S76), ([] : List S92), ([] : List Int)) := by
   unfold winnowref05_only.f
   rw [if_neg h1, winnowref05_only.j0, if_neg (by simpa using h2), if_neg h3, if_neg h4, if_neg h5, if_neg h6, if_neg h7, if_neg h8, if_neg h9, if_neg h10]
  unfold winnowref05_Right.f
  rw [ho]
  simp only [Option.bind_some]
  rw [same_eq_ a0 a1 a2 a3 a4 a5 a6 a7 a0 a1 0 0 0 0 0 false (.inr rfl) (.inr rfl) (.inr rfl) (by omega) (by omega) (by omega) (by omega)]
  simp only [Option.bind_some]
  have hx : ∀ x3 x4, winnowref05_Right.j0 (k + 1 + 1 + 1 + 1) x3 x4 a0 a1 a2 a3 a4 a5 a6 a7 l8 l9 l10 = some 6 := fun x3 x4 => by
   rw [jj, winnowref05_Right.j2, if_neg (by simp [h1, h2]), if_neg h3, if_neg h4, if_neg h5, if_neg h6, if_neg h7, if_neg h8, if_neg h9, if_neg h10]
  rw [if_neg h3, hx, hx]
  split <;> rfl
/-! ### light packets -/
theorem light_l (l8 : List S76) (hl : l8.length ≤ 40) (a0 a1 a2 a3 a4 a5 a6 : Int) (a7 : Bool) (l9 : List S92) (l10 : List Int) (d : Nat) : ∀ (k i : Nat), i + d = l8.length → d + 1 ≤ k → ∃ b, winnowlaw05_Light.l0 k i a0 a1 a2 a3 a4 a5 a6 a7 l8 l9 l10 = some b := by
 induction d with
 | zero =>
  intro k i hi hk; obtain ⟨k, rfl⟩ : ∃ m, k = m + 1 := ⟨k - 1, by omega⟩
  exact ⟨true, by rw [winnowlaw05_Light.l0, if_neg (by omega)]⟩
 | succ d ih =>
  intro k i hi hk; obtain ⟨k, rfl⟩ : ∃ m, k = m + 1 := ⟨k - 1, by omega⟩
  rw [winnowlaw05_Light.l0, if_pos (by omega), if_pos (by omega)]
  by_cases h1 : (((rd_T76 l8 (i : Int)).f6).size : Int) > 200
  ·exact ⟨false, by rw [if_pos h1]⟩
  rw [if_neg h1]
  by_cases h2 : (((rd_T76 l8 (i : Int)).f5).size : Int) > 200
  ·exact ⟨false, by rw [if_pos h2]⟩
  rw [if_neg h2, mwadd (by omega)]
  exact ih k (i + 1) (by omega) (by omega)
theorem light_eq (a0 a1 a2 a3 a4 a5 a6 : Int) (a7 : Bool) (l8 : List S76) (l9 : List S92) (l10 : List Int) {k : Nat} (hk : 100 ≤ k) : ∃ b, winnowlaw05_Light.f k a0 a1 a2 a3 a4 a5 a6 a7 l8 l9 l10 = some b ∧ (b = true → l8.length ≤ 40 ∧ l9.length ≤ 100 ∧ l10.length ≤ 100) := by
 obtain ⟨k, rfl⟩ : ∃ m, k = m + 1 := ⟨k - 1, by omega⟩
 have hb : winnowlaw05_Light.j0 (k + 1) true a0 a1 a2 a3 a4 a5 a6 a7 l8 l9 l10 = some false := by rw [winnowlaw05_Light.j0, if_pos rfl]
 unfold winnowlaw05_Light.f
 by_cases h8 : (l8.length : Int) > 40
 ·exact ⟨false, by rw [if_pos h8, hb], fun h => absurd h (by decide)⟩
 by_cases h9 : (l9.length : Int) > 100
 ·exact ⟨false, by rw [if_neg h8, if_pos h9, hb], fun h => absurd h (by decide)⟩
 by_cases h10 : (l10.length : Int) > 100
 ·exact ⟨false, by rw [if_neg h8, if_neg h9, decide_eq_true h10, hb], fun h => absurd h (by decide)⟩
 obtain ⟨b, hb⟩ := light_l l8 (by omega) a0 a1 a2 a3 a4 a5 a6 a7 l9 l10 l8.length k 0 (by omega) (by omega)
 refine ⟨b, ?_, fun _ => ⟨by omega, by omega, by omega⟩⟩
 rw [if_neg h8, if_neg h9, decide_eq_false h10, winnowlaw05_Light.j0, if_neg (by decide)]
 exact hb
end Go.Proofs.Ytlpnpnjjmpkapaa.PAll
