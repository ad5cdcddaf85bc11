/-
  What message.Right says by kind, what a right packet is, and the bytes of one.
  Conditions: light; numbers of their kinds.
-/
import Derived.Test.YtlpnpnjjmpkapaaMsgKind
namespace Go.Proofs.Ytlpnpnjjmpkapaa.PAll
open Go.RowKit Go.Lib Go.Proofs.YtlpnpnjjmpkapaaW.PrintWords Go.Proofs.YtlpnpnjjmpkapaaW.PrintLast Go.Proofs.YtlpnpnjjmpkapaaW.PrintMore
set_option linter.unusedVariables false
set_option linter.unusedSimpArgs false
theorem rv1 (a1 a2 a3 a4 a5 a6 : Int) (a7 : Bool) {l8 : List S76} {l9 : List S92} {l10 : List Int} (hl8 : l8.length ≤ 40) (hl9 : l9.length ≤ 100) (hl10 : l10.length ≤ 100) (w8 : ∀ s ∈ l8, 0 ≤ s.f1 ∧ s.f1 < 18446744073709551616) : message_Right.f 1 a1 a2 a3 a4 a5 a6 a7 l8 l9 l10 = some (if ((decide (0 < a1) && (goB a1 [] l8 && lnB l8.length)) && (rwB l8 l8 l9 [] l10 [] && scB 1 a1 a2 a3 a4 a5 a6 a7 1 a1 0 0 0 0 0 false)) = true then 0 else 6) := by
  unfold message_Right.f
  rw [if_pos ⟨by omega, by omega, by omega⟩]
  rw [if_pos rfl]
  rw [ms_eq a1 l8 hl8 w8]
  simp only [Option.bind_some]
  rw [alike_eq 1 a1 a2 a3 a4 a5 a6 a7 1 a1 0 0 0 0 0 false (.inl rfl) (.inr rfl) (.inr rfl) (by omega) (by omega) (by omega), fin_eq]
theorem rv2 (a1 a2 a3 a4 a5 a6 : Int) (a7 : Bool) {l8 : List S76} {l9 : List S92} {l10 : List Int} (hl8 : l8.length ≤ 40) (hl9 : l9.length ≤ 100) (hl10 : l10.length ≤ 100) (w8 : ∀ s ∈ l8, 0 ≤ s.f1 ∧ s.f1 < 18446744073709551616) : message_Right.f 2 a1 a2 a3 a4 a5 a6 a7 l8 l9 l10 = some (if ((decide (0 < a1) && (goB a1 [] l8 && lnB l8.length)) && (rwB l8 l8 l9 [] l10 [] && scB 2 a1 a2 a3 a4 a5 a6 a7 2 a1 0 0 0 0 0 false)) = true then 0 else 6) := by
  unfold message_Right.f
  rw [if_pos ⟨by omega, by omega, by omega⟩]
  rw [if_neg (by decide)]
  rw [if_pos rfl]
  rw [ms_eq a1 l8 hl8 w8]
  simp only [Option.bind_some]
  rw [alike_eq 2 a1 a2 a3 a4 a5 a6 a7 2 a1 0 0 0 0 0 false (.inl rfl) (.inr rfl) (.inr rfl) (by omega) (by omega) (by omega), fin_eq]
theorem rv3 (a1 a2 a3 a4 a5 a6 : Int) (a7 : Bool) {l8 : List S76} {l9 : List S92} {l10 : List Int} (hl8 : l8.length ≤ 40) (hl9 : l9.length ≤ 100) (hl10 : l10.length ≤ 100) : message_Right.f 3 a1 a2 a3 a4 a5 a6 a7 l8 l9 l10 = some (if (((riseB 0 (l9.map (·.f0)) && lnB l9.length) && !l9.any oddB) && (rwB l8 [] l9 l9 l10 [] && scB 3 a1 a2 a3 a4 a5 a6 a7 3 0 0 0 0 0 0 false)) = true then 0 else 6) := by
  unfold message_Right.f
  rw [if_pos ⟨by omega, by omega, by omega⟩]
  rw [if_neg (by decide)]
  rw [if_neg (by decide)]
  rw [if_pos rfl]
  rw [m62_eq l9 (by omega)]
  rw [m64_eq l9 (by omega)]
  simp only [Option.bind_some]
  rw [alike_eq 3 a1 a2 a3 a4 a5 a6 a7 3 0 0 0 0 0 0 false (.inr rfl) (.inl rfl) (.inr rfl) (by omega) (by omega) (by omega), fin_eq]
theorem rv4 (a1 a2 a3 a4 a5 a6 : Int) (a7 : Bool) {l8 : List S76} {l9 : List S92} {l10 : List Int} (hl8 : l8.length ≤ 40) (hl9 : l9.length ≤ 100) (hl10 : l10.length ≤ 100) : message_Right.f 4 a1 a2 a3 a4 a5 a6 a7 l8 l9 l10 = some (if (message_Right.rAsk a1 a2 a6 && (rwB l8 [] l9 [] l10 [] && scB 4 a1 a2 a3 a4 a5 a6 a7 (if a6 = 0 then 4 else 6) a1 a2 a3 0 0 a6 false)) = true then 0 else 6) := by
  unfold message_Right.f
  rw [if_pos ⟨by omega, by omega, by omega⟩]
  rw [if_neg (by decide)]
  rw [if_neg (by decide)]
  rw [if_neg (by decide)]
  rw [if_pos rfl]
  rw [alike_eq 4 a1 a2 a3 a4 a5 a6 a7 (if a6 = 0 then 4 else 6) a1 a2 a3 0 0 a6 false (.inr rfl) (.inr rfl) (.inr rfl) (by omega) (by omega) (by omega), fin_eq]
theorem rv6 (a1 a2 a3 a4 a5 a6 : Int) (a7 : Bool) {l8 : List S76} {l9 : List S92} {l10 : List Int} (hl8 : l8.length ≤ 40) (hl9 : l9.length ≤ 100) (hl10 : l10.length ≤ 100) : message_Right.f 6 a1 a2 a3 a4 a5 a6 a7 l8 l9 l10 = some (if (message_Right.rAsk a1 a2 a6 && (rwB l8 [] l9 [] l10 [] && scB 6 a1 a2 a3 a4 a5 a6 a7 (if a6 = 0 then 4 else 6) a1 a2 a3 0 0 a6 false)) = true then 0 else 6) := by
  unfold message_Right.f
  rw [if_pos ⟨by omega, by omega, by omega⟩]
  rw [if_neg (by decide)]
  rw [if_neg (by decide)]
  rw [if_neg (by decide)]
  rw [if_neg (by decide)]
  rw [if_neg (by decide)]
  rw [if_pos rfl]
  rw [alike_eq 6 a1 a2 a3 a4 a5 a6 a7 (if a6 = 0 then 4 else 6) a1 a2 a3 0 0 a6 false (.inr rfl) (.inr rfl) (.inr rfl) (by omega) (by omega) (by omega), fin_eq]
theorem rv5 (a1 a2 a3 a4 a5 a6 : Int) (a7 : Bool) {l8 : List S76} {l9 : List S92} {l10 : List Int} (hl8 : l8.length ≤ 40) (hl9 : l9.length ≤ 100) (hl10 : l10.length ≤ 100) : message_Right.f 5 a1 a2 a3 a4 a5 a6 a7 l8 l9 l10 = some (if (message_Right.rReply a1 a2 a7 a4 a5 a6 false && (rwB l8 [] l9 [] l10 [] && scB 5 a1 a2 a3 a4 a5 a6 a7 5 a1 a2 a3 a4 a5 a6 a7)) = true then 0 else 6) := by
  unfold message_Right.f
  rw [if_pos ⟨by omega, by omega, by omega⟩]
  rw [if_neg (by decide)]
  rw [if_neg (by decide)]
  rw [if_neg (by decide)]
  rw [if_neg (by decide)]
  rw [if_pos rfl]
  rw [alike_eq 5 a1 a2 a3 a4 a5 a6 a7 5 a1 a2 a3 a4 a5 a6 a7 (.inr rfl) (.inr rfl) (.inr rfl) (by omega) (by omega) (by omega), fin_eq]
theorem rv7 (a1 a2 a3 a4 a5 a6 : Int) (a7 : Bool) {l8 : List S76} {l9 : List S92} {l10 : List Int} (hl8 : l8.length ≤ 40) (hl9 : l9.length ≤ 100) (hl10 : l10.length ≤ 100) : message_Right.f 7 a1 a2 a3 a4 a5 a6 a7 l8 l9 l10 = some (if (message_Right.rReply a1 a2 a7 a4 a5 a6 true && (rwB l8 [] l9 [] l10 [] && scB 7 a1 a2 a3 a4 a5 a6 a7 7 a1 a2 a3 a4 a5 a6 a7)) = true then 0 else 6) := by
  unfold message_Right.f
  rw [if_pos ⟨by omega, by omega, by omega⟩]
  rw [if_neg (by decide)]
  rw [if_neg (by decide)]
  rw [if_neg (by decide)]
  rw [if_neg (by decide)]
  rw [if_neg (by decide)]
  rw [if_neg (by decide)]
  rw [if_pos rfl]
  rw [alike_eq 7 a1 a2 a3 a4 a5 a6 a7 7 a1 a2 a3 a4 a5 a6 a7 (.inr rfl) (.inr rfl) (.inr rfl) (by omega) (by omega) (by omega), fin_eq]
theorem rv8 (a1 a2 a3 a4 a5 a6 : Int) (a7 : Bool) {l8 : List S76} {l9 : List S92} {l10 : List Int} (hl8 : l8.length ≤ 40) (hl9 : l9.length ≤ 100) (hl10 : l10.length ≤ 100) : message_Right.f 8 a1 a2 a3 a4 a5 a6 a7 l8 l9 l10 = some (if ((decide (0 < a1) && message_Right.tB a6) && (rwB l8 [] l9 [] l10 [] && scB 8 a1 a2 a3 a4 a5 a6 a7 8 a1 0 0 0 0 a6 false)) = true then 0 else 6) := by
  unfold message_Right.f
  rw [if_pos ⟨by omega, by omega, by omega⟩]
  rw [if_neg (by decide)]
  rw [if_neg (by decide)]
  rw [if_neg (by decide)]
  rw [if_neg (by decide)]
  rw [if_neg (by decide)]
  rw [if_neg (by decide)]
  rw [if_neg (by decide)]
  rw [if_pos rfl]
  rw [alike_eq 8 a1 a2 a3 a4 a5 a6 a7 8 a1 0 0 0 0 a6 false (.inr rfl) (.inr rfl) (.inr rfl) (by omega) (by omega) (by omega), fin_eq]
theorem rv9 (a1 a2 a3 a4 a5 a6 : Int) (a7 : Bool) {l8 : List S76} {l9 : List S92} {l10 : List Int} (hl8 : l8.length ≤ 40) (hl9 : l9.length ≤ 100) (hl10 : l10.length ≤ 100) (w8 : ∀ s ∈ l8, 0 ≤ s.f1 ∧ s.f1 < 18446744073709551616) : message_Right.f 9 a1 a2 a3 a4 a5 a6 a7 l8 l9 l10 = some (if ((decide (0 < a1) && (decide (0 < a2) && (goB a1 [] l8 && lnB l8.length))) && (rwB l8 l8 l9 [] l10 [] && scB 9 a1 a2 a3 a4 a5 a6 a7 9 a1 a2 a3 0 0 0 false)) = true then 0 else 6) := by
  unfold message_Right.f
  rw [if_pos ⟨by omega, by omega, by omega⟩]
  rw [if_neg (by decide)]
  rw [if_neg (by decide)]
  rw [if_neg (by decide)]
  rw [if_neg (by decide)]
  rw [if_neg (by decide)]
  rw [if_neg (by decide)]
  rw [if_neg (by decide)]
  rw [if_neg (by decide)]
  rw [if_pos rfl]
  rw [ms_eq a1 l8 hl8 w8]
  simp only [Option.bind_some]
  rw [alike_eq 9 a1 a2 a3 a4 a5 a6 a7 9 a1 a2 a3 0 0 0 false (.inl rfl) (.inr rfl) (.inr rfl) (by omega) (by omega) (by omega), fin_eq]
theorem rv10 (a1 a2 a3 a4 a5 a6 : Int) (a7 : Bool) {l8 : List S76} {l9 : List S92} {l10 : List Int} (hl8 : l8.length ≤ 40) (hl9 : l9.length ≤ 100) (hl10 : l10.length ≤ 100) : message_Right.f 10 a1 a2 a3 a4 a5 a6 a7 l8 l9 l10 = some (if ((decide (0 < a1) && (riseB 0 l10 && lnB l10.length)) && (rwB l8 [] l9 [] l10 l10 && scB 10 a1 a2 a3 a4 a5 a6 a7 10 a1 0 0 0 0 0 false)) = true then 0 else 6) := by
  unfold message_Right.f
  rw [if_pos ⟨by omega, by omega, by omega⟩]
  rw [if_neg (by decide)]
  rw [if_neg (by decide)]
  rw [if_neg (by decide)]
  rw [if_neg (by decide)]
  rw [if_neg (by decide)]
  rw [if_neg (by decide)]
  rw [if_neg (by decide)]
  rw [if_neg (by decide)]
  rw [if_neg (by decide)]
  rw [if_pos rfl]
  rw [mr_eq l10 (by omega)]
  simp only [Option.bind_some]
  rw [alike_eq 10 a1 a2 a3 a4 a5 a6 a7 10 a1 0 0 0 0 0 false (.inr rfl) (.inr rfl) (.inl rfl) (by omega) (by omega) (by omega), fin_eq]
theorem if06 {x : Bool} (h : some (if x = true then (0 : Int) else 6) = some 0) : x = true := by
  cases x
  · exact absurd h (by decide)
  · rfl
theorem len0 {α : Type} {l : List α} (h : l.length = ([] : List α).length) : l = [] := List.length_eq_zero_iff.1 h
theorem good1 (a1 a2 a3 a4 a5 a6 : Int) (a7 : Bool) {l8 : List S76} {l9 : List S92} {l10 : List Int} (hl8 : l8.length ≤ 40) (hl9 : l9.length ≤ 100) (hl10 : l10.length ≤ 100) (w8 : ∀ s ∈ l8, 0 ≤ s.f1 ∧ s.f1 < 18446744073709551616) (h : message_Right.f 1 a1 a2 a3 a4 a5 a6 a7 l8 l9 l10 = some 0) : a2 = 0 ∧ a3 = 0 ∧ a4 = 0 ∧ a5 = 0 ∧ a6 = 0 ∧ a7 = false ∧ l9 = [] ∧ l10 = [] ∧ 0 < a1 ∧ goB a1 [] l8 = true ∧ l8.length ≤ 16 := by
  rw [rv1 a1 a2 a3 a4 a5 a6 a7 hl8 hl9 hl10 w8] at h
  have h := if06 h
  simp only [scB, rwB, lnB, message_Right.rAsk, message_Right.rReply, message_Right.tB, message_Right.zB, Bool.and_eq_true, Bool.or_eq_true, decide_eq_true_eq, beq_iff_eq, Bool.not_eq_true'] at h
  obtain ⟨⟨ha, hg, _, hl⟩, ⟨_, h9, h10⟩, e0, e1, ⟨e2, e3⟩, ⟨e4, e5⟩, e6, e7⟩ := h
  exact ⟨e2, e3, e4, e5, e6, e7, len0 h9, len0 h10, ha, hg, hl⟩
theorem good2 (a1 a2 a3 a4 a5 a6 : Int) (a7 : Bool) {l8 : List S76} {l9 : List S92} {l10 : List Int} (hl8 : l8.length ≤ 40) (hl9 : l9.length ≤ 100) (hl10 : l10.length ≤ 100) (w8 : ∀ s ∈ l8, 0 ≤ s.f1 ∧ s.f1 < 18446744073709551616) (h : message_Right.f 2 a1 a2 a3 a4 a5 a6 a7 l8 l9 l10 = some 0) : a2 = 0 ∧ a3 = 0 ∧ a4 = 0 ∧ a5 = 0 ∧ a6 = 0 ∧ a7 = false ∧ l9 = [] ∧ l10 = [] ∧ 0 < a1 ∧ goB a1 [] l8 = true ∧ l8.length ≤ 16 := by
  rw [rv2 a1 a2 a3 a4 a5 a6 a7 hl8 hl9 hl10 w8] at h
  have h := if06 h
  simp only [scB, rwB, lnB, message_Right.rAsk, message_Right.rReply, message_Right.tB, message_Right.zB, Bool.and_eq_true, Bool.or_eq_true, decide_eq_true_eq, beq_iff_eq, Bool.not_eq_true'] at h
  obtain ⟨⟨ha, hg, _, hl⟩, ⟨_, h9, h10⟩, e0, e1, ⟨e2, e3⟩, ⟨e4, e5⟩, e6, e7⟩ := h
  exact ⟨e2, e3, e4, e5, e6, e7, len0 h9, len0 h10, ha, hg, hl⟩
theorem good3 (a1 a2 a3 a4 a5 a6 : Int) (a7 : Bool) {l8 : List S76} {l9 : List S92} {l10 : List Int} (hl8 : l8.length ≤ 40) (hl9 : l9.length ≤ 100) (hl10 : l10.length ≤ 100) (h : message_Right.f 3 a1 a2 a3 a4 a5 a6 a7 l8 l9 l10 = some 0) : a1 = 0 ∧ a2 = 0 ∧ a3 = 0 ∧ a4 = 0 ∧ a5 = 0 ∧ a6 = 0 ∧ a7 = false ∧ l8 = [] ∧ l10 = [] ∧ (∀ s ∈ l9, 0 ≤ s.f2 ∧ s.f2 ≤ 2) ∧ l9.length ≤ 16 := by
  rw [rv3 a1 a2 a3 a4 a5 a6 a7 hl8 hl9 hl10] at h
  have h := if06 h
  simp only [scB, rwB, lnB, message_Right.rAsk, message_Right.rReply, message_Right.tB, message_Right.zB, Bool.and_eq_true, Bool.or_eq_true, decide_eq_true_eq, beq_iff_eq, Bool.not_eq_true'] at h
  obtain ⟨⟨⟨_, _, hl⟩, ho⟩, ⟨h8, _, h10⟩, e0, e1, ⟨e2, e3⟩, ⟨e4, e5⟩, e6, e7⟩ := h
  refine ⟨e1, e2, e3, e4, e5, e6, e7, len0 h8, len0 h10, fun s hs => ?_, hl⟩
  have hq := List.any_eq_false.1 ho s hs
  simp only [oddB, Bool.or_eq_true, decide_eq_true_eq, beq_iff_eq, not_or] at hq
  omega
theorem good4 (a1 a2 a3 a4 a5 a6 : Int) (a7 : Bool) {l8 : List S76} {l9 : List S92} {l10 : List Int} (hl8 : l8.length ≤ 40) (hl9 : l9.length ≤ 100) (hl10 : l10.length ≤ 100) (h : message_Right.f 4 a1 a2 a3 a4 a5 a6 a7 l8 l9 l10 = some 0) : a4 = 0 ∧ a5 = 0 ∧ a6 = 0 ∧ a7 = false ∧ l8 = [] ∧ l9 = [] ∧ l10 = [] := by
  rw [rv4 a1 a2 a3 a4 a5 a6 a7 hl8 hl9 hl10] at h
  have h := if06 h
  simp only [scB, rwB, lnB, message_Right.rAsk, message_Right.rReply, message_Right.tB, message_Right.zB, Bool.and_eq_true, Bool.or_eq_true, decide_eq_true_eq, beq_iff_eq, Bool.not_eq_true'] at h
  obtain ⟨⟨ha, hb, hv⟩, ⟨h8, h9, h10⟩, e0, e1, _, ⟨e4, e5⟩, e6, e7⟩ := h
  by_cases h6 : a6 = 0
  · exact ⟨e4, e5, h6, e7, len0 h8, len0 h9, len0 h10⟩
  · rw [if_neg h6] at e0
    exact absurd e0 (by decide)
theorem good6 (a1 a2 a3 a4 a5 a6 : Int) (a7 : Bool) {l8 : List S76} {l9 : List S92} {l10 : List Int} (hl8 : l8.length ≤ 40) (hl9 : l9.length ≤ 100) (hl10 : l10.length ≤ 100) (h : message_Right.f 6 a1 a2 a3 a4 a5 a6 a7 l8 l9 l10 = some 0) : a4 = 0 ∧ a5 = 0 ∧ a7 = false ∧ l8 = [] ∧ l9 = [] ∧ l10 = [] ∧ 1 ≤ a6 ∧ a6 ≤ 3 := by
  rw [rv6 a1 a2 a3 a4 a5 a6 a7 hl8 hl9 hl10] at h
  have h := if06 h
  simp only [scB, rwB, lnB, message_Right.rAsk, message_Right.rReply, message_Right.tB, message_Right.zB, Bool.and_eq_true, Bool.or_eq_true, decide_eq_true_eq, beq_iff_eq, Bool.not_eq_true'] at h
  obtain ⟨⟨ha, hb, hv⟩, ⟨h8, h9, h10⟩, e0, e1, _, ⟨e4, e5⟩, e6, e7⟩ := h
  by_cases h6 : a6 = 0
  · rw [if_pos h6] at e0
    exact absurd e0 (by decide)
  · exact ⟨e4, e5, e7, len0 h8, len0 h9, len0 h10, hv.resolve_left h6⟩
theorem good5 (a1 a2 a3 a4 a5 a6 : Int) (a7 : Bool) {l8 : List S76} {l9 : List S92} {l10 : List Int} (hl8 : l8.length ≤ 40) (hl9 : l9.length ≤ 100) (hl10 : l10.length ≤ 100) (h : message_Right.f 5 a1 a2 a3 a4 a5 a6 a7 l8 l9 l10 = some 0) : l8 = [] ∧ l9 = [] ∧ l10 = [] ∧ 0 ≤ a6 ∧ a6 ≤ 3 := by
  rw [rv5 a1 a2 a3 a4 a5 a6 a7 hl8 hl9 hl10] at h
  have h := if06 h
  simp only [scB, rwB, lnB, message_Right.rAsk, message_Right.rReply, message_Right.tB, message_Right.zB, Bool.and_eq_true, Bool.or_eq_true, decide_eq_true_eq, beq_iff_eq, Bool.not_eq_true'] at h
  obtain ⟨⟨ha, hb, hv⟩, ⟨h8, h9, h10⟩, _⟩ := h
  refine ⟨len0 h8, len0 h9, len0 h10, ?_⟩
  cases a7 <;> simp at hv <;> omega
theorem good7 (a1 a2 a3 a4 a5 a6 : Int) (a7 : Bool) {l8 : List S76} {l9 : List S92} {l10 : List Int} (hl8 : l8.length ≤ 40) (hl9 : l9.length ≤ 100) (hl10 : l10.length ≤ 100) (h : message_Right.f 7 a1 a2 a3 a4 a5 a6 a7 l8 l9 l10 = some 0) : a6 = 0 ∧ l8 = [] ∧ l9 = [] ∧ l10 = [] := by
  rw [rv7 a1 a2 a3 a4 a5 a6 a7 hl8 hl9 hl10] at h
  have h := if06 h
  simp only [scB, rwB, lnB, message_Right.rAsk, message_Right.rReply, message_Right.tB, message_Right.zB, Bool.and_eq_true, Bool.or_eq_true, decide_eq_true_eq, beq_iff_eq, Bool.not_eq_true'] at h
  obtain ⟨⟨ha, hb, hv⟩, ⟨h8, h9, h10⟩, _⟩ := h
  refine ⟨?_, len0 h8, len0 h9, len0 h10⟩
  cases a7 <;> simp at hv <;> omega
theorem good8 (a1 a2 a3 a4 a5 a6 : Int) (a7 : Bool) {l8 : List S76} {l9 : List S92} {l10 : List Int} (hl8 : l8.length ≤ 40) (hl9 : l9.length ≤ 100) (hl10 : l10.length ≤ 100) (h : message_Right.f 8 a1 a2 a3 a4 a5 a6 a7 l8 l9 l10 = some 0) : a2 = 0 ∧ a3 = 0 ∧ a4 = 0 ∧ a5 = 0 ∧ a7 = false ∧ l8 = [] ∧ l9 = [] ∧ l10 = [] ∧ 1 ≤ a6 ∧ a6 ≤ 3 := by
  rw [rv8 a1 a2 a3 a4 a5 a6 a7 hl8 hl9 hl10] at h
  have h := if06 h
  simp only [scB, rwB, lnB, message_Right.rAsk, message_Right.rReply, message_Right.tB, message_Right.zB, Bool.and_eq_true, Bool.or_eq_true, decide_eq_true_eq, beq_iff_eq, Bool.not_eq_true'] at h
  obtain ⟨⟨ha, hv⟩, ⟨h8, h9, h10⟩, e0, e1, ⟨e2, e3⟩, ⟨e4, e5⟩, e6, e7⟩ := h
  exact ⟨e2, e3, e4, e5, e7, len0 h8, len0 h9, len0 h10, hv⟩
theorem good9 (a1 a2 a3 a4 a5 a6 : Int) (a7 : Bool) {l8 : List S76} {l9 : List S92} {l10 : List Int} (hl8 : l8.length ≤ 40) (hl9 : l9.length ≤ 100) (hl10 : l10.length ≤ 100) (w8 : ∀ s ∈ l8, 0 ≤ s.f1 ∧ s.f1 < 18446744073709551616) (h : message_Right.f 9 a1 a2 a3 a4 a5 a6 a7 l8 l9 l10 = some 0) : a4 = 0 ∧ a5 = 0 ∧ a6 = 0 ∧ a7 = false ∧ l9 = [] ∧ l10 = [] ∧ goB a1 [] l8 = true ∧ l8.length ≤ 16 := by
  rw [rv9 a1 a2 a3 a4 a5 a6 a7 hl8 hl9 hl10 w8] at h
  have h := if06 h
  simp only [scB, rwB, lnB, message_Right.rAsk, message_Right.rReply, message_Right.tB, message_Right.zB, Bool.and_eq_true, Bool.or_eq_true, decide_eq_true_eq, beq_iff_eq, Bool.not_eq_true'] at h
  obtain ⟨⟨ha, hb, hg, _, hl⟩, ⟨_, h9, h10⟩, e0, e1, ⟨e2, e3⟩, ⟨e4, e5⟩, e6, e7⟩ := h
  exact ⟨e4, e5, e6, e7, len0 h9, len0 h10, hg, hl⟩
theorem good10 (a1 a2 a3 a4 a5 a6 : Int) (a7 : Bool) {l8 : List S76} {l9 : List S92} {l10 : List Int} (hl8 : l8.length ≤ 40) (hl9 : l9.length ≤ 100) (hl10 : l10.length ≤ 100) (h : message_Right.f 10 a1 a2 a3 a4 a5 a6 a7 l8 l9 l10 = some 0) : a2 = 0 ∧ a3 = 0 ∧ a4 = 0 ∧ a5 = 0 ∧ a6 = 0 ∧ a7 = false ∧ l8 = [] ∧ l9 = [] ∧ l10.length ≤ 16 := by
  rw [rv10 a1 a2 a3 a4 a5 a6 a7 hl8 hl9 hl10] at h
  have h := if06 h
  simp only [scB, rwB, lnB, message_Right.rAsk, message_Right.rReply, message_Right.tB, message_Right.zB, Bool.and_eq_true, Bool.or_eq_true, decide_eq_true_eq, beq_iff_eq, Bool.not_eq_true'] at h
  obtain ⟨⟨ha, hg, _, hl⟩, ⟨h8, h9, _⟩, e0, e1, ⟨e2, e3⟩, ⟨e4, e5⟩, e6, e7⟩ := h
  exact ⟨e2, e3, e4, e5, e6, e7, len0 h8, len0 h9, hl⟩
/-! ### the bytes -/
theorem nums_eq : ∀ (l bs : List Int), bs.length + 8 * l.length ≤ 1000000 → message_Encode.nums bs l = some (bs ++ l.flatMap be8)
  | [], bs, _ => by simp [message_Encode.nums]
  | n :: l, bs, h => by
    rw [List.length_cons] at h
    rw [message_Encode.nums, put64_eq (by omega) n (by omega)]
    simp only [Option.bind_some]
    rw [nums_eq l (bs ++ be8 n) (by rw [List.length_append, be8_len]; omega), List.flatMap_cons, List.append_assoc]
def spB (s : S76) : List Int := spanL s.f0 s.f1 s.f2 s.f3 s.f4 s.f5 s.f6 s.f7
def memL (m : S92) : List Int := be8 m.f0 ++ be8 m.f1 ++ [m.f2 % 256]
theorem name_size {s : ByteArray} (h : span_Name.f s = some 0) : s.size ≤ 32 := by
  unfold span_Name.f at h
  by_cases c : s.toList = [] ∨ 32 < s.size
  · rw [if_pos c] at h
    exact absurd h (by decide)
  · omega
theorem rN_size {s : S76} (h : rN s = 0) : s.f5.size ≤ 32 ∧ s.f6.size ≤ 32 := by
  have h1 := rN_eq s
  rw [h] at h1
  unfold rightN at h1
  by_cases c : s.f0 = 0 ∨ s.f1 = 0 ∨ s.f3 > 1099511627776 ∨ s.f4 > 1099511627776
  · rw [if_pos c] at h1
    exact absurd h1 (by decide)
  · rw [if_neg c] at h1
    obtain ⟨x, hx, h1⟩ := Option.bind_eq_some_iff.1 h1
    obtain ⟨y, hy, h1⟩ := Option.bind_eq_some_iff.1 h1
    by_cases q : x = 0
    · subst q
      rw [if_pos rfl] at h1
      obtain rfl := Option.some.inj h1
      exact ⟨name_size hx, name_size hy⟩
    · rw [if_neg q] at h1
      exact absurd (Option.some.inj h1) q
theorem spB_len {s : S76} (h : rN s = 0) : (spB s).length ≤ 107 := by
  have := rN_size h
  rw [spB, spanL_len]
  omega
theorem goB_all : ∀ (l : List S76) (tr : Int) (met : List Int), goB tr met l = true → ∀ s ∈ l, rN s = 0 ∧ s.f0 = tr
  | [], _, _, _, s, hs => by cases hs
  | x :: l, tr, met, h, s, hs => by
    rw [goB] at h
    by_cases h0 : rN x = 0
    · rw [if_pos h0] at h
      by_cases h1 : x.f0 = tr
      · rw [if_pos h1] at h
        by_cases h2 : x.f1 ∈ met
        · rw [if_pos h2] at h
          cases h
        · rw [if_neg h2] at h
          rcases List.mem_cons.1 hs with rfl | hs
          · exact ⟨h0, h1⟩
          · exact goB_all l tr _ h s hs
      · rw [if_neg h1] at h
        cases h
    · rw [if_neg h0] at h
      cases h
theorem sps_eq : ∀ (l : List S76) (bs : List Int), (∀ s ∈ l, rN s = 0) → bs.length + 107 * l.length ≤ 1000000 → message_Encode.sps bs l = some (bs ++ l.flatMap spB)
  | [], bs, _, _ => by simp [message_Encode.sps]
  | s :: l, bs, hr, h => by
    rw [List.length_cons] at h
    have h0 := hr s (List.mem_cons_self ..)
    have hz := rN_size h0
    have hl := spB_len h0
    rw [message_Encode.sps, sput_eq _ _ _ _ _ _ _ _ _ (by omega) (by omega) (by omega), putN, rN_eq, h0]
    simp only [Option.bind_some, if_true]
    rw [show spanL s.f0 s.f1 s.f2 s.f3 s.f4 s.f5 s.f6 s.f7 = spB s from rfl, sps_eq l (bs ++ spB s) (fun t ht => hr t (List.mem_cons_of_mem _ ht)) (by rw [List.length_append]; omega), List.flatMap_cons, List.append_assoc]
theorem memL_len (m : S92) : (memL m).length = 17 := by simp [memL, be8_len]
theorem mems_eq : ∀ (l : List S92) (bs : List Int), bs.length + 17 * l.length ≤ 90000 → message_Encode.mems bs l = some (bs ++ l.flatMap memL)
  | [], bs, _ => by simp [message_Encode.mems]
  | m :: l, bs, h => by
    rw [List.length_cons] at h
    have e : bs ++ [m.f0, m.f1].flatMap be8 = bs ++ be8 m.f0 ++ be8 m.f1 := by simp [List.flatMap_cons]
    rw [message_Encode.mems, nums_eq [m.f0, m.f1] bs (by simp; omega), e]
    simp only [Option.bind_some]
    rw [if_pos (by simp only [List.length_append, be8_len]; omega)]
    rw [show bs ++ be8 m.f0 ++ be8 m.f1 ++ [m.f2 % 256] = bs ++ memL m by simp [memL], mems_eq l (bs ++ memL m) (by rw [List.length_append, memL_len]; omega), List.flatMap_cons, List.append_assoc]
theorem n1_eq (bs l : List Int) (h : bs.length + 8 * l.length ≤ 1000) : message_Encode.n1 bs l = some (bs ++ l.flatMap be8) := by
  have e : (l.flatMap be8).length = 8 * l.length := by
    clear h
    induction l with
    | nil => rfl
    | cons n l ih => rw [List.flatMap_cons, List.length_append, be8_len, ih, List.length_cons]; omega
  unfold message_Encode.n1
  rw [nums_eq l bs (by omega)]
  simp only [Option.bind_some]
  rw [if_pos (by rw [List.length_append, e]; omega)]
def okN (b : Bool) : Int := if b = true then 1 else 0
/-- The bytes of a right packet, without a frame. -/
def payL (kd a1 a2 a3 a4 a5 a6 : Int) (a7 : Bool) (l8 : List S76) (l9 : List S92) (l10 : List Int) : List Int :=
  if kd = 3 then [3, (l9.length : Int)] ++ l9.flatMap memL
  else [kd] ++ be8 a1 ++ (if kd = 1 ∨ kd = 2 then [(l8.length : Int)] ++ l8.flatMap spB
    else if kd = 4 then be8 a2 ++ be8 a3
    else if kd = 5 then be8 a2 ++ be8 a3 ++ [okN a7] ++ be8 a4 ++ be8 a5 ++ [a6]
    else if kd = 6 then be8 a2 ++ be8 a3 ++ [a6]
    else if kd = 7 then be8 a2 ++ be8 a3 ++ [okN a7] ++ be8 a4 ++ be8 a5
    else if kd = 8 then [a6]
    else if kd = 9 then be8 a2 ++ be8 a3 ++ [(l8.length : Int)] ++ l8.flatMap spB
    else [(l10.length : Int)] ++ l10.flatMap be8)
theorem f1 (n : Int) : [n].flatMap be8 = be8 n := by simp
theorem f2 (n m : Int) : [n, m].flatMap be8 = be8 n ++ be8 m := by simp
theorem okm (b : Bool) : (if b = true then (1 : Int) else 0) % 256 = okN b := by cases b <;> rfl
theorem pay_eq (a0 a1 a2 a3 a4 a5 a6 : Int) (a7 : Bool) {l8 : List S76} {l9 : List S92} {l10 : List Int} (hl8 : l8.length ≤ 40) (hl9 : l9.length ≤ 100) (hl10 : l10.length ≤ 100) (w8 : ∀ s ∈ l8, 0 ≤ s.f1 ∧ s.f1 < 18446744073709551616)
    (h : message_Right.f a0 a1 a2 a3 a4 a5 a6 a7 l8 l9 l10 = some 0) : message_Encode.pay a0 a1 a2 a3 a4 a5 a6 a7 l8 l9 l10 = some (payL a0 a1 a2 a3 a4 a5 a6 a7 l8 l9 l10) := by
  have md : ∀ n : Int, 0 ≤ n → n ≤ 16 → n % 256 = n := fun n h0 h1 => by omega
  unfold message_Encode.pay payL
  by_cases k1 : a0 = 1
  · subst k1
    obtain ⟨_, _, _, _, _, _, _, _, _, hg, hl⟩ := good1 a1 a2 a3 a4 a5 a6 a7 hl8 hl9 hl10 w8 h
    rw [if_pos rfl, if_neg (by decide), if_pos (.inl rfl), n1_eq _ _ (by simp)]
    simp only [Option.bind_some]
    rw [sps_eq _ _ (fun s hs => (goB_all _ _ _ hg s hs).1) (by simp [be8_len]; omega), f1, md _ (by omega) (by omega)]
    simp
  rw [if_neg k1]
  by_cases k2 : a0 = 2
  · subst k2
    obtain ⟨_, _, _, _, _, _, _, _, _, hg, hl⟩ := good2 a1 a2 a3 a4 a5 a6 a7 hl8 hl9 hl10 w8 h
    rw [if_pos rfl, if_neg (by decide), if_pos (.inr rfl), n1_eq _ _ (by simp)]
    simp only [Option.bind_some]
    rw [sps_eq _ _ (fun s hs => (goB_all _ _ _ hg s hs).1) (by simp [be8_len]; omega), f1, md _ (by omega) (by omega)]
    simp
  rw [if_neg k2, if_neg (show ¬ (a0 = 1 ∨ a0 = 2) from fun h => h.elim k1 k2)]
  by_cases k3 : a0 = 3
  · subst k3
    obtain ⟨_, _, _, _, _, _, _, _, _, _, hl⟩ := good3 a1 a2 a3 a4 a5 a6 a7 hl8 hl9 hl10 h
    rw [if_pos rfl, if_pos rfl, mems_eq _ _ (by simp; omega), md _ (by omega) (by omega)]
    simp
  rw [if_neg k3, if_neg k3]
  by_cases k4 : a0 = 4
  · subst k4
    rw [if_pos rfl, if_pos rfl, n1_eq _ _ (by simp)]
    simp only [Option.bind_some]
    rw [n1_eq _ _ (by simp [be8_len]), f1, f2]
  rw [if_neg k4, if_neg k4]
  by_cases k5 : a0 = 5
  · subst k5
    obtain ⟨_, _, _, hv⟩ := good5 a1 a2 a3 a4 a5 a6 a7 hl8 hl9 hl10 h
    rw [if_pos rfl, if_pos rfl, n1_eq _ _ (by simp)]
    simp only [Option.bind_some]
    rw [n1_eq _ _ (by simp [be8_len])]
    simp only [Option.bind_some]
    rw [n1_eq _ _ (by simp [be8_len])]
    simp only [Option.bind_some]
    rw [f1, f2, f2, okm, md _ (by omega) (by omega)]
    simp
  rw [if_neg k5, if_neg k5]
  by_cases k6 : a0 = 6
  · subst k6
    obtain ⟨_, _, _, _, _, _, hv⟩ := good6 a1 a2 a3 a4 a5 a6 a7 hl8 hl9 hl10 h
    rw [if_pos rfl, if_pos rfl, n1_eq _ _ (by simp)]
    simp only [Option.bind_some]
    rw [n1_eq _ _ (by simp [be8_len])]
    simp only [Option.bind_some]
    rw [f1, f2, md _ (by omega) (by omega)]
    simp
  rw [if_neg k6, if_neg k6]
  by_cases k7 : a0 = 7
  · subst k7
    rw [if_pos rfl, if_pos rfl, n1_eq _ _ (by simp)]
    simp only [Option.bind_some]
    rw [n1_eq _ _ (by simp [be8_len])]
    simp only [Option.bind_some]
    rw [n1_eq _ _ (by simp [be8_len])]
    rw [f1, f2, f2, okm]
    simp
  rw [if_neg k7, if_neg k7]
  by_cases k8 : a0 = 8
  · subst k8
    obtain ⟨_, _, _, _, _, _, _, _, hv⟩ := good8 a1 a2 a3 a4 a5 a6 a7 hl8 hl9 hl10 h
    rw [if_pos rfl, if_pos rfl, n1_eq _ _ (by simp)]
    simp only [Option.bind_some]
    rw [f1, md _ (by omega) (by omega)]
  rw [if_neg k8, if_neg k8]
  by_cases k9 : a0 = 9
  · subst k9
    obtain ⟨_, _, _, _, _, _, hg, hl⟩ := good9 a1 a2 a3 a4 a5 a6 a7 hl8 hl9 hl10 w8 h
    rw [if_pos rfl, if_pos rfl, n1_eq _ _ (by simp)]
    simp only [Option.bind_some]
    rw [n1_eq _ _ (by simp [be8_len])]
    simp only [Option.bind_some]
    rw [sps_eq _ _ (fun s hs => (goB_all _ _ _ hg s hs).1) (by simp [be8_len]; omega), f1, f2, md _ (by omega) (by omega)]
    simp
  rw [if_neg k9, if_neg k9]
  by_cases k10 : a0 = 10
  · subst k10
    obtain ⟨_, _, _, _, _, _, _, _, hl⟩ := good10 a1 a2 a3 a4 a5 a6 a7 hl8 hl9 hl10 h
    rw [if_pos rfl, n1_eq _ _ (by simp)]
    simp only [Option.bind_some]
    rw [nums_eq _ _ (by simp [be8_len]; omega), f1, md _ (by omega) (by omega)]
    simp
  · exfalso
    unfold message_Right.f at h
    rw [if_pos ⟨by omega, by omega, by omega⟩, if_neg k1, if_neg k2, if_neg k3, if_neg k4, if_neg k5, if_neg k6, if_neg k7, if_neg k8, if_neg k9, if_neg k10] at h
    exact absurd h (by decide)
/-! ### bytes are bytes -/
theorem be8_bytes (n : Int) : Bytes (be8 n) := by
  intro x hx
  simp only [be8, List.mem_cons, List.not_mem_nil, or_false] at hx
  rcases hx with rfl | rfl | rfl | rfl | rfl | rfl | rfl | rfl <;> omega
theorem bytes1 {n : Int} (h0 : 0 ≤ n) (h1 : n ≤ 255) : Bytes [n] := fun x hx => by
  rw [List.mem_singleton] at hx
  subst hx
  exact ⟨h0, h1⟩
theorem bytes_flat {α : Type} {l : List α} {f : α → List Int} (h : ∀ x ∈ l, Bytes (f x)) : Bytes (l.flatMap f) := fun y hy => by
  obtain ⟨x, hx, hy⟩ := List.mem_flatMap.1 hy
  exact h x hx y hy
theorem flat_len {α : Type} {l : List α} {f : α → List Int} (c : Nat) (h : ∀ x ∈ l, (f x).length ≤ c) : (l.flatMap f).length ≤ c * l.length := by
  induction l with
  | nil => simp
  | cons a l ih =>
    rw [List.flatMap_cons, List.length_append, List.length_cons, Nat.mul_succ]
    have := h a (List.mem_cons_self ..)
    have := ih (fun x hx => h x (List.mem_cons_of_mem _ hx))
    omega
theorem bytesOf_bytes (s : ByteArray) : Bytes (bytesOf s) := fun x hx => by
  obtain ⟨b, _, rfl⟩ := List.mem_map.1 hx
  have := b.toNat_lt
  omega
theorem txt_bytes (s : ByteArray) : Bytes (txt s) := by
  intro x hx
  rcases List.mem_cons.1 hx with rfl | hx
  · omega
  · exact bytesOf_bytes s x hx
theorem spB_bytes (s : S76) : Bytes (spB s) := by
  unfold spB spanL
  refine ((((((((be8_bytes _).append (be8_bytes _)).append (be8_bytes _)).append (be8_bytes _)).append (be8_bytes _)).append ?_).append (txt_bytes _)).append (txt_bytes _))
  cases s.f7 <;> exact bytes1 (by decide) (by decide)
theorem memL_bytes (m : S92) : Bytes (memL m) := ((be8_bytes _).append (be8_bytes _)).append (bytes1 (by omega) (by omega))
theorem okN_bytes (b : Bool) : Bytes [okN b] := by cases b <;> exact bytes1 (by decide) (by decide)
theorem pay_small (a0 a1 a2 a3 a4 a5 a6 : Int) (a7 : Bool) {l8 : List S76} {l9 : List S92} {l10 : List Int} (hl8 : l8.length ≤ 40) (hl9 : l9.length ≤ 100) (hl10 : l10.length ≤ 100) (w8 : ∀ s ∈ l8, 0 ≤ s.f1 ∧ s.f1 < 18446744073709551616)
    (h : message_Right.f a0 a1 a2 a3 a4 a5 a6 a7 l8 l9 l10 = some 0) : Bytes (payL a0 a1 a2 a3 a4 a5 a6 a7 l8 l9 l10) ∧ (payL a0 a1 a2 a3 a4 a5 a6 a7 l8 l9 l10).length ≤ 8192 := by
  have hk : 1 ≤ a0 ∧ a0 ≤ 10 := by
    by_cases c : 1 ≤ a0 ∧ a0 ≤ 10
    · exact c
    exfalso
    unfold message_Right.f at h
    rw [if_pos ⟨by omega, by omega, by omega⟩, if_neg (by omega), if_neg (by omega), if_neg (by omega), if_neg (by omega), if_neg (by omega), if_neg (by omega), if_neg (by omega), if_neg (by omega), if_neg (by omega), if_neg (by omega)] at h
    exact absurd h (by decide)
  have hsp : ∀ tr, goB tr [] l8 = true → (l8.flatMap spB).length ≤ 107 * l8.length := fun tr hg => flat_len 107 (fun s hs => spB_len (goB_all _ _ _ hg s hs).1)
  unfold payL
  by_cases k3 : a0 = 3
  · subst k3
    obtain ⟨_, _, _, _, _, _, _, _, _, _, hl⟩ := good3 a1 a2 a3 a4 a5 a6 a7 hl8 hl9 hl10 h
    rw [if_pos rfl]
    have := flat_len (l := l9) 17 (fun m _ => Nat.le_of_eq (memL_len m))
    exact ⟨((bytes1 (n := 3) (by decide) (by decide)).append (bytes1 (n := (l9.length : Int)) (by omega) (by omega))).append (bytes_flat (fun m _ => memL_bytes m)), by simp only [List.length_append, List.length_cons, List.length_nil, be8_len]; omega⟩
  rw [if_neg k3]
  have hh : Bytes ([a0] ++ be8 a1) := (bytes1 (by omega) (by omega)).append (be8_bytes _)
  by_cases k12 : a0 = 1 ∨ a0 = 2
  · rw [if_pos k12]
    have hg : goB a1 [] l8 = true ∧ l8.length ≤ 16 := by
      rcases k12 with rfl | rfl
      · exact ⟨(good1 a1 a2 a3 a4 a5 a6 a7 hl8 hl9 hl10 w8 h).2.2.2.2.2.2.2.2.2.1, (good1 a1 a2 a3 a4 a5 a6 a7 hl8 hl9 hl10 w8 h).2.2.2.2.2.2.2.2.2.2⟩
      · exact ⟨(good2 a1 a2 a3 a4 a5 a6 a7 hl8 hl9 hl10 w8 h).2.2.2.2.2.2.2.2.2.1, (good2 a1 a2 a3 a4 a5 a6 a7 hl8 hl9 hl10 w8 h).2.2.2.2.2.2.2.2.2.2⟩
    have := hsp _ hg.1
    exact ⟨hh.append ((bytes1 (n := (l8.length : Int)) (by omega) (by omega)).append (bytes_flat (fun s _ => spB_bytes s))), by simp only [List.length_append, List.length_cons, List.length_nil, be8_len]; omega⟩
  rw [if_neg k12]
  by_cases k4 : a0 = 4
  · rw [if_pos k4]
    exact ⟨hh.append ((be8_bytes _).append (be8_bytes _)), by simp only [List.length_append, List.length_cons, List.length_nil, be8_len]; omega⟩
  rw [if_neg k4]
  by_cases k5 : a0 = 5
  · rw [if_pos k5]
    subst k5
    obtain ⟨_, _, _, hv⟩ := good5 a1 a2 a3 a4 a5 a6 a7 hl8 hl9 hl10 h
    exact ⟨hh.append ((((((be8_bytes _).append (be8_bytes _)).append (okN_bytes _)).append (be8_bytes _)).append (be8_bytes _)).append (bytes1 (by omega) (by omega))), by simp only [List.length_append, List.length_cons, List.length_nil, be8_len]; omega⟩
  rw [if_neg k5]
  by_cases k6 : a0 = 6
  · rw [if_pos k6]
    subst k6
    obtain ⟨_, _, _, _, _, _, hv⟩ := good6 a1 a2 a3 a4 a5 a6 a7 hl8 hl9 hl10 h
    exact ⟨hh.append (((be8_bytes _).append (be8_bytes _)).append (bytes1 (by omega) (by omega))), by simp only [List.length_append, List.length_cons, List.length_nil, be8_len]; omega⟩
  rw [if_neg k6]
  by_cases k7 : a0 = 7
  · rw [if_pos k7]
    exact ⟨hh.append (((((be8_bytes _).append (be8_bytes _)).append (okN_bytes _)).append (be8_bytes _)).append (be8_bytes _)), by simp only [List.length_append, List.length_cons, List.length_nil, be8_len]; omega⟩
  rw [if_neg k7]
  by_cases k8 : a0 = 8
  · rw [if_pos k8]
    subst k8
    obtain ⟨_, _, _, _, _, _, _, _, hv⟩ := good8 a1 a2 a3 a4 a5 a6 a7 hl8 hl9 hl10 h
    exact ⟨hh.append (bytes1 (by omega) (by omega)), by simp only [List.length_append, List.length_cons, List.length_nil, be8_len]; omega⟩
  rw [if_neg k8]
  by_cases k9 : a0 = 9
  · rw [if_pos k9]
    subst k9
    obtain ⟨_, _, _, _, _, _, hg, hl⟩ := good9 a1 a2 a3 a4 a5 a6 a7 hl8 hl9 hl10 w8 h
    have := hsp _ hg
    exact ⟨hh.append ((((be8_bytes _).append (be8_bytes _)).append (bytes1 (n := (l8.length : Int)) (by omega) (by omega))).append (bytes_flat (fun s _ => spB_bytes s))), by simp only [List.length_append, List.length_cons, List.length_nil, be8_len]; omega⟩
  rw [if_neg k9]
  obtain rfl : a0 = 10 := by omega
  obtain ⟨_, _, _, _, _, _, _, _, hl⟩ := good10 a1 a2 a3 a4 a5 a6 a7 hl8 hl9 hl10 h
  have := flat_len (l := l10) (f := be8) 8 (fun n _ => Nat.le_of_eq (be8_len n))
  exact ⟨hh.append ((bytes1 (n := (l10.length : Int)) (by omega) (by omega)).append (bytes_flat (fun n _ => be8_bytes n))), by simp only [List.length_append, List.length_cons, List.length_nil, be8_len]; omega⟩
theorem right_val (a0 a1 a2 a3 a4 a5 a6 : Int) (a7 : Bool) {l8 : List S76} {l9 : List S92} {l10 : List Int} (hl8 : l8.length ≤ 40) (hl9 : l9.length ≤ 100) (hl10 : l10.length ≤ 100) (w8 : ∀ s ∈ l8, 0 ≤ s.f1 ∧ s.f1 < 18446744073709551616) :
    ∃ v, message_Right.f a0 a1 a2 a3 a4 a5 a6 a7 l8 l9 l10 = some v ∧ (v = 0 ∨ v = 6) := by
  have q : ∀ b : Bool, ∃ v, some (if b = true then (0 : Int) else 6) = some v ∧ (v = 0 ∨ v = 6) := fun b => by
    cases b
    · exact ⟨6, rfl, .inr rfl⟩
    · exact ⟨0, rfl, .inl rfl⟩
  by_cases k1 : a0 = 1
  · subst k1; rw [rv1 a1 a2 a3 a4 a5 a6 a7 hl8 hl9 hl10 w8]; exact q _
  by_cases k2 : a0 = 2
  · subst k2; rw [rv2 a1 a2 a3 a4 a5 a6 a7 hl8 hl9 hl10 w8]; exact q _
  by_cases k3 : a0 = 3
  · subst k3; rw [rv3 a1 a2 a3 a4 a5 a6 a7 hl8 hl9 hl10]; exact q _
  by_cases k4 : a0 = 4
  · subst k4; rw [rv4 a1 a2 a3 a4 a5 a6 a7 hl8 hl9 hl10]; exact q _
  by_cases k5 : a0 = 5
  · subst k5; rw [rv5 a1 a2 a3 a4 a5 a6 a7 hl8 hl9 hl10]; exact q _
  by_cases k6 : a0 = 6
  · subst k6; rw [rv6 a1 a2 a3 a4 a5 a6 a7 hl8 hl9 hl10]; exact q _
  by_cases k7 : a0 = 7
  · subst k7; rw [rv7 a1 a2 a3 a4 a5 a6 a7 hl8 hl9 hl10]; exact q _
  by_cases k8 : a0 = 8
  · subst k8; rw [rv8 a1 a2 a3 a4 a5 a6 a7 hl8 hl9 hl10]; exact q _
  by_cases k9 : a0 = 9
  · subst k9; rw [rv9 a1 a2 a3 a4 a5 a6 a7 hl8 hl9 hl10 w8]; exact q _
  by_cases k10 : a0 = 10
  · subst k10; rw [rv10 a1 a2 a3 a4 a5 a6 a7 hl8 hl9 hl10]; exact q _
  unfold message_Right.f
  rw [if_pos ⟨by omega, by omega, by omega⟩, if_neg k1, if_neg k2, if_neg k3, if_neg k4, if_neg k5, if_neg k6, if_neg k7, if_neg k8, if_neg k9, if_neg k10]
  exact ⟨6, rfl, .inr rfl⟩
theorem enc_ok (a0 a1 a2 a3 a4 a5 a6 : Int) (a7 : Bool) {l8 : List S76} {l9 : List S92} {l10 : List Int} (hl8 : l8.length ≤ 40) (hl9 : l9.length ≤ 100) (hl10 : l10.length ≤ 100) (w8 : ∀ s ∈ l8, 0 ≤ s.f1 ∧ s.f1 < 18446744073709551616)
    (h : message_Right.f a0 a1 a2 a3 a4 a5 a6 a7 l8 l9 l10 = some 0) : message_Encode.f a0 a1 a2 a3 a4 a5 a6 a7 l8 l9 l10 = some (frameL (payL a0 a1 a2 a3 a4 a5 a6 a7 l8 l9 l10), 0) := by
  obtain ⟨hB, hL⟩ := pay_small a0 a1 a2 a3 a4 a5 a6 a7 hl8 hl9 hl10 w8 h
  unfold message_Encode.f
  rw [if_pos ⟨by omega, by omega, by omega⟩, h]
  simp only [Option.bind_some, if_true]
  rw [pay_eq a0 a1 a2 a3 a4 a5 a6 a7 hl8 hl9 hl10 w8 h]
  simp only [Option.bind_some]
  rw [put_eq hB hL (by simp) (by omega), List.nil_append]
theorem enc_bad (a0 a1 a2 a3 a4 a5 a6 : Int) (a7 : Bool) {l8 : List S76} {l9 : List S92} {l10 : List Int} (hl8 : l8.length ≤ 40) (hl9 : l9.length ≤ 100) (hl10 : l10.length ≤ 100)
    (h : message_Right.f a0 a1 a2 a3 a4 a5 a6 a7 l8 l9 l10 = some 6) : message_Encode.f a0 a1 a2 a3 a4 a5 a6 a7 l8 l9 l10 = some ([], 6) := by
  unfold message_Encode.f
  rw [if_pos ⟨by omega, by omega, by omega⟩, h]
  simp only [Option.bind_some]
  rw [if_neg (by decide)]
end Go.Proofs.Ytlpnpnjjmpkapaa.PAll
