/-
  What is right of a span, by both texts.
  Conditions: numbers are not below zero.
-/
import Derived.Test.YtlpnpnjjmpkapaaNamePure
import Derived.KernelRfl
import Derived.Test.YtlpnpnjjmpkapaaArrOf
import Derived.Test.YtlpnpnjjmpkapaaPAllx13
import Derived.Test.YtlpnpnjjmpkapaaPAllx4
import Derived.Test.YtlpnpnjjmpkapaaPAllx5
namespace Go.Proofs.Ytlpnpnjjmpkapaa.PAll
open Go.RowKit Go.Lib Go.Proofs.YtlpnpnjjmpkapaaW.PrintWords Go.Proofs.YtlpnpnjjmpkapaaW.PrintLast Go.Proofs.YtlpnpnjjmpkapaaW.PrintMore
set_option linter.unusedVariables false
set_option linter.unusedSimpArgs false

theorem name_l (s : ByteArray) : ∀ b pos, span_Name.l s b pos = 0 ∨ span_Name.l s b pos = 5
  | 0, _ => .inl rfl
  | b + 1, pos => by
    unfold span_Name.l
    split
    · split
      · exact .inr rfl
      · exact name_l s b _
    · exact .inl rfl
theorem name_val (s : ByteArray) : ∃ v, span_Name.f s = some v ∧ (v = 0 ∨ v = 5) := by
  unfold span_Name.f
  split
  · exact ⟨5, rfl, .inr rfl⟩
  · exact ⟨_, rfl, name_l s _ _⟩
theorem or_eq {x y : Int} {k : Nat} (hk : 3 ≤ k) : api_Kind.f k [x, y] = some (if x = 0 then y else x) := by
  obtain ⟨k, rfl⟩ : ∃ j, k = j + 1 + 1 + 1 := ⟨k - 3, by omega⟩
  have w0 : wrap64 (0 + 1) = 1 := by unfold wrap64; omega
  have w1 : wrap64 (1 + 1) = 2 := by unfold wrap64; omega
  unfold api_Kind.f
  rw [api_Kind.l0, if_pos (by simp), if_pos (by omega), if_pos (by simp), w0]
  have r0 : rd [x, y] 0 = x := rfl
  have r1 : rd [x, y] 1 = y := rfl
  rw [r0]
  by_cases h : x = 0
  · rw [if_pos h, if_pos h, api_Kind.l0, if_pos (by simp), if_pos (by omega), if_pos (by simp), w1, r1]
    by_cases h1 : y = 0
    · rw [if_pos h1, api_Kind.l0, if_neg (by simp), h1]
    · rw [if_neg h1]
  · rw [if_neg h, if_neg h]
/-- What stands against a span. -/
def rightN (t i s l : Int) (sv nm : ByteArray) : Option Int :=
  if t = 0 ∨ i = 0 ∨ s > 1099511627776 ∨ l > 1099511627776 then some 1 else (span_Name.f sv).bind fun x => (span_Name.f nm).bind fun y => some (if x = 0 then y else x)
theorem right_eq (a0 a1 a2 a3 a4 : Int) (a5 a6 : ByteArray) (a7 : Bool) {k : Nat} (hk : 4 ≤ k) : span_Right.f k a0 a1 a2 a3 a4 a5 a6 a7 = rightN a0 a1 a3 a4 a5 a6 := by
  obtain ⟨k, rfl⟩ : ∃ j, k = j + 1 := ⟨k - 1, by omega⟩
  have h1 : span_Right.j0 (k + 1) true a0 a1 a2 a3 a4 a5 a6 a7 = some 1 := by rw [span_Right.j0, if_pos rfl]
  unfold span_Right.f rightN
  by_cases c0 : a0 = 0
  · rw [if_pos c0, if_pos (.inl c0), h1]
  rw [if_neg c0]
  by_cases c1 : a1 = 0
  · rw [if_pos c1, if_pos (.inr (.inl c1)), h1]
  rw [if_neg c1]
  by_cases c2 : a3 > 1099511627776 ∨ a4 > 1099511627776
  · rw [decide_eq_true (by unfold mx; split <;> omega), h1, if_pos (.inr (.inr c2))]
  · rw [decide_eq_false (by unfold mx; split <;> omega), if_neg (fun h => by rcases h with h | h | h; exact c0 h; exact c1 h; exact c2 h), span_Right.j0, if_neg (by decide)]
    obtain ⟨x, hx, _⟩ := name_val a5
    obtain ⟨y, hy, _⟩ := name_val a6
    rw [hx, hy]
    simp only [Option.bind_some]
    rw [or_eq (by omega)]
    rfl
theorem rright_eq (a0 a1 a2 a3 a4 : Int) (a5 a6 : ByteArray) (a7 : Bool) {k : Nat} (hk : 102 ≤ k) : winnowref03_Right.f k a0 a1 a2 a3 a4 a5 a6 a7 = rightN a0 a1 a3 a4 a5 a6 := by
  obtain ⟨k, rfl⟩ : ∃ j, k = j + 1 := ⟨k - 1, by omega⟩
  have h1 : winnowref03_Right.j0 (k + 1) true a0 a1 a2 a3 a4 a5 a6 a7 = some 1 := by rw [winnowref03_Right.j0, if_pos rfl]
  unfold winnowref03_Right.f rightN
  by_cases c0 : a0 = 0
  · rw [if_pos c0, if_pos (.inl c0), h1]
  rw [if_neg c0]
  by_cases c1 : a1 = 0
  · rw [if_pos c1, if_pos (.inr (.inl c1)), h1]
  rw [if_neg c1]
  by_cases c2 : a3 > 1099511627776
  · rw [if_pos c2, if_pos (.inr (.inr (.inl c2))), h1]
  rw [if_neg c2]
  by_cases c3 : a4 > 1099511627776
  · rw [decide_eq_true c3, if_pos (.inr (.inr (.inr c3))), h1]
  rw [decide_eq_false c3, if_neg (fun h => by rcases h with h | h | h | h; exact c0 h; exact c1 h; exact c2 h; exact c3 h), winnowref03_Right.j0, if_neg (by decide), name_eq _ (by omega), name_eq _ (by omega)]
  obtain ⟨x, hx, vx⟩ := name_val a5
  obtain ⟨y, hy, vy⟩ := name_val a6
  rw [hx, hy]
  simp only [Option.bind_some]
  rcases vx with rfl | rfl
  · rw [if_pos rfl, if_pos rfl]
    rcases vy with rfl | rfl
    · rw [if_pos rfl]
    · rw [if_neg (by decide)]
  · rw [if_neg (by decide), if_neg (by decide)]
theorem rightN_some (t i s l : Int) (sv nm : ByteArray) : ∃ v, rightN t i s l sv nm = some v := by
  obtain ⟨x, hx, _⟩ := name_val sv
  obtain ⟨y, hy, _⟩ := name_val nm
  unfold rightN
  split
  · exact ⟨_, rfl⟩
  · rw [hx, hy]; exact ⟨_, rfl⟩
end Go.Proofs.Ytlpnpnjjmpkapaa.PAll
