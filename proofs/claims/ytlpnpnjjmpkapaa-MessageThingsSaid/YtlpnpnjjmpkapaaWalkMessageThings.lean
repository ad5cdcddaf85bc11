/-
  The law MessageThings, called with anything that its parameter's kind holds, returns true and writes nothing that was there.
  Conditions: none.
-/
import Derived.Test.YtlpnpnjjmpkapaaMsgJoin
import Derived.Test.YtlpnpnjjmpkapaaMsgRightLaw
import Derived.Test.YtlpnpnjjmpkapaaWalkMessageRight
namespace Go.Proofs.Ytlpnpnjjmpkapaa.PAll
open Go.RowKit Go.Proofs.YtlpnpnjjmpkapaaW.PrintWords Go.Proofs.YtlpnpnjjmpkapaaW.PrintLast Go.Proofs.YtlpnpnjjmpkapaaW.PrintMore
theorem some_if {x : Bool} (h : some (if x = true then (0 : Int) else 6) = some 0) : x = true := by
 cases x
 ·exact absurd h (by decide)
 ·rfl
theorem zero1 (a1 a2 a3 a4 a5 a6 : Int) (a7 : Bool) {l8 : List S76} {l9 : List S92} {l10 : List Int} (hl8 : l8.length ≤ 40) (hl9 : l9.length ≤ 100) (hl10 : l10.length ≤ 100) (w8 : ∀ s ∈ l8, 0 ≤ s.f1 ∧ s.f1 < 18446744073709551616) (w9 : ∀ s ∈ l9, 0 ≤ s.f0) (w10 : ∀ s ∈ l10, 0 ≤ s) (p1 : 0 ≤ a1) (p2 : 0 ≤ a2)
  (h : message_Right.f 1 a1 a2 a3 a4 a5 a6 a7 l8 l9 l10 = some 0) : a2 = 0 ∧ a3 = 0 ∧ a4 = 0 ∧ a5 = 0 ∧ a6 = 0 ∧ a7 = false ∧ l9 = [] ∧ l10 = [] := by
 obtain ⟨v, e1, e2⟩ := both1 a1 a2 a3 a4 a5 a6 a7 hl8 hl9 hl10 w8 w9 w10 p1 p2 (k := 4000) (by omega)
 rw [h] at e1
 obtain rfl : (0 : Int) = v := Option.some.inj e1
 rw [ref1 a1 a2 a3 a4 a5 a6 a7 hl8 hl9 hl10 w8 w9 w10 p1 p2 (by omega)] at e2
 have e3 := some_if e2
 rw [Bool.and_eq_true, Bool.and_eq_true] at e3
 obtain ⟨⟨r1, r2⟩, _⟩ := e3
 unfold rwB at r1
 unfold scB at r2
 simp only [Bool.and_eq_true, beq_iff_eq, decide_eq_true_eq, List.length_nil, List.length_eq_zero_iff] at r1 r2
 simp_all
theorem zero2 (a1 a2 a3 a4 a5 a6 : Int) (a7 : Bool) {l8 : List S76} {l9 : List S92} {l10 : List Int} (hl8 : l8.length ≤ 40) (hl9 : l9.length ≤ 100) (hl10 : l10.length ≤ 100) (w8 : ∀ s ∈ l8, 0 ≤ s.f1 ∧ s.f1 < 18446744073709551616) (w9 : ∀ s ∈ l9, 0 ≤ s.f0) (w10 : ∀ s ∈ l10, 0 ≤ s) (p1 : 0 ≤ a1) (p2 : 0 ≤ a2)
  (h : message_Right.f 2 a1 a2 a3 a4 a5 a6 a7 l8 l9 l10 = some 0) : a2 = 0 ∧ a3 = 0 ∧ a4 = 0 ∧ a5 = 0 ∧ a6 = 0 ∧ a7 = false ∧ l9 = [] ∧ l10 = [] := by
 obtain ⟨v, e1, e2⟩ := both2 a1 a2 a3 a4 a5 a6 a7 hl8 hl9 hl10 w8 w9 w10 p1 p2 (k := 4000) (by omega)
 rw [h] at e1
 obtain rfl : (0 : Int) = v := Option.some.inj e1
 rw [ref2 a1 a2 a3 a4 a5 a6 a7 hl8 hl9 hl10 w8 w9 w10 p1 p2 (by omega)] at e2
 have e3 := some_if e2
 rw [Bool.and_eq_true, Bool.and_eq_true] at e3
 obtain ⟨⟨r1, r2⟩, _⟩ := e3
 unfold rwB at r1
 unfold scB at r2
 simp only [Bool.and_eq_true, beq_iff_eq, decide_eq_true_eq, List.length_nil, List.length_eq_zero_iff] at r1 r2
 simp_all
theorem zero3 (a1 a2 a3 a4 a5 a6 : Int) (a7 : Bool) {l8 : List S76} {l9 : List S92} {l10 : List Int} (hl8 : l8.length ≤ 40) (hl9 : l9.length ≤ 100) (hl10 : l10.length ≤ 100) (w8 : ∀ s ∈ l8, 0 ≤ s.f1 ∧ s.f1 < 18446744073709551616) (w9 : ∀ s ∈ l9, 0 ≤ s.f0) (w10 : ∀ s ∈ l10, 0 ≤ s) (p1 : 0 ≤ a1) (p2 : 0 ≤ a2)
  (h : message_Right.f 3 a1 a2 a3 a4 a5 a6 a7 l8 l9 l10 = some 0) : a1 = 0 ∧ a2 = 0 ∧ a3 = 0 ∧ a4 = 0 ∧ a5 = 0 ∧ a6 = 0 ∧ a7 = false ∧ l8 = [] ∧ l10 = [] := by
 obtain ⟨v, e1, e2⟩ := both3 a1 a2 a3 a4 a5 a6 a7 hl8 hl9 hl10 w8 w9 w10 p1 p2 (k := 4000) (by omega)
 rw [h] at e1
 obtain rfl : (0 : Int) = v := Option.some.inj e1
 rw [ref3 a1 a2 a3 a4 a5 a6 a7 hl8 hl9 hl10 w8 w9 w10 p1 p2 (by omega)] at e2
 have e3 := some_if e2
 rw [Bool.and_eq_true, Bool.and_eq_true] at e3
 obtain ⟨⟨r1, r2⟩, _⟩ := e3
 unfold rwB at r1
 unfold scB at r2
 simp only [Bool.and_eq_true, beq_iff_eq, decide_eq_true_eq, List.length_nil, List.length_eq_zero_iff] at r1 r2
 simp_all
theorem zero4 (a1 a2 a3 a4 a5 a6 : Int) (a7 : Bool) {l8 : List S76} {l9 : List S92} {l10 : List Int} (hl8 : l8.length ≤ 40) (hl9 : l9.length ≤ 100) (hl10 : l10.length ≤ 100) (w8 : ∀ s ∈ l8, 0 ≤ s.f1 ∧ s.f1 < 18446744073709551616) (w9 : ∀ s ∈ l9, 0 ≤ s.f0) (w10 : ∀ s ∈ l10, 0 ≤ s) (p1 : 0 ≤ a1) (p2 : 0 ≤ a2)
  (h : message_Right.f 4 a1 a2 a3 a4 a5 a6 a7 l8 l9 l10 = some 0) : a4 = 0 ∧ a5 = 0 ∧ a6 = 0 ∧ a7 = false ∧ l8 = [] ∧ l9 = [] ∧ l10 = [] := by
 obtain ⟨v, e1, e2⟩ := both4 a1 a2 a3 a4 a5 a6 a7 hl8 hl9 hl10 w8 w9 w10 p1 p2 (k := 4000) (by omega)
 rw [h] at e1
 obtain rfl : (0 : Int) = v := Option.some.inj e1
 rw [ref4 a1 a2 a3 a4 a5 a6 a7 hl8 hl9 hl10 w8 w9 w10 p1 p2 (by omega)] at e2
 have e3 := some_if e2
 rw [Bool.and_eq_true, Bool.and_eq_true] at e3
 obtain ⟨⟨r1, r2⟩, _⟩ := e3
 unfold rwB at r1
 unfold scB at r2
 simp only [Bool.and_eq_true, beq_iff_eq, decide_eq_true_eq, List.length_nil, List.length_eq_zero_iff] at r1 r2
 simp_all
theorem zero5 (a1 a2 a3 a4 a5 a6 : Int) (a7 : Bool) {l8 : List S76} {l9 : List S92} {l10 : List Int} (hl8 : l8.length ≤ 40) (hl9 : l9.length ≤ 100) (hl10 : l10.length ≤ 100) (w8 : ∀ s ∈ l8, 0 ≤ s.f1 ∧ s.f1 < 18446744073709551616) (w9 : ∀ s ∈ l9, 0 ≤ s.f0) (w10 : ∀ s ∈ l10, 0 ≤ s) (p1 : 0 ≤ a1) (p2 : 0 ≤ a2)
  (h : message_Right.f 5 a1 a2 a3 a4 a5 a6 a7 l8 l9 l10 = some 0) : l8 = [] ∧ l9 = [] ∧ l10 = [] := by
 obtain ⟨v, e1, e2⟩ := both5 a1 a2 a3 a4 a5 a6 a7 hl8 hl9 hl10 w8 w9 w10 p1 p2 (k := 4000) (by omega)
 rw [h] at e1
 obtain rfl : (0 : Int) = v := Option.some.inj e1
 rw [ref5 a1 a2 a3 a4 a5 a6 a7 hl8 hl9 hl10 w8 w9 w10 p1 p2 (by omega)] at e2
 have e3 := some_if e2
 rw [Bool.and_eq_true, Bool.and_eq_true] at e3
 obtain ⟨⟨r1, r2⟩, _⟩ := e3
 unfold rwB at r1
 unfold scB at r2
 simp only [Bool.and_eq_true, beq_iff_eq, decide_eq_true_eq, List.length_nil, List.length_eq_zero_iff] at r1 r2
 simp_all
theorem zero6 (a1 a2 a3 a4 a5 a6 : Int) (a7 : Bool) {l8 : List S76} {l9 : List S92} {l10 : List Int} (hl8 : l8.length ≤ 40) (hl9 : l9.length ≤ 100) (hl10 : l10.length ≤ 100) (w8 : ∀ s ∈ l8, 0 ≤ s.f1 ∧ s.f1 < 18446744073709551616) (w9 : ∀ s ∈ l9, 0 ≤ s.f0) (w10 : ∀ s ∈ l10, 0 ≤ s) (p1 : 0 ≤ a1) (p2 : 0 ≤ a2)
  (h : message_Right.f 6 a1 a2 a3 a4 a5 a6 a7 l8 l9 l10 = some 0) : a4 = 0 ∧ a5 = 0 ∧ a7 = false ∧ l8 = [] ∧ l9 = [] ∧ l10 = [] ∧ a6 ≠ 0 := by
 obtain ⟨v, e1, e2⟩ := both6 a1 a2 a3 a4 a5 a6 a7 hl8 hl9 hl10 w8 w9 w10 p1 p2 (k := 4000) (by omega)
 rw [h] at e1
 obtain rfl : (0 : Int) = v := Option.some.inj e1
 rw [ref6 a1 a2 a3 a4 a5 a6 a7 hl8 hl9 hl10 w8 w9 w10 p1 p2 (by omega)] at e2
 have e3 := some_if e2
 rw [Bool.and_eq_true, Bool.and_eq_true] at e3
 have e4 : a6 ≠ 0 := by
  have := e3.2
  simp only [Bool.and_eq_true] at this
  exact beq_eq_false_iff_ne.1 (tB_zero this.2.2)
 obtain ⟨⟨r1, r2⟩, _⟩ := e3
 unfold rwB at r1
 unfold scB at r2
 simp only [Bool.and_eq_true, beq_iff_eq, decide_eq_true_eq, List.length_nil, List.length_eq_zero_iff] at r1 r2
 simp_all
theorem zero7 (a1 a2 a3 a4 a5 a6 : Int) (a7 : Bool) {l8 : List S76} {l9 : List S92} {l10 : List Int} (hl8 : l8.length ≤ 40) (hl9 : l9.length ≤ 100) (hl10 : l10.length ≤ 100) (w8 : ∀ s ∈ l8, 0 ≤ s.f1 ∧ s.f1 < 18446744073709551616) (w9 : ∀ s ∈ l9, 0 ≤ s.f0) (w10 : ∀ s ∈ l10, 0 ≤ s) (p1 : 0 ≤ a1) (p2 : 0 ≤ a2)
  (h : message_Right.f 7 a1 a2 a3 a4 a5 a6 a7 l8 l9 l10 = some 0) : a6 = 0 ∧ l8 = [] ∧ l9 = [] ∧ l10 = [] := by
 obtain ⟨v, e1, e2⟩ := both7 a1 a2 a3 a4 a5 a6 a7 hl8 hl9 hl10 w8 w9 w10 p1 p2 (k := 4000) (by omega)
 rw [h] at e1
 obtain rfl : (0 : Int) = v := Option.some.inj e1
 rw [ref7 a1 a2 a3 a4 a5 a6 a7 hl8 hl9 hl10 w8 w9 w10 p1 p2 (by omega)] at e2
 have e3 := some_if e2
 rw [Bool.and_eq_true, Bool.and_eq_true] at e3
 obtain ⟨⟨r1, r2⟩, _⟩ := e3
 unfold rwB at r1
 unfold scB at r2
 simp only [Bool.and_eq_true, beq_iff_eq, decide_eq_true_eq, List.length_nil, List.length_eq_zero_iff] at r1 r2
 simp_all
theorem zero8 (a1 a2 a3 a4 a5 a6 : Int) (a7 : Bool) {l8 : List S76} {l9 : List S92} {l10 : List Int} (hl8 : l8.length ≤ 40) (hl9 : l9.length ≤ 100) (hl10 : l10.length ≤ 100) (w8 : ∀ s ∈ l8, 0 ≤ s.f1 ∧ s.f1 < 18446744073709551616) (w9 : ∀ s ∈ l9, 0 ≤ s.f0) (w10 : ∀ s ∈ l10, 0 ≤ s) (p1 : 0 ≤ a1) (p2 : 0 ≤ a2)
  (h : message_Right.f 8 a1 a2 a3 a4 a5 a6 a7 l8 l9 l10 = some 0) : a2 = 0 ∧ a3 = 0 ∧ a4 = 0 ∧ a5 = 0 ∧ a7 = false ∧ l8 = [] ∧ l9 = [] ∧ l10 = [] := by
 obtain ⟨v, e1, e2⟩ := both8 a1 a2 a3 a4 a5 a6 a7 hl8 hl9 hl10 w8 w9 w10 p1 p2 (k := 4000) (by omega)
 rw [h] at e1
 obtain rfl : (0 : Int) = v := Option.some.inj e1
 rw [ref8 a1 a2 a3 a4 a5 a6 a7 hl8 hl9 hl10 w8 w9 w10 p1 p2 (by omega)] at e2
 have e3 := some_if e2
 rw [Bool.and_eq_true, Bool.and_eq_true] at e3
 obtain ⟨⟨r1, r2⟩, _⟩ := e3
 unfold rwB at r1
 unfold scB at r2
 simp only [Bool.and_eq_true, beq_iff_eq, decide_eq_true_eq, List.length_nil, List.length_eq_zero_iff] at r1 r2
 simp_all
theorem zero9 (a1 a2 a3 a4 a5 a6 : Int) (a7 : Bool) {l8 : List S76} {l9 : List S92} {l10 : List Int} (hl8 : l8.length ≤ 40) (hl9 : l9.length ≤ 100) (hl10 : l10.length ≤ 100) (w8 : ∀ s ∈ l8, 0 ≤ s.f1 ∧ s.f1 < 18446744073709551616) (w9 : ∀ s ∈ l9, 0 ≤ s.f0) (w10 : ∀ s ∈ l10, 0 ≤ s) (p1 : 0 ≤ a1) (p2 : 0 ≤ a2)
  (h : message_Right.f 9 a1 a2 a3 a4 a5 a6 a7 l8 l9 l10 = some 0) : a4 = 0 ∧ a5 = 0 ∧ a6 = 0 ∧ a7 = false ∧ l9 = [] ∧ l10 = [] := by
 obtain ⟨v, e1, e2⟩ := both9 a1 a2 a3 a4 a5 a6 a7 hl8 hl9 hl10 w8 w9 w10 p1 p2 (k := 4000) (by omega)
 rw [h] at e1
 obtain rfl : (0 : Int) = v := Option.some.inj e1
 rw [ref9 a1 a2 a3 a4 a5 a6 a7 hl8 hl9 hl10 w8 w9 w10 p1 p2 (by omega)] at e2
 have e3 := some_if e2
 rw [Bool.and_eq_true, Bool.and_eq_true] at e3
 obtain ⟨⟨r1, r2⟩, _⟩ := e3
 unfold rwB at r1
 unfold scB at r2
 simp only [Bool.and_eq_true, beq_iff_eq, decide_eq_true_eq, List.length_nil, List.length_eq_zero_iff] at r1 r2
 simp_all
theorem zero10 (a1 a2 a3 a4 a5 a6 : Int) (a7 : Bool) {l8 : List S76} {l9 : List S92} {l10 : List Int} (hl8 : l8.length ≤ 40) (hl9 : l9.length ≤ 100) (hl10 : l10.length ≤ 100) (w8 : ∀ s ∈ l8, 0 ≤ s.f1 ∧ s.f1 < 18446744073709551616) (w9 : ∀ s ∈ l9, 0 ≤ s.f0) (w10 : ∀ s ∈ l10, 0 ≤ s) (p1 : 0 ≤ a1) (p2 : 0 ≤ a2)
  (h : message_Right.f 10 a1 a2 a3 a4 a5 a6 a7 l8 l9 l10 = some 0) : a2 = 0 ∧ a3 = 0 ∧ a4 = 0 ∧ a5 = 0 ∧ a6 = 0 ∧ a7 = false ∧ l8 = [] ∧ l9 = [] := by
 obtain ⟨v, e1, e2⟩ := both10 a1 a2 a3 a4 a5 a6 a7 hl8 hl9 hl10 w8 w9 w10 p1 p2 (k := 4000) (by omega)
 rw [h] at e1
 obtain rfl : (0 : Int) = v := Option.some.inj e1
 rw [ref10 a1 a2 a3 a4 a5 a6 a7 hl8 hl9 hl10 w8 w9 w10 p1 p2 (by omega)] at e2
 have e3 := some_if e2
 rw [Bool.and_eq_true, Bool.and_eq_true] at e3
 obtain ⟨⟨r1, r2⟩, _⟩ := e3
 unfold rwB at r1
 unfold scB at r2
 simp only [Bool.and_eq_true, beq_iff_eq, decide_eq_true_eq, List.length_nil, List.length_eq_zero_iff] at r1 r2
 simp_all
end Go.Proofs.Ytlpnpnjjmpkapaa.PAll
namespace Go.Proofs.Ytlpnpnjjmpkapaa.PAll
open Go.RowKit Go.Proofs.YtlpnpnjjmpkapaaW.PrintWords Go.Proofs.YtlpnpnjjmpkapaaW.PrintLast Go.Proofs.YtlpnpnjjmpkapaaW.PrintMore
set_option linter.unusedVariables false
theorem if_06 {x : Bool} {v : Int} (h : some (if x = true then (0 : Int) else 6) = some v) : v = 0 ∨ v = 6 := by
 cases x
 ·exact .inr (Option.some.inj h).symm
 ·exact .inl (Option.some.inj h).symm
theorem things_all (a0 a1 a2 a3 a4 a5 a6 : Int) (a7 : Bool) (A8 : Option Addr) (c8 : Nat) (l8 : List S76) (A9 : Option Addr) (c9 : Nat) (l9 : List S92) (A10 : Option Addr) (c10 : Nat) (l10 : List Int) (w : World)
  (h8 : Kd.C k76 w A8 l8.length l8) (e8 : l8.length ≤ c8) (h9 : Kd.C k92 w A9 l9.length l9) (e9 : l9.length ≤ c9) (h10 : Kd.C (Kd.int .u64) w A10 l10.length l10) (e10 : l10.length ≤ c10)
  (w8 : ∀ s ∈ l8, 0 ≤ s.f1 ∧ s.f1 < 18446744073709551616) (w9 : ∀ s ∈ l9, 0 ≤ s.f0) (w10 : ∀ s ∈ l10, 0 ≤ s) (p1 : 0 ≤ a1) (p2 : 0 ≤ a2) :
  Calls Try.prog 10 #[.agg #[.int .i64 a0, .int .u64 a1, .int .u64 a2, .int .u64 a3, .int .u64 a4, .int .u64 a5, .int .i64 a6, .bool a7, .slice A8 l8.length c8, .slice A9 l9.length c9, .slice A10 l10.length c10]] w fun e w' => e = .returned (.bool true) ∧ Below w.heap.size w w' := by
 obtain ⟨b, hb, hl⟩ := light_eq a0 a1 a2 a3 a4 a5 a6 a7 l8 l9 l10 (k := 4000) (by omega)
 cases b
 ·exact join_dark a0 a1 a2 a3 a4 a5 a6 a7 A8 c8 l8 A9 c9 l9 A10 c10 l10 w h8 e8 h9 e9 h10 e10 hb
 obtain ⟨n8, n9, n10⟩ := hl rfl
 by_cases k1 : a0 = 1
 ·subst k1
  obtain ⟨v, e1, e2⟩ := both1 a1 a2 a3 a4 a5 a6 a7 n8 n9 n10 w8 w9 w10 p1 p2 (k := 4000) (by omega)
  have e3 := e2
  rw [ref1 a1 a2 a3 a4 a5 a6 a7 n8 n9 n10 w8 w9 w10 p1 p2 (by omega)] at e3
  rcases if_06 e3 with rfl | rfl
  ·clear e3
   obtain ⟨rfl, rfl, rfl, rfl, rfl, rfl, rfl, rfl⟩ := zero1 a1 a2 a3 a4 a5 a6 a7 n8 n9 n10 w8 w9 w10 p1 p2 e1
   exact join1 a1 0 0 0 0 0 false A8 c8 l8 A9 c9 [] A10 c10 [] w h8 e8 h9 e9 h10 e10 n8 n9 n10 e1 e2 hb
  ·exact join_bad 1 a1 a2 a3 a4 a5 a6 a7 A8 c8 l8 A9 c9 l9 A10 c10 l10 w h8 e8 h9 e9 h10 e10 e1 e2 hb
 by_cases k2 : a0 = 2
 ·subst k2
  obtain ⟨v, e1, e2⟩ := both2 a1 a2 a3 a4 a5 a6 a7 n8 n9 n10 w8 w9 w10 p1 p2 (k := 4000) (by omega)
  have e3 := e2
  rw [ref2 a1 a2 a3 a4 a5 a6 a7 n8 n9 n10 w8 w9 w10 p1 p2 (by omega)] at e3
  rcases if_06 e3 with rfl | rfl
  ·clear e3
   obtain ⟨rfl, rfl, rfl, rfl, rfl, rfl, rfl, rfl⟩ := zero2 a1 a2 a3 a4 a5 a6 a7 n8 n9 n10 w8 w9 w10 p1 p2 e1
   exact join2 a1 0 0 0 0 0 false A8 c8 l8 A9 c9 [] A10 c10 [] w h8 e8 h9 e9 h10 e10 n8 n9 n10 e1 e2 hb
  ·exact join_bad 2 a1 a2 a3 a4 a5 a6 a7 A8 c8 l8 A9 c9 l9 A10 c10 l10 w h8 e8 h9 e9 h10 e10 e1 e2 hb
 by_cases k3 : a0 = 3
 ·subst k3
  obtain ⟨v, e1, e2⟩ := both3 a1 a2 a3 a4 a5 a6 a7 n8 n9 n10 w8 w9 w10 p1 p2 (k := 4000) (by omega)
  have e3 := e2
  rw [ref3 a1 a2 a3 a4 a5 a6 a7 n8 n9 n10 w8 w9 w10 p1 p2 (by omega)] at e3
  rcases if_06 e3 with rfl | rfl
  ·clear e3
   obtain ⟨rfl, rfl, rfl, rfl, rfl, rfl, rfl, rfl, rfl⟩ := zero3 a1 a2 a3 a4 a5 a6 a7 n8 n9 n10 w8 w9 w10 p1 p2 e1
   exact join3 0 0 0 0 0 0 false A8 c8 [] A9 c9 l9 A10 c10 [] w h8 e8 h9 e9 h10 e10 n8 n9 n10 e1 e2 hb
  ·exact join_bad 3 a1 a2 a3 a4 a5 a6 a7 A8 c8 l8 A9 c9 l9 A10 c10 l10 w h8 e8 h9 e9 h10 e10 e1 e2 hb
 by_cases k4 : a0 = 4
 ·subst k4
  obtain ⟨v, e1, e2⟩ := both4 a1 a2 a3 a4 a5 a6 a7 n8 n9 n10 w8 w9 w10 p1 p2 (k := 4000) (by omega)
  have e3 := e2
  rw [ref4 a1 a2 a3 a4 a5 a6 a7 n8 n9 n10 w8 w9 w10 p1 p2 (by omega)] at e3
  rcases if_06 e3 with rfl | rfl
  ·clear e3
   obtain ⟨rfl, rfl, rfl, rfl, rfl, rfl, rfl⟩ := zero4 a1 a2 a3 a4 a5 a6 a7 n8 n9 n10 w8 w9 w10 p1 p2 e1
   exact join4 a1 a2 a3 0 0 0 false A8 c8 [] A9 c9 [] A10 c10 [] w h8 e8 h9 e9 h10 e10 n8 n9 n10 e1 e2 hb
  ·exact join_bad 4 a1 a2 a3 a4 a5 a6 a7 A8 c8 l8 A9 c9 l9 A10 c10 l10 w h8 e8 h9 e9 h10 e10 e1 e2 hb
 by_cases k5 : a0 = 5
 ·subst k5
  obtain ⟨v, e1, e2⟩ := both5 a1 a2 a3 a4 a5 a6 a7 n8 n9 n10 w8 w9 w10 p1 p2 (k := 4000) (by omega)
  have e3 := e2
  rw [ref5 a1 a2 a3 a4 a5 a6 a7 n8 n9 n10 w8 w9 w10 p1 p2 (by omega)] at e3
  rcases if_06 e3 with rfl | rfl
  ·clear e3
   obtain ⟨rfl, rfl, rfl⟩ := zero5 a1 a2 a3 a4 a5 a6 a7 n8 n9 n10 w8 w9 w10 p1 p2 e1
   exact join5 a1 a2 a3 a4 a5 a6 a7 A8 c8 [] A9 c9 [] A10 c10 [] w h8 e8 h9 e9 h10 e10 n8 n9 n10 e1 e2 hb
  ·exact join_bad 5 a1 a2 a3 a4 a5 a6 a7 A8 c8 l8 A9 c9 l9 A10 c10 l10 w h8 e8 h9 e9 h10 e10 e1 e2 hb
 by_cases k6 : a0 = 6
 ·subst k6
  obtain ⟨v, e1, e2⟩ := both6 a1 a2 a3 a4 a5 a6 a7 n8 n9 n10 w8 w9 w10 p1 p2 (k := 4000) (by omega)
  have e3 := e2
  rw [ref6 a1 a2 a3 a4 a5 a6 a7 n8 n9 n10 w8 w9 w10 p1 p2 (by omega)] at e3
  rcases if_06 e3 with rfl | rfl
  ·clear e3
   obtain ⟨rfl, rfl, rfl, rfl, rfl, rfl, hv6⟩ := zero6 a1 a2 a3 a4 a5 a6 a7 n8 n9 n10 w8 w9 w10 p1 p2 e1
   exact join6 a1 a2 a3 0 0 a6 false A8 c8 [] A9 c9 [] A10 c10 [] w h8 e8 h9 e9 h10 e10 n8 n9 n10 hv6 e1 e2 hb
  ·exact join_bad 6 a1 a2 a3 a4 a5 a6 a7 A8 c8 l8 A9 c9 l9 A10 c10 l10 w h8 e8 h9 e9 h10 e10 e1 e2 hb
 by_cases k7 : a0 = 7
 ·subst k7
  obtain ⟨v, e1, e2⟩ := both7 a1 a2 a3 a4 a5 a6 a7 n8 n9 n10 w8 w9 w10 p1 p2 (k := 4000) (by omega)
  have e3 := e2
  rw [ref7 a1 a2 a3 a4 a5 a6 a7 n8 n9 n10 w8 w9 w10 p1 p2 (by omega)] at e3
  rcases if_06 e3 with rfl | rfl
  ·clear e3
   obtain ⟨rfl, rfl, rfl, rfl⟩ := zero7 a1 a2 a3 a4 a5 a6 a7 n8 n9 n10 w8 w9 w10 p1 p2 e1
   exact join7 a1 a2 a3 a4 a5 0 a7 A8 c8 [] A9 c9 [] A10 c10 [] w h8 e8 h9 e9 h10 e10 n8 n9 n10 e1 e2 hb
  ·exact join_bad 7 a1 a2 a3 a4 a5 a6 a7 A8 c8 l8 A9 c9 l9 A10 c10 l10 w h8 e8 h9 e9 h10 e10 e1 e2 hb
 by_cases k8 : a0 = 8
 ·subst k8
  obtain ⟨v, e1, e2⟩ := both8 a1 a2 a3 a4 a5 a6 a7 n8 n9 n10 w8 w9 w10 p1 p2 (k := 4000) (by omega)
  have e3 := e2
  rw [ref8 a1 a2 a3 a4 a5 a6 a7 n8 n9 n10 w8 w9 w10 p1 p2 (by omega)] at e3
  rcases if_06 e3 with rfl | rfl
  ·clear e3
   obtain ⟨rfl, rfl, rfl, rfl, rfl, rfl, rfl, rfl⟩ := zero8 a1 a2 a3 a4 a5 a6 a7 n8 n9 n10 w8 w9 w10 p1 p2 e1
   exact join8 a1 0 0 0 0 a6 false A8 c8 [] A9 c9 [] A10 c10 [] w h8 e8 h9 e9 h10 e10 n8 n9 n10 e1 e2 hb
  ·exact join_bad 8 a1 a2 a3 a4 a5 a6 a7 A8 c8 l8 A9 c9 l9 A10 c10 l10 w h8 e8 h9 e9 h10 e10 e1 e2 hb
 by_cases k9 : a0 = 9
 ·subst k9
  obtain ⟨v, e1, e2⟩ := both9 a1 a2 a3 a4 a5 a6 a7 n8 n9 n10 w8 w9 w10 p1 p2 (k := 4000) (by omega)
  have e3 := e2
  rw [ref9 a1 a2 a3 a4 a5 a6 a7 n8 n9 n10 w8 w9 w10 p1 p2 (by omega)] at e3
  rcases if_06 e3 with rfl | rfl
  ·clear e3
   obtain ⟨rfl, rfl, rfl, rfl, rfl, rfl⟩ := zero9 a1 a2 a3 a4 a5 a6 a7 n8 n9 n10 w8 w9 w10 p1 p2 e1
   exact join9 a1 a2 a3 0 0 0 false A8 c8 l8 A9 c9 [] A10 c10 [] w h8 e8 h9 e9 h10 e10 n8 n9 n10 e1 e2 hb
  ·exact join_bad 9 a1 a2 a3 a4 a5 a6 a7 A8 c8 l8 A9 c9 l9 A10 c10 l10 w h8 e8 h9 e9 h10 e10 e1 e2 hb
 by_cases k10 : a0 = 10
 ·subst k10
  obtain ⟨v, e1, e2⟩ := both10 a1 a2 a3 a4 a5 a6 a7 n8 n9 n10 w8 w9 w10 p1 p2 (k := 4000) (by omega)
  have e3 := e2
  rw [ref10 a1 a2 a3 a4 a5 a6 a7 n8 n9 n10 w8 w9 w10 p1 p2 (by omega)] at e3
  rcases if_06 e3 with rfl | rfl
  ·clear e3
   obtain ⟨rfl, rfl, rfl, rfl, rfl, rfl, rfl, rfl⟩ := zero10 a1 a2 a3 a4 a5 a6 a7 n8 n9 n10 w8 w9 w10 p1 p2 e1
   exact join10 a1 0 0 0 0 0 false A8 c8 [] A9 c9 [] A10 c10 l10 w h8 e8 h9 e9 h10 e10 n8 n9 n10 e1 e2 hb
  ·exact join_bad 10 a1 a2 a3 a4 a5 a6 a7 A8 c8 l8 A9 c9 l9 A10 c10 l10 w h8 e8 h9 e9 h10 e10 e1 e2 hb
 obtain ⟨v, e1, e2⟩ := bothN a0 a1 a2 a3 a4 a5 a6 a7 n8 n9 n10 w8 w9 w10 p1 p2 (k := 4000) (by omega)
 have e4 : message_Right.f a0 a1 a2 a3 a4 a5 a6 a7 l8 l9 l10 = some 6 := by
  unfold message_Right.f
  rw [if_pos ⟨by omega, by omega, by omega⟩, if_neg k1, if_neg k2, if_neg k3, if_neg k4, if_neg k5, if_neg k6, if_neg k7, if_neg k8, if_neg k9, if_neg k10]
 rw [e4] at e1
 obtain rfl : (6 : Int) = v := Option.some.inj e1
 exact join_bad a0 a1 a2 a3 a4 a5 a6 a7 A8 c8 l8 A9 c9 l9 A10 c10 l10 w h8 e8 h9 e9 h10 e10 e4 e2 hb
theorem walk_MessageThings (W : World) (cs0 : Array Value) (x0 : S30) (hK0 : k30.K W x0 cs0.toList) (ok_0 : ok30 x0) :
  Calls Try.prog 10 #[.agg cs0] W fun e W' => e = .returned (.bool true) ∧ Below W.heap.size W W' := by
 obtain ⟨A8, c8, A9, c9, A10, c10, hcs, l8, C8, l9, C9, l10, C10⟩ := k30_open hK0
 obtain rfl := arr_of hcs
 obtain ⟨_, o1, o2, _, _, _, o6, o7, o8⟩ := ok_0
 exact things_all _ _ _ _ _ _ _ _ A8 c8 _ A9 c9 _ A10 c10 _ W C8 l8 C9 l9 C10 l10 (fun s hs => wf_u (o6.2 s hs).2.1) (fun s hs => (wf_u (o7.2 s hs).1).1) (fun s hs => (wf_u (o8.2 s hs)).1) (wf_u o1).1 (wf_u o2.1).1
end Go.Proofs.Ytlpnpnjjmpkapaa.PAll
