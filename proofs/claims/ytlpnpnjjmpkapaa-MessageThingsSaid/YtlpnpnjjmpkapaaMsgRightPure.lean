/-
  The plain law MessageRight: the program and the document tell the same packets right.
  Conditions: numbers of their kinds; few spans, members and ids.
-/
import Derived.Test.YtlpnpnjjmpkapaaSpanRightCore
import Derived.Test.YtlpnpnjjmpkapaaPAllx11
import Derived.Test.YtlpnpnjjmpkapaaPAllx14
import Derived.Test.YtlpnpnjjmpkapaaPAllx15
import Derived.Test.YtlpnpnjjmpkapaaPAllx19
import Derived.Test.YtlpnpnjjmpkapaaPAllx20
import Derived.Test.YtlpnpnjjmpkapaaPAllx4
import Derived.Test.YtlpnpnjjmpkapaaPAllx5
import Derived.Test.YtlpnpnjjmpkapaaPAllx6
import Derived.Test.YtlpnpnjjmpkapaaPAllx7
import Derived.Test.YtlpnpnjjmpkapaaPAllx8
namespace Go.Proofs.Ytlpnpnjjmpkapaa.PAll
open Go.RowKit Go.Proofs.YtlpnpnjjmpkapaaW.PrintWords Go.Proofs.YtlpnpnjjmpkapaaW.PrintLast Go.Proofs.YtlpnpnjjmpkapaaW.PrintMore
set_option linter.unusedVariables false
set_option linter.unusedSimpArgs false
theorem mwsm {a : Int} (h0 : -100000000 ≤ a) (h1 : a ≤ 70368744177664) : wrap64 a = a := by unfold wrap64; omega
theorem mwadd {a : Nat} (ha : a ≤ 1099511627776) : wrap64 ((a : Int) + 1) = ((a + 1 : Nat) : Int) := by rw [mwsm (by omega) (by omega)]; omega
theorem mwsub {a : Nat} (h : 1 ≤ a) (ha : a ≤ 1099511627776) : wrap64 ((a : Int) - 1) = ((a - 1 : Nat) : Int) := by rw [mwsm (by omega) (by omega)]; omega
theorem rd76 (L : List S76) (i : Nat) : rd_T76 L (i : Int) = L.getD i z76 := rfl
theorem rd92 (L : List S92) (i : Nat) : rd_T92 L (i : Int) = L.getD i z92 := rfl
theorem rdi (L : List Int) (i : Nat) : rd L (i : Int) = L.getD i 0 := rfl
theorem mdrop {α : Type} (l : List α) (z : α) {i : Nat} (h : i < l.length) : l.drop i = l.getD i z :: l.drop (i + 1) := by
 rw [List.drop_eq_getElem_cons h]
 simp [List.getD_eq_getElem?_getD, List.getElem?_eq_getElem h]
theorem mmem {α : Type} (l : List α) (z : α) {i : Nat} (h : i < l.length) : l.getD i z ∈ l := by
 rw [List.getD_eq_getElem?_getD, List.getElem?_eq_getElem h, Option.getD_some]
 exact List.getElem_mem _
/-! ### rows that are one row, or none -/
theorem s68_self (l : List S76) (hl : l.length ≤ 1000) (d : Nat) : ∀ (k i : Nat), i + d = l.length → d + 1 ≤ k → api_Span_68.l0 k l l (l.length : Int) i = some true := by
 induction d with
 | zero => intro k i hi hk; obtain ⟨k, rfl⟩ : ∃ m, k = m + 1 := ⟨k - 1, by omega⟩; rw [api_Span_68.l0, if_neg (by omega)]
 | succ d ih =>
  intro k i hi hk; obtain ⟨k, rfl⟩ : ∃ m, k = m + 1 := ⟨k - 1, by omega⟩
  rw [api_Span_68.l0, if_pos (by omega), if_pos (by omega), if_pos (by omega), if_pos (by omega), if_neg (by simp), mwadd (by omega)]; exact ih k (i + 1) (by omega) (by omega)
theorem s03_self (l : List S76) (hl : l.length ≤ 1000) (d : Nat) : ∀ (k i : Nat), i + d = l.length → d + 1 ≤ k → winnowref03_Spans.l0 k l l i = some true := by
 induction d with
 | zero => intro k i hi hk; obtain ⟨k, rfl⟩ : ∃ m, k = m + 1 := ⟨k - 1, by omega⟩; rw [winnowref03_Spans.l0, if_neg (by omega)]
 | succ d ih =>
  intro k i hi hk; obtain ⟨k, rfl⟩ : ∃ m, k = m + 1 := ⟨k - 1, by omega⟩
  rw [winnowref03_Spans.l0, if_pos (by omega), if_pos (by omega), if_pos (by omega), if_neg (by simp), mwadd (by omega)]; exact ih k (i + 1) (by omega) (by omega)
theorem m69_self (l : List S92) (hl : l.length ≤ 1000) (d : Nat) : ∀ (k i : Nat), i + d = l.length → d + 1 ≤ k → api_Member_69.l0 k l l (l.length : Int) i = some true := by
 induction d with
 | zero => intro k i hi hk; obtain ⟨k, rfl⟩ : ∃ m, k = m + 1 := ⟨k - 1, by omega⟩; rw [api_Member_69.l0, if_neg (by omega)]
 | succ d ih =>
  intro k i hi hk; obtain ⟨k, rfl⟩ : ∃ m, k = m + 1 := ⟨k - 1, by omega⟩
  rw [api_Member_69.l0, if_pos (by omega), if_pos (by omega), if_pos (by omega), if_pos (by omega), if_neg (by simp), mwadd (by omega)]; exact ih k (i + 1) (by omega) (by omega)
theorem ie_self (l : List Int) (hl : l.length ≤ 1000) (d : Nat) : ∀ (k i : Nat), i + d = l.length → d + 1 ≤ k → slices_Equal_uint64_uint64.l0 k l l (l.length : Int) i = some true := by
 induction d with
 | zero => intro k i hi hk; obtain ⟨k, rfl⟩ : ∃ m, k = m + 1 := ⟨k - 1, by omega⟩; rw [slices_Equal_uint64_uint64.l0, if_neg (by omega)]
 | succ d ih =>
  intro k i hi hk; obtain ⟨k, rfl⟩ : ∃ m, k = m + 1 := ⟨k - 1, by omega⟩
  rw [slices_Equal_uint64_uint64.l0, if_pos (by omega), if_pos (by omega), if_pos (by omega), if_pos (by omega), if_pos rfl, mwadd (by omega)]; exact ih k (i + 1) (by omega) (by omega)
theorem s68_eq {l m : List S76} (h : m = l ∨ m = []) (hl : l.length ≤ 1000) {k : Nat} (hk : l.length + 1 ≤ k) : api_Span_68.f k l m = some (decide (l.length = m.length)) := by
 unfold api_Span_68.f
 rcases h with rfl | rfl
 ·rw [if_pos rfl, decide_eq_true rfl]; exact s68_self m hl m.length k 0 (by omega) hk
 ·cases l with
  | nil => rw [if_pos rfl, decide_eq_true rfl]; exact s68_self [] hl 0 k 0 (by simp) (by simpa using hk)
  | cons a t => rw [if_neg (by simp; omega), decide_eq_false (by simp)]
theorem s03_eq {l m : List S76} (h : m = l ∨ m = []) (hl : l.length ≤ 1000) {k : Nat} (hk : l.length + 1 ≤ k) : winnowref03_Spans.f k l m = some (decide (l.length = m.length)) := by
 unfold winnowref03_Spans.f
 rcases h with rfl | rfl
 ·rw [if_pos rfl, decide_eq_true rfl]; exact s03_self m hl m.length k 0 (by omega) hk
 ·cases l with
  | nil => rw [if_pos rfl, decide_eq_true rfl]; exact s03_self [] hl 0 k 0 (by simp) (by simpa using hk)
  | cons a t => rw [if_neg (by simp; omega), decide_eq_false (by simp)]
theorem m69_eq {l m : List S92} (h : m = l ∨ m = []) (hl : l.length ≤ 1000) {k : Nat} (hk : l.length + 1 ≤ k) : api_Member_69.f k l m = some (decide (l.length = m.length)) := by
 unfold api_Member_69.f
 rcases h with rfl | rfl
 ·rw [if_pos rfl, decide_eq_true rfl]; exact m69_self m hl m.length k 0 (by omega) hk
 ·cases l with
  | nil => rw [if_pos rfl, decide_eq_true rfl]; exact m69_self [] hl 0 k 0 (by simp) (by simpa using hk)
  | cons a t => rw [if_neg (by simp; omega), decide_eq_false (by simp)]
theorem ie_eq {l m : List Int} (h : m = l ∨ m = []) (hl : l.length ≤ 1000) {k : Nat} (hk : l.length + 1 ≤ k) : slices_Equal_uint64_uint64.f k l m = some (decide (l.length = m.length)) := by
 unfold slices_Equal_uint64_uint64.f
 rcases h with rfl | rfl
 ·rw [if_pos rfl, decide_eq_true rfl]; exact ie_self m hl m.length k 0 (by omega) hk
 ·cases l with
  | nil => rw [if_pos rfl, decide_eq_true rfl]; exact ie_self [] hl 0 k 0 (by simp) (by simpa using hk)
  | cons a t => rw [if_neg (by simp; omega), decide_eq_false (by simp)]
/-- The fields but the rows. -/
def scB (a0 a1 a2 a3 a4 a5 a6 : Int) (a7 : Bool) (b0 b1 b2 b3 b4 b5 b6 : Int) (b7 : Bool) : Bool :=
 a0 == b0 && (a1 == b1 && ((a2 == b2 && a3 == b3) && ((a4 == b4 && a5 == b5) && (a6 == b6 && a7 == b7))))
def rwB (l8 m8 : List S76) (l9 m9 : List S92) (l10 m10 : List Int) : Bool := decide (l8.length = m8.length) && (decide (l9.length = m9.length) && decide (l10.length = m10.length))
theorem alike_eq (a0 a1 a2 a3 a4 a5 a6 : Int) (a7 : Bool) (b0 b1 b2 b3 b4 b5 b6 : Int) (b7 : Bool) {l8 m8 : List S76} {l9 m9 : List S92} {l10 m10 : List Int} (h8 : m8 = l8 ∨ m8 = []) (h9 : m9 = l9 ∨ m9 = []) (h10 : m10 = l10 ∨ m10 = []) (hl8 : l8.length ≤ 1000) (hl9 : l9.length ≤ 1000) (hl10 : l10.length ≤ 1000) :
  message_alike.f 2000 a0 a1 a2 a3 a4 a5 a6 a7 l8 l9 l10 b0 b1 b2 b3 b4 b5 b6 b7 m8 m9 m10 = some (rwB l8 m8 l9 m9 l10 m10 && scB a0 a1 a2 a3 a4 a5 a6 a7 b0 b1 b2 b3 b4 b5 b6 b7) := by
 unfold message_alike.f
 rw [s68_eq h8 hl8 (by omega), m69_eq h9 hl9 (by omega), ie_eq h10 hl10 (by omega)]
 simp only [Option.bind_some]
 unfold rwB scB
 generalize decide (l8.length = m8.length) = x8
 generalize decide (l9.length = m9.length) = x9
 generalize decide (l10.length = m10.length) = x10
 generalize (a2 == b2 && a3 == b3) = y2
 generalize (a4 == b4 && a5 == b5) = y4
 by_cases e0 : a0 = b0 <;> by_cases e1 : a1 = b1 <;> by_cases e6 : a6 = b6 <;> cases y2 <;> cases y4 <;> cases x8 <;> cases x9 <;> cases x10 <;> cases a7 <;> cases b7 <;> simp [e0, e1, e6]
theorem same_l1 (a0 a1 a2 a3 a4 a5 a6 : Int) (a7 : Bool) (b0 b1 b2 b3 b4 b5 b6 : Int) (b7 : Bool) (l8 m8 : List S76) (l9 m9 : List S92) (l10 : List Int) (hl : l10.length ≤ 1000) (d : Nat) : ∀ (k i : Nat), i + d = l10.length → d + 1 ≤ k →
  winnowref05_Same.l1 k i a0 a1 a2 a3 a4 a5 a6 a7 l8 l9 l10 b0 b1 b2 b3 b4 b5 b6 b7 m8 m9 l10 = some (scB a0 a1 a2 a3 a4 a5 a6 a7 b0 b1 b2 b3 b4 b5 b6 b7) := by
 induction d with
 | zero =>
  intro k i hi hk; obtain ⟨k, rfl⟩ : ∃ m, k = m + 1 := ⟨k - 1, by omega⟩
  rw [winnowref05_Same.l1, if_neg (by omega)]
  unfold scB
  generalize (a2 == b2 && a3 == b3) = y2
  generalize (a4 == b4 && a5 == b5) = y4
  by_cases e0 : a0 = b0 <;> by_cases e1 : a1 = b1 <;> by_cases e6 : a6 = b6 <;> cases y2 <;> cases y4 <;> simp [e0, e1, e6]
 | succ d ih =>
  intro k i hi hk; obtain ⟨k, rfl⟩ : ∃ m, k = m + 1 := ⟨k - 1, by omega⟩
  rw [winnowref05_Same.l1, if_pos (by omega), if_pos (by omega), if_pos (by omega), if_pos rfl, mwadd (by omega)]; exact ih k (i + 1) (by omega) (by omega)
theorem same_l0 (a0 a1 a2 a3 a4 a5 a6 : Int) (a7 : Bool) (b0 b1 b2 b3 b4 b5 b6 : Int) (b7 : Bool) (l8 m8 : List S76) (l9 : List S92) (l10 : List Int) (hl9 : l9.length ≤ 1000) (hl : l10.length ≤ 1000) (d : Nat) : ∀ (k i : Nat), i + d = l9.length → d + 1002 ≤ k →
  winnowref05_Same.l0 k i a0 a1 a2 a3 a4 a5 a6 a7 l8 l9 l10 b0 b1 b2 b3 b4 b5 b6 b7 m8 l9 l10 = some (scB a0 a1 a2 a3 a4 a5 a6 a7 b0 b1 b2 b3 b4 b5 b6 b7) := by
 induction d with
 | zero =>
  intro k i hi hk; obtain ⟨k, rfl⟩ : ∃ m, k = m + 1 := ⟨k - 1, by omega⟩
  rw [winnowref05_Same.l0, if_neg (by omega)]
  exact same_l1 a0 a1 a2 a3 a4 a5 a6 a7 b0 b1 b2 b3 b4 b5 b6 b7 l8 m8 l9 l9 l10 hl l10.length k 0 (by omega) (by omega)
 | succ d ih =>
  intro k i hi hk; obtain ⟨k, rfl⟩ : ∃ m, k = m + 1 := ⟨k - 1, by omega⟩
  rw [winnowref05_Same.l0, if_pos (by omega), if_pos (by omega), if_pos (by omega), if_neg (by simp), mwadd (by omega)]; exact ih k (i + 1) (by omega) (by omega)
theorem same_eq_ (a0 a1 a2 a3 a4 a5 a6 : Int) (a7 : Bool) (b0 b1 b2 b3 b4 b5 b6 : Int) (b7 : Bool) {l8 m8 : List S76} {l9 m9 : List S92} {l10 m10 : List Int} (h8 : m8 = l8 ∨ m8 = []) (h9 : m9 = l9 ∨ m9 = []) (h10 : m10 = l10 ∨ m10 = []) (hl8 : l8.length ≤ 1000) (hl9 : l9.length ≤ 1000) (hl10 : l10.length ≤ 1000) {k : Nat} (hk : 3000 ≤ k) :
  winnowref05_Same.f k a0 a1 a2 a3 a4 a5 a6 a7 l8 l9 l10 b0 b1 b2 b3 b4 b5 b6 b7 m8 m9 m10 = some (rwB l8 m8 l9 m9 l10 m10 && scB a0 a1 a2 a3 a4 a5 a6 a7 b0 b1 b2 b3 b4 b5 b6 b7) := by
 obtain ⟨k, rfl⟩ : ∃ m, k = m + 1 := ⟨k - 1, by omega⟩
 unfold winnowref05_Same.f rwB
 rw [s03_eq h8 hl8 (by omega)]
 simp only [Option.bind_some]
 have bad : ∀ {x : Bool}, x = true → winnowref05_Same.j0 (k + 1) x a0 a1 a2 a3 a4 a5 a6 a7 l8 l9 l10 b0 b1 b2 b3 b4 b5 b6 b7 m8 m9 m10 = some false := fun hx => by
  rw [hx, winnowref05_Same.j0, if_pos rfl]
 by_cases e9 : l9.length = m9.length
 ·rw [if_pos (by omega), decide_eq_true e9]
  by_cases e10 : l10.length = m10.length
  ·rw [if_pos (by omega), decide_eq_true e10]
   have q9 : m9 = l9 := h9.elim id (fun h => by subst h; exact (List.eq_nil_of_length_eq_zero (by simpa using e9)).symm)
   have q10 : m10 = l10 := h10.elim id (fun h => by subst h; exact (List.eq_nil_of_length_eq_zero (by simpa using e10)).symm)
   subst q9 q10
   by_cases e8 : l8.length = m8.length
   ·rw [decide_eq_true e8, Bool.not_true, winnowref05_Same.j0, if_neg (by decide), Bool.true_and, Bool.true_and, Bool.true_and]
    exact same_l0 a0 a1 a2 a3 a4 a5 a6 a7 b0 b1 b2 b3 b4 b5 b6 b7 l8 m8 m9 m10 hl9 hl10 m9.length k 0 (by omega) (by omega)
   ·rw [decide_eq_false e8, Bool.not_false, bad rfl]; rfl
  ·rw [if_neg (by omega), decide_eq_false e10, bad rfl]; simp
 ·rw [if_neg (by omega), decide_eq_false e9, bad rfl]; simp
/-! ### the spans of a packet -/
def rN (s : S76) : Int := (rightN s.f0 s.f1 s.f3 s.f4 s.f5 s.f6).getD 0
theorem rN_eq (s : S76) : rightN s.f0 s.f1 s.f3 s.f4 s.f5 s.f6 = some (rN s) := by
 obtain ⟨v, hv⟩ := rightN_some s.f0 s.f1 s.f3 s.f4 s.f5 s.f6
 unfold rN
 rw [hv]; rfl
def goB (tr : Int) : List Int → List S76 → Bool
 | _, [] => true
 | met, s :: t => if rN s = 0 then (if s.f0 = tr then (if s.f1 ∈ met then false else goB tr (met ++ [s.f1]) t) else false) else false
theorem go_eq (tr : Int) : ∀ (l : List S76) (met : List Int), message_spans.go tr met l = some (goB tr met l)
 | [], _ => rfl
 | s :: t, met => by
  rw [message_spans.go, goB, right_eq _ _ _ _ _ _ _ _ (by omega), rN_eq]
  simp only [Option.bind_some]
  by_cases h : rN s = 0
  ·rw [if_pos h, if_pos h]
   by_cases h1 : s.f0 = tr
   ·rw [if_pos h1, if_pos h1]
    by_cases h2 : s.f1 ∈ met
    ·rw [if_pos h2, if_pos h2]
    ·rw [if_neg h2, if_neg h2]; exact go_eq tr t _
   ·rw [if_neg h1, if_neg h1]
  ·rw [if_neg h, if_neg h]
def lnB (n : Nat) : Bool := decide (0 < n) && decide (n ≤ 16)
theorem rs_l1 (tr : Int) (l : List S76) (hl : l.length ≤ 40) (i : Nat) (hi : i < l.length) (d : Nat) : ∀ (k j : Nat), j + d = i → d + 1 ≤ k → (∀ q, q < j → (l.getD q z76).f1 ≠ (l.getD i z76).f1) →
  ∃ k', k ≤ k' + d + 1 ∧ winnowref05_Spans.l1 k tr l i j = if (l.getD i z76).f1 ∈ (l.take i).map (·.f1) then some false else winnowref05_Spans.l0 k' tr l ((i + 1 : Nat) : Int) := by
 induction d with
 | zero =>
  intro k j hj hk h; obtain ⟨k, rfl⟩ : ∃ m, k = m + 1 := ⟨k - 1, by omega⟩
  refine ⟨k, by omega, ?_⟩
  rw [winnowref05_Spans.l1, if_neg (by omega), mwadd (by omega), if_neg]
  intro hm
  obtain ⟨x, hx, e⟩ := List.mem_map.1 hm
  obtain ⟨q, hq, e2⟩ := List.getElem_of_mem hx
  rw [List.length_take] at hq
  refine h q (by omega) ?_
  rw [← e, ← e2, List.getElem_take, List.getD_eq_getElem?_getD, List.getElem?_eq_getElem (show q < l.length by omega)]; rfl
 | succ d ih =>
  intro k j hj hk h; obtain ⟨k, rfl⟩ : ∃ m, k = m + 1 := ⟨k - 1, by omega⟩
  rw [winnowref05_Spans.l1, if_pos (by omega), if_pos (by omega), if_pos (by omega), if_pos (by omega), if_pos (by omega), rd76, rd76]
  by_cases c : (l.getD j z76).f1 = (l.getD i z76).f1
  ·refine ⟨k, by omega, ?_⟩
   rw [if_pos c, if_pos]
   rw [← c]
   refine List.mem_map.2 ⟨l.getD j z76, ?_, rfl⟩
   rw [List.getD_eq_getElem?_getD, List.getElem?_eq_getElem (show j < l.length by omega), Option.getD_some]
   exact List.mem_take_iff_getElem.2 ⟨j, by omega, rfl⟩
  ·obtain ⟨k', h1, h2⟩ := ih k (j + 1) (by omega) (by omega) (fun q hq => by
    by_cases e : q = j
    ·rw [e]; exact c
    ·exact h q (by omega))
   exact ⟨k', by omega, by rw [if_neg c, mwadd (by omega)]; exact h2⟩
theorem rs_l0 (tr : Int) (l : List S76) (hl : l.length ≤ 40) (d : Nat) : ∀ (k i : Nat), i + d = l.length → d * 50 + 200 ≤ k → winnowref05_Spans.l0 k tr l i = some (goB tr ((l.take i).map (·.f1)) (l.drop i) && lnB l.length) := by
 induction d with
 | zero =>
  intro k i hi hk; obtain ⟨k, rfl⟩ : ∃ m, k = m + 1 := ⟨k - 1, by omega⟩
  rw [winnowref05_Spans.l0, if_neg (by omega), List.drop_of_length_le (by omega), goB, Bool.true_and]
  unfold lnB
  by_cases h : 0 < l.length
  ·rw [if_pos (by omega), decide_eq_true h, Bool.true_and]; congr 1; rw [decide_eq_decide]; omega
  ·rw [if_neg (by omega), decide_eq_false h, Bool.false_and]
 | succ d ih =>
  intro k i hi hk; obtain ⟨k, rfl⟩ : ∃ m, k = m + 1 + 1 := ⟨k - 2, by omega⟩
  rw [winnowref05_Spans.l0, if_pos (by omega), if_pos (by omega), rd76, rright_eq _ _ _ _ _ _ _ _ (by omega), rN_eq, mdrop l z76 (show i < l.length by omega), goB]
  simp only [Option.bind_some]
  by_cases h : rN (l.getD i z76) = 0
  ·rw [if_pos h, if_pos h, winnowref05_Spans.j1]
   by_cases h1 : (l.getD i z76).f0 = tr
   ·rw [if_neg (by rw [h1]; simp), if_pos h1]
    obtain ⟨k', q1, q2⟩ := rs_l1 tr l hl i (by omega) i k 0 (by omega) (by omega) (fun q hq => by omega)
    refine Eq.trans q2 ?_
    by_cases h2 : (l.getD i z76).f1 ∈ (l.take i).map (·.f1)
    ·rw [if_pos h2, if_pos h2, Bool.false_and]
    ·rw [if_neg h2, if_neg h2, ih k' (i + 1) (by omega) (by omega)]
     congr 3
     rw [List.take_succ_eq_append_getElem (show i < l.length by omega), List.map_append]
     simp only [List.map_cons, List.map_nil, List.getD_eq_getElem?_getD, List.getElem?_eq_getElem (show i < l.length by omega), Option.getD_some]
   ·rw [if_pos (by simpa using h1), if_neg h1, Bool.false_and]
  ·rw [if_neg h, if_neg h, winnowref05_Spans.j1, if_pos rfl, Bool.false_and]
theorem rs_eq (tr : Int) (l : List S76) (hl : l.length ≤ 40) {k : Nat} (hk : 3000 ≤ k) : winnowref05_Spans.f k tr l = some (goB tr [] l && lnB l.length) := by
 unfold winnowref05_Spans.f
 have := rs_l0 tr l hl l.length k 0 (by omega) (by omega)
 simpa using this
theorem ms_eq (tr : Int) (l : List S76) (hl : l.length ≤ 40) (hw : ∀ s ∈ l, 0 ≤ s.f1 ∧ s.f1 < 18446744073709551616) : message_spans.f tr l = some (goB tr [] l && lnB l.length) := by
 unfold message_spans.f
 rw [if_pos ⟨by omega, hw⟩, go_eq]
 rfl
/-! ### the members, and the ids -/
def riseB : Int → List Int → Bool
 | _, [] => true
 | a, y :: l => decide (a < y) && riseB y l
def oddB (s : S92) : Bool := s.f1 == 0 || (decide (s.f2 < 0) || decide (s.f2 > 2))
def memB : Int → List S92 → Bool
 | _, [] => true
 | a, s :: l => (decide (a < s.f0) && !oddB s) && memB s.f0 l
theorem lnB_if (n : Nat) : (if (n : Int) > 0 then some (decide ((n : Int) ≤ 16)) else some false) = some (lnB n) := by
 unfold lnB
 by_cases h : 0 < n
 ·rw [if_pos (by omega), decide_eq_true h, Bool.true_and]; congr 1; rw [decide_eq_decide]; omega
 ·rw [if_neg (by omega), decide_eq_false h, Bool.false_and]
theorem lnB_if1 (n : Nat) : (if (n : Int) ≥ 1 then some (decide ((n : Int) ≤ 16)) else some false) = some (lnB n) := by
 unfold lnB
 by_cases h : 0 < n
 ·rw [if_pos (by omega), decide_eq_true h, Bool.true_and]; congr 1; rw [decide_eq_decide]; omega
 ·rw [if_neg (by omega), decide_eq_false h, Bool.false_and]
theorem m62_l (l : List S92) (hl : l.length ≤ 1000) (d : Nat) : ∀ (k i : Nat) (a : Int), i + d = l.length → d + 1 ≤ k → api_Member_62.l0 k l 16 a l (l.length : Int) i = some (riseB a ((l.drop i).map (·.f0)) && lnB l.length) := by
 induction d with
 | zero =>
  intro k i a hi hk; obtain ⟨k, rfl⟩ : ∃ m, k = m + 1 := ⟨k - 1, by omega⟩
  rw [api_Member_62.l0, if_neg (by omega), List.drop_of_length_le (by omega), List.map_nil, riseB, Bool.true_and]
  exact lnB_if _
 | succ d ih =>
  intro k i a hi hk; obtain ⟨k, rfl⟩ : ∃ m, k = m + 1 := ⟨k - 1, by omega⟩
  rw [api_Member_62.l0, if_pos (by omega), if_pos (by omega), if_pos (by omega), rd92, mdrop l z92 (show i < l.length by omega), List.map_cons, riseB]
  unfold message_right_2.f
  simp only [Option.bind_some]
  by_cases h : (l.getD i z92).f0 ≤ a
  ·rw [if_pos h, decide_eq_false (by omega), Bool.false_and, Bool.false_and]
  ·rw [if_neg h, decide_eq_true (by omega), Bool.true_and, mwadd (by omega)]; exact ih k (i + 1) _ (by omega) (by omega)
theorem m62_eq (l : List S92) (hl : l.length ≤ 1000) : api_Member_62.f 2000 l 16 = some (riseB 0 (l.map (·.f0)) && lnB l.length) := by
 unfold api_Member_62.f
 exact m62_l l hl l.length 2000 0 0 (by omega) (by omega)
theorem m95_l (l : List S92) (hl : l.length ≤ 1000) (d : Nat) : ∀ (k i : Nat), i + d = l.length → d + 1 ≤ k → ∃ v, api_Member_95.l0 k l (l.length : Int) i = some v ∧ decide (v ≥ 0) = (l.drop i).any oddB := by
 induction d with
 | zero =>
  intro k i hi hk; obtain ⟨k, rfl⟩ : ∃ m, k = m + 1 := ⟨k - 1, by omega⟩
  exact ⟨-1, by rw [api_Member_95.l0, if_neg (by omega)], by rw [List.drop_of_length_le (by omega)]; decide⟩
 | succ d ih =>
  intro k i hi hk; obtain ⟨k, rfl⟩ : ∃ m, k = m + 1 := ⟨k - 1, by omega⟩
  have ho : message_right_1.f (l.getD i z92).f0 (l.getD i z92).f1 (l.getD i z92).f2 = some (oddB (l.getD i z92)) := by
   unfold message_right_1.f oddB
   by_cases h1 : (l.getD i z92).f1 = 0
   ·rw [if_pos h1, beq_iff_eq.2 h1, Bool.true_or]
   ·rw [if_neg h1, beq_eq_false_iff_ne.2 h1, Bool.false_or]
    by_cases h2 : (l.getD i z92).f2 < 0
    ·rw [if_pos h2, decide_eq_true h2, Bool.true_or]
    ·rw [if_neg h2, decide_eq_false h2, Bool.false_or]
  rw [api_Member_95.l0, if_pos (by omega), if_pos (by omega), if_pos (by omega), rd92, ho, mdrop l z92 (show i < l.length by omega), List.any_cons]
  simp only [Option.bind_some]
  by_cases h : oddB (l.getD i z92) = true
  ·exact ⟨(i : Int), by rw [if_pos h], by rw [h, Bool.true_or, decide_eq_true (by omega)]⟩
  ·obtain ⟨v, h1, h2⟩ := ih k (i + 1) (by omega) (by omega)
   exact ⟨v, by rw [if_neg h, mwadd (by omega)]; exact h1, by rw [eq_false_of_ne_true h, Bool.false_or]; exact h2⟩
theorem m64_eq (l : List S92) (hl : l.length ≤ 1000) : api_Member_64.f 2000 l = some (l.any oddB) := by
 unfold api_Member_64.f api_Member_95.f
 obtain ⟨v, h1, h2⟩ := m95_l l hl l.length 2000 0 (by omega) (by omega)
 rw [Int.natCast_zero] at h1
 rw [h1]
 simp only [Option.bind_some]
 rw [h2, List.drop_zero]
theorem memB_eq : ∀ (l : List S92) (a : Int), memB a l = (riseB a (l.map (·.f0)) && !l.any oddB)
 | [], _ => rfl
 | s :: l, a => by
  rw [memB, List.map_cons, riseB, List.any_cons, memB_eq l s.f0]
  cases decide (a < s.f0) <;> cases oddB s <;> cases riseB s.f0 (l.map (·.f0)) <;> cases l.any oddB <;> rfl
theorem rm_l (l : List S92) (h0 : ∀ s ∈ l, 0 ≤ s.f0) (hl : l.length ≤ 1000) (d : Nat) : ∀ (k i : Nat), i + d = l.length → d + 1 ≤ k → winnowref05_Members.l0 k l i = some (memB (if i = 0 then 0 else (l.getD (i - 1) z92).f0) (l.drop i) && lnB l.length) := by
 induction d with
 | zero =>
  intro k i hi hk; obtain ⟨k, rfl⟩ : ∃ m, k = m + 1 := ⟨k - 1, by omega⟩
  rw [winnowref05_Members.l0, if_neg (by omega), List.drop_of_length_le (by omega), memB, Bool.true_and]
  exact lnB_if1 _
 | succ d ih =>
  intro k i hi hk; obtain ⟨k, rfl⟩ : ∃ m, k = m + 1 := ⟨k - 1, by omega⟩
  have hpi := h0 _ (mmem l z92 (show i < l.length by omega))
  have hn := ih k (i + 1) (by omega) (by omega)
  rw [if_neg (by omega), Nat.add_sub_cancel] at hn
  rw [winnowref05_Members.l0, if_pos (by omega), if_pos (by omega), rd92, mdrop l z92 (show i < l.length by omega), memB, oddB, mwadd (by omega), hn]
  by_cases hz : (l.getD i z92).f0 = 0
  ·rw [if_pos hz, decide_eq_false, Bool.false_and, Bool.false_and, Bool.false_and]
   by_cases hi0 : i = 0
   ·rw [if_pos hi0]; omega
   ·have := h0 _ (mmem l z92 (show i - 1 < l.length by omega))
    rw [if_neg hi0]; omega
  rw [if_neg hz]
  by_cases h1 : (l.getD i z92).f1 = 0
  ·rw [if_pos h1, beq_iff_eq.2 h1, Bool.true_or, Bool.not_true, Bool.and_false, Bool.false_and, Bool.false_and]
  rw [if_neg h1, beq_eq_false_iff_ne.2 h1, Bool.false_or]
  by_cases h2 : (l.getD i z92).f2 < 0
  ·rw [if_pos h2, decide_eq_true h2, Bool.true_or, Bool.not_true, Bool.and_false, Bool.false_and, Bool.false_and]
  rw [if_neg h2, decide_eq_false h2, Bool.false_or]
  by_cases h3 : (l.getD i z92).f2 > 2
  ·rw [if_pos h3, decide_eq_true h3, Bool.not_true, Bool.and_false, Bool.false_and, Bool.false_and]
  rw [if_neg h3, decide_eq_false h3, Bool.not_false, Bool.and_true]
  by_cases hi0 : i = 0
  ·rw [if_neg (by omega), if_pos hi0, decide_eq_true (by omega), Bool.true_and]
  ·rw [if_pos (by omega), mwsub (by omega) (by omega), if_pos (by omega), if_pos (by omega), rd92, if_neg hi0]
   by_cases hc : (l.getD (i - 1) z92).f0 ≥ (l.getD i z92).f0
   ·rw [if_pos hc, decide_eq_false (by omega), Bool.false_and, Bool.false_and]
   ·rw [if_neg hc, decide_eq_true (by omega), Bool.true_and]
theorem rm_eq (l : List S92) (h0 : ∀ s ∈ l, 0 ≤ s.f0) (hl : l.length ≤ 1000) {k : Nat} (hk : 2000 ≤ k) : winnowref05_Members.f k l = some (riseB 0 (l.map (·.f0)) && lnB l.length && !l.any oddB) := by
 unfold winnowref05_Members.f
 have := rm_l l h0 hl l.length k 0 (by omega) (by omega)
 rw [if_pos rfl, List.drop_zero, memB_eq, Int.natCast_zero] at this
 rw [this]
 cases riseB 0 (l.map (·.f0)) <;> cases lnB l.length <;> cases l.any oddB <;> rfl
theorem mr_l (l : List Int) (hl : l.length ≤ 1000) (d : Nat) : ∀ (k i : Nat) (a : Int), i + d = l.length → d + 1 ≤ k → message_rise_uint64.l0 k l 16 a l (l.length : Int) i = some (riseB a (l.drop i) && lnB l.length) := by
 induction d with
 | zero =>
  intro k i a hi hk; obtain ⟨k, rfl⟩ : ∃ m, k = m + 1 := ⟨k - 1, by omega⟩
  rw [message_rise_uint64.l0, if_neg (by omega), List.drop_of_length_le (by omega), riseB, Bool.true_and]
  exact lnB_if _
 | succ d ih =>
  intro k i a hi hk; obtain ⟨k, rfl⟩ : ∃ m, k = m + 1 := ⟨k - 1, by omega⟩
  rw [message_rise_uint64.l0, if_pos (by omega), if_pos (by omega), if_pos (by omega), rdi, mdrop l 0 (show i < l.length by omega), riseB]
  unfold message_right_3.f
  simp only [Option.bind_some]
  by_cases h : l.getD i 0 ≤ a
  ·rw [if_pos h, decide_eq_false (by omega), Bool.false_and, Bool.false_and]
  ·rw [if_neg h, decide_eq_true (by omega), Bool.true_and, mwadd (by omega)]; exact ih k (i + 1) _ (by omega) (by omega)
theorem mr_eq (l : List Int) (hl : l.length ≤ 1000) : message_rise_uint64.f 2000 l 16 = some (riseB 0 l && lnB l.length) := by
 unfold message_rise_uint64.f
 exact mr_l l hl l.length 2000 0 0 (by omega) (by omega)
theorem rr_l (l : List Int) (h0 : ∀ s ∈ l, 0 ≤ s) (hl : l.length ≤ 1000) (d : Nat) : ∀ (k i : Nat), i + d = l.length → d + 1 ≤ k → winnowref05_rise.l0 k l i = some (riseB (if i = 0 then 0 else l.getD (i - 1) 0) (l.drop i) && lnB l.length) := by
 induction d with
 | zero =>
  intro k i hi hk; obtain ⟨k, rfl⟩ : ∃ m, k = m + 1 := ⟨k - 1, by omega⟩
  rw [winnowref05_rise.l0, if_neg (by omega), List.drop_of_length_le (by omega), riseB, Bool.true_and]
  exact lnB_if1 _
 | succ d ih =>
  intro k i hi hk; obtain ⟨k, rfl⟩ : ∃ m, k = m + 1 := ⟨k - 1, by omega⟩
  have hpi := h0 _ (mmem l 0 (show i < l.length by omega))
  have hn := ih k (i + 1) (by omega) (by omega)
  rw [if_neg (by omega), Nat.add_sub_cancel] at hn
  rw [winnowref05_rise.l0, if_pos (by omega), if_pos (by omega), rdi, mdrop l 0 (show i < l.length by omega), riseB, mwadd (by omega), hn]
  by_cases hz : l.getD i 0 = 0
  ·rw [if_pos hz, decide_eq_false, Bool.false_and, Bool.false_and]
   by_cases hi0 : i = 0
   ·rw [if_pos hi0]; omega
   ·have := h0 _ (mmem l 0 (show i - 1 < l.length by omega))
    rw [if_neg hi0]; omega
  rw [if_neg hz]
  by_cases hi0 : i = 0
  ·rw [if_neg (by omega), if_pos hi0, decide_eq_true (by omega), Bool.true_and]
  ·rw [if_pos (by omega), mwsub (by omega) (by omega), if_pos (by omega), if_pos (by omega), rdi, if_neg hi0]
   by_cases hc : l.getD (i - 1) 0 ≥ l.getD i 0
   ·rw [if_pos hc, decide_eq_false (by omega), Bool.false_and, Bool.false_and]
   ·rw [if_neg hc, decide_eq_true (by omega), Bool.true_and]
theorem rr_eq (l : List Int) (h0 : ∀ s ∈ l, 0 ≤ s) (hl : l.length ≤ 1000) {k : Nat} (hk : 2000 ≤ k) : winnowref05_rise.f k l = some (riseB 0 l && lnB l.length) := by
 unfold winnowref05_rise.f
 have := rr_l l h0 hl l.length k 0 (by omega) (by omega)
 rw [if_pos rfl, List.drop_zero, Int.natCast_zero] at this
 exact this
end Go.Proofs.Ytlpnpnjjmpkapaa.PAll
