/-
  What is right of a packet, and its bytes, in plain words.
  Conditions: numbers of their kinds; few spans, members and ids.
-/
import Derived.Test.YtlpnpnjjmpkapaaArrOf
import Derived.Test.YtlpnpnjjmpkapaaMsgFrame
import Derived.Test.YtlpnpnjjmpkapaaPAllx10
import Derived.Test.YtlpnpnjjmpkapaaPAllx14
import Derived.Test.YtlpnpnjjmpkapaaPAllx4
import Derived.Test.YtlpnpnjjmpkapaaPAllx5
import Derived.Test.YtlpnpnjjmpkapaaPAllx6
import Derived.Test.YtlpnpnjjmpkapaaPAllx7
import Derived.Test.YtlpnpnjjmpkapaaPAllx8
import Derived.Test.YtlpnpnjjmpkapaaPAllx9
namespace Go.Proofs.Ytlpnpnjjmpkapaa.PAll
open Go.RowKit Go.Lib Go.Proofs.YtlpnpnjjmpkapaaW.PrintWords Go.Proofs.YtlpnpnjjmpkapaaW.PrintLast Go.Proofs.YtlpnpnjjmpkapaaW.PrintMore
set_option linter.unusedVariables false
set_option linter.unusedSimpArgs false
theorem name_l (s : ByteArray) : ∀ b pos, span_Name.l s b pos = 0 ∨ span_Name.l s b pos = 5
  | 0, _ => .inl rfl
  | b + 1, pos => by
    unfold span_Name.l
    split
    · split
      · exact .inr rfl
      · exact name_l s b _
    · exact .inl rfl
theorem name_val (s : ByteArray) : ∃ v, span_Name.f s = some v ∧ (v = 0 ∨ v = 5) := by
  unfold span_Name.f
  split
  · exact ⟨5, rfl, .inr rfl⟩
  · exact ⟨_, rfl, name_l s _ _⟩
theorem or_eq {x y : Int} {k : Nat} (hk : 3 ≤ k) : api_Kind.f k [x, y] = some (if x = 0 then y else x) := by
  obtain ⟨k, rfl⟩ : ∃ j, k = j + 1 + 1 + 1 := ⟨k - 3, by omega⟩
  have w0 : wrap64 (0 + 1) = 1 := by unfold wrap64; omega
  have w1 : wrap64 (1 + 1) = 2 := by unfold wrap64; omega
  unfold api_Kind.f
  rw [api_Kind.l0, if_pos (by simp), if_pos (by omega), if_pos (by simp), w0]
  have r0 : rd [x, y] 0 = x := rfl
  have r1 : rd [x, y] 1 = y := rfl
  rw [r0]
  by_cases h : x = 0
  · rw [if_pos h, if_pos h, api_Kind.l0, if_pos (by simp), if_pos (by omega), if_pos (by simp), w1, r1]
    by_cases h1 : y = 0
    · rw [if_pos h1, api_Kind.l0, if_neg (by simp), h1]
    · rw [if_neg h1]
  · rw [if_neg h, if_neg h]
/-- What stands against a span. -/
def rightN (t i s l : Int) (sv nm : ByteArray) : Option Int :=
  if t = 0 ∨ i = 0 ∨ s > 1099511627776 ∨ l > 1099511627776 then some 1 else (span_Name.f sv).bind fun x => (span_Name.f nm).bind fun y => some (if x = 0 then y else x)
theorem right_eq (a0 a1 a2 a3 a4 : Int) (a5 a6 : ByteArray) (a7 : Bool) {k : Nat} (hk : 4 ≤ k) : span_Right.f k a0 a1 a2 a3 a4 a5 a6 a7 = rightN a0 a1 a3 a4 a5 a6 := by
  obtain ⟨k, rfl⟩ : ∃ j, k = j + 1 := ⟨k - 1, by omega⟩
  have h1 : span_Right.j0 (k + 1) true a0 a1 a2 a3 a4 a5 a6 a7 = some 1 := by rw [span_Right.j0, if_pos rfl]
  unfold span_Right.f rightN
  by_cases c0 : a0 = 0
  · rw [if_pos c0, if_pos (.inl c0), h1]
  rw [if_neg c0]
  by_cases c1 : a1 = 0
  · rw [if_pos c1, if_pos (.inr (.inl c1)), h1]
  rw [if_neg c1]
  by_cases c2 : a3 > 1099511627776 ∨ a4 > 1099511627776
  · rw [decide_eq_true (by unfold mx; split <;> omega), h1, if_pos (.inr (.inr c2))]
  · rw [decide_eq_false (by unfold mx; split <;> omega), if_neg (fun h => by rcases h with h | h | h; exact c0 h; exact c1 h; exact c2 h), span_Right.j0, if_neg (by decide)]
    obtain ⟨x, hx, _⟩ := name_val a5
    obtain ⟨y, hy, _⟩ := name_val a6
    rw [hx, hy]
    simp only [Option.bind_some]
    rw [or_eq (by omega)]
    rfl
theorem rightN_some (t i s l : Int) (sv nm : ByteArray) : ∃ v, rightN t i s l sv nm = some v := by
  obtain ⟨x, hx, _⟩ := name_val sv
  obtain ⟨y, hy, _⟩ := name_val nm
  unfold rightN
  split
  · exact ⟨_, rfl⟩
  · rw [hx, hy]; exact ⟨_, rfl⟩
theorem mwsm {a : Int} (h0 : -100000000 ≤ a) (h1 : a ≤ 70368744177664) : wrap64 a = a := by unfold wrap64; omega
theorem mwadd {a : Nat} (ha : a ≤ 1099511627776) : wrap64 ((a : Int) + 1) = ((a + 1 : Nat) : Int) := by rw [mwsm (by omega) (by omega)]; omega
theorem rd92 (L : List S92) (i : Nat) : rd_T92 L (i : Int) = L.getD i z92 := rfl
theorem rdi (L : List Int) (i : Nat) : rd L (i : Int) = L.getD i 0 := rfl
theorem mdrop {α : Type} (l : List α) (z : α) {i : Nat} (h : i < l.length) : l.drop i = l.getD i z :: l.drop (i + 1) := by
  rw [List.drop_eq_getElem_cons h]
  simp [List.getD_eq_getElem?_getD, List.getElem?_eq_getElem h]
/-! ### rows that are one row, or none -/
theorem s68_self (l : List S76) (hl : l.length ≤ 1000) (d : Nat) : ∀ (k i : Nat), i + d = l.length → d + 1 ≤ k → api_Span_68.l0 k l l (l.length : Int) i = some true := by
  induction d with
  | zero => intro k i hi hk; obtain ⟨k, rfl⟩ : ∃ m, k = m + 1 := ⟨k - 1, by omega⟩; rw [api_Span_68.l0, if_neg (by omega)]
  | succ d ih =>
    intro k i hi hk; obtain ⟨k, rfl⟩ : ∃ m, k = m + 1 := ⟨k - 1, by omega⟩
    rw [api_Span_68.l0, if_pos (by omega), if_pos (by omega), if_pos (by omega), if_pos (by omega), if_neg (by simp), mwadd (by omega)]; exact ih k (i + 1) (by omega) (by omega)
theorem s03_self (l : List S76) (hl : l.length ≤ 1000) (d : Nat) : ∀ (k i : Nat), i + d = l.length → d + 1 ≤ k → winnowref03_Spans.l0 k l l i = some true := by
  induction d with
  | zero => intro k i hi hk; obtain ⟨k, rfl⟩ : ∃ m, k = m + 1 := ⟨k - 1, by omega⟩; rw [winnowref03_Spans.l0, if_neg (by omega)]
  | succ d ih =>
    intro k i hi hk; obtain ⟨k, rfl⟩ : ∃ m, k = m + 1 := ⟨k - 1, by omega⟩
    rw [winnowref03_Spans.l0, if_pos (by omega), if_pos (by omega), if_pos (by omega), if_neg (by simp), mwadd (by omega)]; exact ih k (i + 1) (by omega) (by omega)
theorem m69_self (l : List S92) (hl : l.length ≤ 1000) (d : Nat) : ∀ (k i : Nat), i + d = l.length → d + 1 ≤ k → api_Member_69.l0 k l l (l.length : Int) i = some true := by
  induction d with
  | zero => intro k i hi hk; obtain ⟨k, rfl⟩ : ∃ m, k = m + 1 := ⟨k - 1, by omega⟩; rw [api_Member_69.l0, if_neg (by omega)]
  | succ d ih =>
    intro k i hi hk; obtain ⟨k, rfl⟩ : ∃ m, k = m + 1 := ⟨k - 1, by omega⟩
    rw [api_Member_69.l0, if_pos (by omega), if_pos (by omega), if_pos (by omega), if_pos (by omega), if_neg (by simp), mwadd (by omega)]; exact ih k (i + 1) (by omega) (by omega)
theorem ie_self (l : List Int) (hl : l.length ≤ 1000) (d : Nat) : ∀ (k i : Nat), i + d = l.length → d + 1 ≤ k → slices_Equal_uint64_uint64.l0 k l l (l.length : Int) i = some true := by
  induction d with
  | zero => intro k i hi hk; obtain ⟨k, rfl⟩ : ∃ m, k = m + 1 := ⟨k - 1, by omega⟩; rw [slices_Equal_uint64_uint64.l0, if_neg (by omega)]
  | succ d ih =>
    intro k i hi hk; obtain ⟨k, rfl⟩ : ∃ m, k = m + 1 := ⟨k - 1, by omega⟩
    rw [slices_Equal_uint64_uint64.l0, if_pos (by omega), if_pos (by omega), if_pos (by omega), if_pos (by omega), if_pos rfl, mwadd (by omega)]; exact ih k (i + 1) (by omega) (by omega)
theorem s68_eq {l m : List S76} (h : m = l ∨ m = []) (hl : l.length ≤ 1000) {k : Nat} (hk : l.length + 1 ≤ k) : api_Span_68.f k l m = some (decide (l.length = m.length)) := by
  unfold api_Span_68.f
  rcases h with rfl | rfl
  · rw [if_pos rfl, decide_eq_true rfl]; exact s68_self m hl m.length k 0 (by omega) hk
  · cases l with
    | nil => rw [if_pos rfl, decide_eq_true rfl]; exact s68_self [] hl 0 k 0 (by simp) (by simpa using hk)
    | cons a t => rw [if_neg (by simp; omega), decide_eq_false (by simp)]
theorem s03_eq {l m : List S76} (h : m = l ∨ m = []) (hl : l.length ≤ 1000) {k : Nat} (hk : l.length + 1 ≤ k) : winnowref03_Spans.f k l m = some (decide (l.length = m.length)) := by
  unfold winnowref03_Spans.f
  rcases h with rfl | rfl
  · rw [if_pos rfl, decide_eq_true rfl]; exact s03_self m hl m.length k 0 (by omega) hk
  · cases l with
    | nil => rw [if_pos rfl, decide_eq_true rfl]; exact s03_self [] hl 0 k 0 (by simp) (by simpa using hk)
    | cons a t => rw [if_neg (by simp; omega), decide_eq_false (by simp)]
theorem m69_eq {l m : List S92} (h : m = l ∨ m = []) (hl : l.length ≤ 1000) {k : Nat} (hk : l.length + 1 ≤ k) : api_Member_69.f k l m = some (decide (l.length = m.length)) := by
  unfold api_Member_69.f
  rcases h with rfl | rfl
  · rw [if_pos rfl, decide_eq_true rfl]; exact m69_self m hl m.length k 0 (by omega) hk
  · cases l with
    | nil => rw [if_pos rfl, decide_eq_true rfl]; exact m69_self [] hl 0 k 0 (by simp) (by simpa using hk)
    | cons a t => rw [if_neg (by simp; omega), decide_eq_false (by simp)]
theorem ie_eq {l m : List Int} (h : m = l ∨ m = []) (hl : l.length ≤ 1000) {k : Nat} (hk : l.length + 1 ≤ k) : slices_Equal_uint64_uint64.f k l m = some (decide (l.length = m.length)) := by
  unfold slices_Equal_uint64_uint64.f
  rcases h with rfl | rfl
  · rw [if_pos rfl, decide_eq_true rfl]; exact ie_self m hl m.length k 0 (by omega) hk
  · cases l with
    | nil => rw [if_pos rfl, decide_eq_true rfl]; exact ie_self [] hl 0 k 0 (by simp) (by simpa using hk)
    | cons a t => rw [if_neg (by simp; omega), decide_eq_false (by simp)]
/-- The fields but the rows. -/
def scB (a0 a1 a2 a3 a4 a5 a6 : Int) (a7 : Bool) (b0 b1 b2 b3 b4 b5 b6 : Int) (b7 : Bool) : Bool :=
  a0 == b0 && (a1 == b1 && ((a2 == b2 && a3 == b3) && ((a4 == b4 && a5 == b5) && (a6 == b6 && a7 == b7))))
def rwB (l8 m8 : List S76) (l9 m9 : List S92) (l10 m10 : List Int) : Bool := decide (l8.length = m8.length) && (decide (l9.length = m9.length) && decide (l10.length = m10.length))
theorem alike_eq (a0 a1 a2 a3 a4 a5 a6 : Int) (a7 : Bool) (b0 b1 b2 b3 b4 b5 b6 : Int) (b7 : Bool) {l8 m8 : List S76} {l9 m9 : List S92} {l10 m10 : List Int} (h8 : m8 = l8 ∨ m8 = []) (h9 : m9 = l9 ∨ m9 = []) (h10 : m10 = l10 ∨ m10 = []) (hl8 : l8.length ≤ 1000) (hl9 : l9.length ≤ 1000) (hl10 : l10.length ≤ 1000) :
    message_alike.f 2000 a0 a1 a2 a3 a4 a5 a6 a7 l8 l9 l10 b0 b1 b2 b3 b4 b5 b6 b7 m8 m9 m10 = some (rwB l8 m8 l9 m9 l10 m10 && scB a0 a1 a2 a3 a4 a5 a6 a7 b0 b1 b2 b3 b4 b5 b6 b7) := by
  unfold message_alike.f
  rw [s68_eq h8 hl8 (by omega), m69_eq h9 hl9 (by omega), ie_eq h10 hl10 (by omega)]
  simp only [Option.bind_some]
  unfold rwB scB
  generalize decide (l8.length = m8.length) = x8
  generalize decide (l9.length = m9.length) = x9
  generalize decide (l10.length = m10.length) = x10
  generalize (a2 == b2 && a3 == b3) = y2
  generalize (a4 == b4 && a5 == b5) = y4
  by_cases e0 : a0 = b0 <;> by_cases e1 : a1 = b1 <;> by_cases e6 : a6 = b6 <;> cases y2 <;> cases y4 <;> cases x8 <;> cases x9 <;> cases x10 <;> cases a7 <;> cases b7 <;> simp [e0, e1, e6]
theorem same_l1 (a0 a1 a2 a3 a4 a5 a6 : Int) (a7 : Bool) (b0 b1 b2 b3 b4 b5 b6 : Int) (b7 : Bool) (l8 m8 : List S76) (l9 m9 : List S92) (l10 : List Int) (hl : l10.length ≤ 1000) (d : Nat) : ∀ (k i : Nat), i + d = l10.length → d + 1 ≤ k →
    winnowref05_Same.l1 k i a0 a1 a2 a3 a4 a5 a6 a7 l8 l9 l10 b0 b1 b2 b3 b4 b5 b6 b7 m8 m9 l10 = some (scB a0 a1 a2 a3 a4 a5 a6 a7 b0 b1 b2 b3 b4 b5 b6 b7) := by
  induction d with
  | zero =>
    intro k i hi hk; obtain ⟨k, rfl⟩ : ∃ m, k = m + 1 := ⟨k - 1, by omega⟩
    rw [winnowref05_Same.l1, if_neg (by omega)]
    unfold scB
    generalize (a2 == b2 && a3 == b3) = y2
    generalize (a4 == b4 && a5 == b5) = y4
    by_cases e0 : a0 = b0 <;> by_cases e1 : a1 = b1 <;> by_cases e6 : a6 = b6 <;> cases y2 <;> cases y4 <;> simp [e0, e1, e6]
  | succ d ih =>
    intro k i hi hk; obtain ⟨k, rfl⟩ : ∃ m, k = m + 1 := ⟨k - 1, by omega⟩
    rw [winnowref05_Same.l1, if_pos (by omega), if_pos (by omega), if_pos (by omega), if_pos rfl, mwadd (by omega)]; exact ih k (i + 1) (by omega) (by omega)
theorem same_l0 (a0 a1 a2 a3 a4 a5 a6 : Int) (a7 : Bool) (b0 b1 b2 b3 b4 b5 b6 : Int) (b7 : Bool) (l8 m8 : List S76) (l9 : List S92) (l10 : List Int) (hl9 : l9.length ≤ 1000) (hl : l10.length ≤ 1000) (d : Nat) : ∀ (k i : Nat), i + d = l9.length → d + 1002 ≤ k →
    winnowref05_Same.l0 k i a0 a1 a2 a3 a4 a5 a6 a7 l8 l9 l10 b0 b1 b2 b3 b4 b5 b6 b7 m8 l9 l10 = some (scB a0 a1 a2 a3 a4 a5 a6 a7 b0 b1 b2 b3 b4 b5 b6 b7) := by
  induction d with
  | zero =>
    intro k i hi hk; obtain ⟨k, rfl⟩ : ∃ m, k = m + 1 := ⟨k - 1, by omega⟩
    rw [winnowref05_Same.l0, if_neg (by omega)]
    exact same_l1 a0 a1 a2 a3 a4 a5 a6 a7 b0 b1 b2 b3 b4 b5 b6 b7 l8 m8 l9 l9 l10 hl l10.length k 0 (by omega) (by omega)
  | succ d ih =>
    intro k i hi hk; obtain ⟨k, rfl⟩ : ∃ m, k = m + 1 := ⟨k - 1, by omega⟩
    rw [winnowref05_Same.l0, if_pos (by omega), if_pos (by omega), if_pos (by omega), if_neg (by simp), mwadd (by omega)]; exact ih k (i + 1) (by omega) (by omega)
theorem same_eq_ (a0 a1 a2 a3 a4 a5 a6 : Int) (a7 : Bool) (b0 b1 b2 b3 b4 b5 b6 : Int) (b7 : Bool) {l8 m8 : List S76} {l9 m9 : List S92} {l10 m10 : List Int} (h8 : m8 = l8 ∨ m8 = []) (h9 : m9 = l9 ∨ m9 = []) (h10 : m10 = l10 ∨ m10 = []) (hl8 : l8.length ≤ 1000) (hl9 : l9.length ≤ 1000) (hl10 : l10.length ≤ 1000) {k : Nat} (hk : 3000 ≤ k) :
    winnowref05_Same.f k a0 a1 a2 a3 a4 a5 a6 a7 l8 l9 l10 b0 b1 b2 b3 b4 b5 b6 b7 m8 m9 m10 = some (rwB l8 m8 l9 m9 l10 m10 && scB a0 a1 a2 a3 a4 a5 a6 a7 b0 b1 b2 b3 b4 b5 b6 b7) := by
  obtain ⟨k, rfl⟩ : ∃ m, k = m + 1 := ⟨k - 1, by omega⟩
  unfold winnowref05_Same.f rwB
  rw [s03_eq h8 hl8 (by omega)]
  simp only [Option.bind_some]
  have bad : ∀ {x : Bool}, x = true → winnowref05_Same.j0 (k + 1) x a0 a1 a2 a3 a4 a5 a6 a7 l8 l9 l10 b0 b1 b2 b3 b4 b5 b6 b7 m8 m9 m10 = some false := fun hx => by
    rw [hx, winnowref05_Same.j0, if_pos rfl]
  by_cases e9 : l9.length = m9.length
  · rw [if_pos (by omega), decide_eq_true e9]
    by_cases e10 : l10.length = m10.length
    · rw [if_pos (by omega), decide_eq_true e10]
      have q9 : m9 = l9 := h9.elim id (fun h => by subst h; exact (List.eq_nil_of_length_eq_zero (by simpa using e9)).symm)
      have q10 : m10 = l10 := h10.elim id (fun h => by subst h; exact (List.eq_nil_of_length_eq_zero (by simpa using e10)).symm)
      subst q9 q10
      by_cases e8 : l8.length = m8.length
      · rw [decide_eq_true e8, Bool.not_true, winnowref05_Same.j0, if_neg (by decide), Bool.true_and, Bool.true_and, Bool.true_and]
        exact same_l0 a0 a1 a2 a3 a4 a5 a6 a7 b0 b1 b2 b3 b4 b5 b6 b7 l8 m8 m9 m10 hl9 hl10 m9.length k 0 (by omega) (by omega)
      · rw [decide_eq_false e8, Bool.not_false, bad rfl]; rfl
    · rw [if_neg (by omega), decide_eq_false e10, bad rfl]; simp
  · rw [if_neg (by omega), decide_eq_false e9, bad rfl]; simp
/-! ### the spans of a packet -/
def rN (s : S76) : Int := (rightN s.f0 s.f1 s.f3 s.f4 s.f5 s.f6).getD 0
theorem rN_eq (s : S76) : rightN s.f0 s.f1 s.f3 s.f4 s.f5 s.f6 = some (rN s) := by
  obtain ⟨v, hv⟩ := rightN_some s.f0 s.f1 s.f3 s.f4 s.f5 s.f6
  unfold rN
  rw [hv]; rfl
def goB (tr : Int) : List Int → List S76 → Bool
  | _, [] => true
  | met, s :: t => if rN s = 0 then (if s.f0 = tr then (if s.f1 ∈ met then false else goB tr (met ++ [s.f1]) t) else false) else false
theorem go_eq (tr : Int) : ∀ (l : List S76) (met : List Int), message_spans.go tr met l = some (goB tr met l)
  | [], _ => rfl
  | s :: t, met => by
    rw [message_spans.go, goB, right_eq _ _ _ _ _ _ _ _ (by omega), rN_eq]
    simp only [Option.bind_some]
    by_cases h : rN s = 0
    · rw [if_pos h, if_pos h]
      by_cases h1 : s.f0 = tr
      · rw [if_pos h1, if_pos h1]
        by_cases h2 : s.f1 ∈ met
        · rw [if_pos h2, if_pos h2]
        · rw [if_neg h2, if_neg h2]; exact go_eq tr t _
      · rw [if_neg h1, if_neg h1]
    · rw [if_neg h, if_neg h]
def lnB (n : Nat) : Bool := decide (0 < n) && decide (n ≤ 16)
theorem ms_eq (tr : Int) (l : List S76) (hl : l.length ≤ 40) (hw : ∀ s ∈ l, 0 ≤ s.f1 ∧ s.f1 < 18446744073709551616) : message_spans.f tr l = some (goB tr [] l && lnB l.length) := by
  unfold message_spans.f
  rw [if_pos ⟨by omega, hw⟩, go_eq]
  rfl
/-! ### the members, and the ids -/
def riseB : Int → List Int → Bool
  | _, [] => true
  | a, y :: l => decide (a < y) && riseB y l
def oddB (s : S92) : Bool := s.f1 == 0 || (decide (s.f2 < 0) || decide (s.f2 > 2))
theorem lnB_if (n : Nat) : (if (n : Int) > 0 then some (decide ((n : Int) ≤ 16)) else some false) = some (lnB n) := by
  unfold lnB
  by_cases h : 0 < n
  · rw [if_pos (by omega), decide_eq_true h, Bool.true_and]; congr 1; rw [decide_eq_decide]; omega
  · rw [if_neg (by omega), decide_eq_false h, Bool.false_and]
theorem m62_l (l : List S92) (hl : l.length ≤ 1000) (d : Nat) : ∀ (k i : Nat) (a : Int), i + d = l.length → d + 1 ≤ k → api_Member_62.l0 k l 16 a l (l.length : Int) i = some (riseB a ((l.drop i).map (·.f0)) && lnB l.length) := by
  induction d with
  | zero =>
    intro k i a hi hk; obtain ⟨k, rfl⟩ : ∃ m, k = m + 1 := ⟨k - 1, by omega⟩
    rw [api_Member_62.l0, if_neg (by omega), List.drop_of_length_le (by omega), List.map_nil, riseB, Bool.true_and]
    exact lnB_if _
  | succ d ih =>
    intro k i a hi hk; obtain ⟨k, rfl⟩ : ∃ m, k = m + 1 := ⟨k - 1, by omega⟩
    rw [api_Member_62.l0, if_pos (by omega), if_pos (by omega), if_pos (by omega), rd92, mdrop l z92 (show i < l.length by omega), List.map_cons, riseB]
    unfold message_right_2.f
    simp only [Option.bind_some]
    by_cases h : (l.getD i z92).f0 ≤ a
    · rw [if_pos h, decide_eq_false (by omega), Bool.false_and, Bool.false_and]
    · rw [if_neg h, decide_eq_true (by omega), Bool.true_and, mwadd (by omega)]; exact ih k (i + 1) _ (by omega) (by omega)
theorem m62_eq (l : List S92) (hl : l.length ≤ 1000) : api_Member_62.f 2000 l 16 = some (riseB 0 (l.map (·.f0)) && lnB l.length) := by
  unfold api_Member_62.f
  exact m62_l l hl l.length 2000 0 0 (by omega) (by omega)
theorem m95_l (l : List S92) (hl : l.length ≤ 1000) (d : Nat) : ∀ (k i : Nat), i + d = l.length → d + 1 ≤ k → ∃ v, api_Member_95.l0 k l (l.length : Int) i = some v ∧ decide (v ≥ 0) = (l.drop i).any oddB := by
  induction d with
  | zero =>
    intro k i hi hk; obtain ⟨k, rfl⟩ : ∃ m, k = m + 1 := ⟨k - 1, by omega⟩
    exact ⟨-1, by rw [api_Member_95.l0, if_neg (by omega)], by rw [List.drop_of_length_le (by omega)]; decide⟩
  | succ d ih =>
    intro k i hi hk; obtain ⟨k, rfl⟩ : ∃ m, k = m + 1 := ⟨k - 1, by omega⟩
    have ho : message_right_1.f (l.getD i z92).f0 (l.getD i z92).f1 (l.getD i z92).f2 = some (oddB (l.getD i z92)) := by
      unfold message_right_1.f oddB
      by_cases h1 : (l.getD i z92).f1 = 0
      · rw [if_pos h1, beq_iff_eq.2 h1, Bool.true_or]
      · rw [if_neg h1, beq_eq_false_iff_ne.2 h1, Bool.false_or]
        by_cases h2 : (l.getD i z92).f2 < 0
        · rw [if_pos h2, decide_eq_true h2, Bool.true_or]
        · rw [if_neg h2, decide_eq_false h2, Bool.false_or]
    rw [api_Member_95.l0, if_pos (by omega), if_pos (by omega), if_pos (by omega), rd92, ho, mdrop l z92 (show i < l.length by omega), List.any_cons]
    simp only [Option.bind_some]
    by_cases h : oddB (l.getD i z92) = true
    · exact ⟨(i : Int), by rw [if_pos h], by rw [h, Bool.true_or, decide_eq_true (by omega)]⟩
    · obtain ⟨v, h1, h2⟩ := ih k (i + 1) (by omega) (by omega)
      exact ⟨v, by rw [if_neg h, mwadd (by omega)]; exact h1, by rw [eq_false_of_ne_true h, Bool.false_or]; exact h2⟩
theorem m64_eq (l : List S92) (hl : l.length ≤ 1000) : api_Member_64.f 2000 l = some (l.any oddB) := by
  unfold api_Member_64.f api_Member_95.f
  obtain ⟨v, h1, h2⟩ := m95_l l hl l.length 2000 0 (by omega) (by omega)
  rw [Int.natCast_zero] at h1
  rw [h1]
  simp only [Option.bind_some]
  rw [h2, List.drop_zero]
theorem mr_l (l : List Int) (hl : l.length ≤ 1000) (d : Nat) : ∀ (k i : Nat) (a : Int), i + d = l.length → d + 1 ≤ k → message_rise_uint64.l0 k l 16 a l (l.length : Int) i = some (riseB a (l.drop i) && lnB l.length) := by
  induction d with
  | zero =>
    intro k i a hi hk; obtain ⟨k, rfl⟩ : ∃ m, k = m + 1 := ⟨k - 1, by omega⟩
    rw [message_rise_uint64.l0, if_neg (by omega), List.drop_of_length_le (by omega), riseB, Bool.true_and]
    exact lnB_if _
  | succ d ih =>
    intro k i a hi hk; obtain ⟨k, rfl⟩ : ∃ m, k = m + 1 := ⟨k - 1, by omega⟩
    rw [message_rise_uint64.l0, if_pos (by omega), if_pos (by omega), if_pos (by omega), rdi, mdrop l 0 (show i < l.length by omega), riseB]
    unfold message_right_3.f
    simp only [Option.bind_some]
    by_cases h : l.getD i 0 ≤ a
    · rw [if_pos h, decide_eq_false (by omega), Bool.false_and, Bool.false_and]
    · rw [if_neg h, decide_eq_true (by omega), Bool.true_and, mwadd (by omega)]; exact ih k (i + 1) _ (by omega) (by omega)
theorem mr_eq (l : List Int) (hl : l.length ≤ 1000) : message_rise_uint64.f 2000 l 16 = some (riseB 0 l && lnB l.length) := by
  unfold message_rise_uint64.f
  exact mr_l l hl l.length 2000 0 0 (by omega) (by omega)
theorem fin_eq (b x : Bool) : message_Right.fin b (some x) = some (if (b && x) = true then 0 else 6) := by
  cases b <;> cases x <;> rfl
/-! ### light packets -/
theorem light_l (l8 : List S76) (hl : l8.length ≤ 40) (a0 a1 a2 a3 a4 a5 a6 : Int) (a7 : Bool) (l9 : List S92) (l10 : List Int) (d : Nat) : ∀ (k i : Nat), i + d = l8.length → d + 1 ≤ k → ∃ b, winnowlaw05_Light.l0 k i a0 a1 a2 a3 a4 a5 a6 a7 l8 l9 l10 = some b := by
  induction d with
  | zero =>
    intro k i hi hk; obtain ⟨k, rfl⟩ : ∃ m, k = m + 1 := ⟨k - 1, by omega⟩
    exact ⟨true, by rw [winnowlaw05_Light.l0, if_neg (by omega)]⟩
  | succ d ih =>
    intro k i hi hk; obtain ⟨k, rfl⟩ : ∃ m, k = m + 1 := ⟨k - 1, by omega⟩
    rw [winnowlaw05_Light.l0, if_pos (by omega), if_pos (by omega)]
    by_cases h1 : (((rd_T76 l8 (i : Int)).f6).size : Int) > 200
    · exact ⟨false, by rw [if_pos h1]⟩
    rw [if_neg h1]
    by_cases h2 : (((rd_T76 l8 (i : Int)).f5).size : Int) > 200
    · exact ⟨false, by rw [if_pos h2]⟩
    rw [if_neg h2, mwadd (by omega)]
    exact ih k (i + 1) (by omega) (by omega)
theorem light_eq (a0 a1 a2 a3 a4 a5 a6 : Int) (a7 : Bool) (l8 : List S76) (l9 : List S92) (l10 : List Int) {k : Nat} (hk : 100 ≤ k) : ∃ b, winnowlaw05_Light.f k a0 a1 a2 a3 a4 a5 a6 a7 l8 l9 l10 = some b ∧ (b = true → l8.length ≤ 40 ∧ l9.length ≤ 100 ∧ l10.length ≤ 100) := by
  obtain ⟨k, rfl⟩ : ∃ m, k = m + 1 := ⟨k - 1, by omega⟩
  have hb : winnowlaw05_Light.j0 (k + 1) true a0 a1 a2 a3 a4 a5 a6 a7 l8 l9 l10 = some false := by rw [winnowlaw05_Light.j0, if_pos rfl]
  unfold winnowlaw05_Light.f
  by_cases h8 : (l8.length : Int) > 40
  · exact ⟨false, by rw [if_pos h8, hb], fun h => absurd h (by decide)⟩
  by_cases h9 : (l9.length : Int) > 100
  · exact ⟨false, by rw [if_neg h8, if_pos h9, hb], fun h => absurd h (by decide)⟩
  by_cases h10 : (l10.length : Int) > 100
  · exact ⟨false, by rw [if_neg h8, if_neg h9, decide_eq_true h10, hb], fun h => absurd h (by decide)⟩
  obtain ⟨b, hb⟩ := light_l l8 (by omega) a0 a1 a2 a3 a4 a5 a6 a7 l9 l10 l8.length k 0 (by omega) (by omega)
  refine ⟨b, ?_, fun _ => ⟨by omega, by omega, by omega⟩⟩
  rw [if_neg h8, if_neg h9, decide_eq_false h10, winnowlaw05_Light.j0, if_neg (by decide)]
  exact hb
/-! ### a number's bytes -/
def be8 (n : Int) : List Int := [n / 72057594037927936 % 256, n / 281474976710656 % 256, n / 1099511627776 % 256, n / 4294967296 % 256, n / 16777216 % 256, n / 65536 % 256, n / 256 % 256, n % 256]
theorem shr8 (n : Int) (j : Nat) (hj : j ≤ 56) (w : Int) (hw : w = (j : Int)) : shr .u64 n (IntKind.u64.wrap w) = n / 2 ^ j := by
  have e : IntKind.u64.wrap w = (j : Int) := by
    rw [hw]
    simp [IntKind.wrap, IntKind.signed, IntKind.bits]
    omega
  unfold shr
  rw [e]
  congr 2
  show min (j : Int).toNat 64 = j
  omega
theorem wrapu {w : Int} (h0 : 0 ≤ w) (h1 : w ≤ 56) : 0 ≤ IntKind.u64.wrap w := by
  simp [IntKind.wrap, IntKind.signed, IntKind.bits]
  omega
theorem put_step {k : Nat} {l : List Int} {n : Int} (j : Nat) (hj : j ≤ 56) (hl : l.length < 140737488355328) (r : Int) (hr : r = (j : Int) - 8) : num_Put64.l0 (k + 1) l n (j : Int) = num_Put64.l0 k (l ++ [n / 2 ^ j % 256]) n r := by
  subst hr
  rw [num_Put64.l0, if_pos (by omega), if_pos (wrapu (by omega) (by omega)), if_pos hl, shr8 n j hj _ rfl]
  congr 1
  unfold wrap64
  omega
theorem put64_eq {l : List Int} (hl : l.length + 8 ≤ 140737488355328) (n : Int) {k : Nat} (hk : 9 ≤ k) : num_Put64.f k l n = some (l ++ be8 n) := by
  obtain ⟨k, rfl⟩ : ∃ j, k = j + 1 + 1 + 1 + 1 + 1 + 1 + 1 + 1 + 1 := ⟨k - 9, by omega⟩
  unfold num_Put64.f
  rw [show (56 : Int) = ((56 : Nat) : Int) from rfl, put_step 56 (by omega) (by omega) ((48 : Nat) : Int) (by omega), put_step 48 (by omega) (by simp; omega) ((40 : Nat) : Int) (by omega), put_step 40 (by omega) (by simp; omega) ((32 : Nat) : Int) (by omega),
    put_step 32 (by omega) (by simp; omega) ((24 : Nat) : Int) (by omega), put_step 24 (by omega) (by simp; omega) ((16 : Nat) : Int) (by omega), put_step 16 (by omega) (by simp; omega) ((8 : Nat) : Int) (by omega), put_step 8 (by omega) (by simp; omega) ((0 : Nat) : Int) (by omega), put_step 0 (by omega) (by simp; omega) (-8) (by omega), num_Put64.l0, if_neg (by omega)]
  simp [be8]
theorem be8_len (n : Int) : (be8 n).length = 8 := rfl
/-- A text behind its length. -/
def txt (s : ByteArray) : List Int := (s.size : Int) % 256 :: bytesOf s
theorem txt_len (s : ByteArray) : (txt s).length = s.size + 1 := by simp [txt, bytesOf_length]
/-- A span's bytes. -/
def spanL (a0 a1 a2 a3 a4 : Int) (a5 a6 : ByteArray) (a7 : Bool) : List Int := be8 a0 ++ be8 a1 ++ be8 a2 ++ be8 a3 ++ be8 a4 ++ [if a7 = true then 1 else 0] ++ txt a5 ++ txt a6
theorem spanL_len (a0 a1 a2 a3 a4 : Int) (a5 a6 : ByteArray) (a7 : Bool) : (spanL a0 a1 a2 a3 a4 a5 a6 a7).length = 43 + a5.size + a6.size := by simp [spanL, be8_len, txt_len]; omega
/-- The bytes of a span behind some, or why there are none. -/
def putN (l : List Int) (a0 a1 a2 a3 a4 : Int) (a5 a6 : ByteArray) (a7 : Bool) : Option (List Int × Int) := (rightN a0 a1 a3 a4 a5 a6).bind fun v => some (if v = 0 then (l ++ spanL a0 a1 a2 a3 a4 a5 a6 a7, 0) else ([], v))
theorem sput_eq (l : List Int) (a0 a1 a2 a3 a4 : Int) (a5 a6 : ByteArray) (a7 : Bool) (hl : l.length ≤ 1000000000) (h5 : a5.size ≤ 100000) (h6 : a6.size ≤ 100000) : span_Put.f l a0 a1 a2 a3 a4 a5 a6 a7 = putN l a0 a1 a2 a3 a4 a5 a6 a7 := by
  unfold span_Put.f putN
  obtain ⟨v, hv⟩ := rightN_some a0 a1 a3 a4 a5 a6
  rw [right_eq _ _ _ _ _ _ _ _ (by omega), hv]
  simp only [Option.bind_some]
  by_cases h : v = 0
  · rw [if_pos h, if_pos h]
    unfold slices_Clone_byte_byte.f
    rw [if_pos (by omega)]
    have e : span_Put.to l [a0, a1, a2, a3, a4] 5 = some (l ++ be8 a0 ++ be8 a1 ++ be8 a2 ++ be8 a3 ++ be8 a4) := by
      simp only [span_Put.to, Option.bind_some]
      have r : ∀ (i : Nat) (x : Int), ([a0, a1, a2, a3, a4] : List Int)[i]? = some x → rd [a0, a1, a2, a3, a4] (i : Int) = x := fun i x hx => by simp [rd, List.getD_eq_getElem?_getD, hx]
      rw [r 0 a0 rfl, r 1 a1 rfl, r 2 a2 rfl, r 3 a3 rfl, r 4 a4 rfl]
      rw [put64_eq (by omega) _ (by omega)]
      simp only [Option.bind_some]
      rw [put64_eq (by simp [be8_len]; omega) _ (by omega)]
      simp only [Option.bind_some]
      rw [put64_eq (by simp [be8_len]; omega) _ (by omega)]
      simp only [Option.bind_some]
      rw [put64_eq (by simp [be8_len]; omega) _ (by omega)]
      simp only [Option.bind_some]
      rw [put64_eq (by simp [be8_len]; omega) _ (by omega)]
    simp only [Option.bind_some]
    rw [e]
    simp only [Option.bind_some]
    rw [if_pos (by simp [be8_len]; omega)]
    have e1 : rdOf ByteArray.empty [a5, a6] ((0 : Nat) : Int) = a5 := rfl
    have e2 : rdOf ByteArray.empty [a5, a6] ((1 : Nat) : Int) = a6 := rfl
    simp only [span_Put.tx, e1, e2, spanL, txt, List.append_assoc, List.cons_append, List.nil_append]
  · rw [if_neg h, if_neg h]
end Go.Proofs.Ytlpnpnjjmpkapaa.PAll
