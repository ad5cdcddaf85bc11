/-
  The plain law MessageApart: right packets that are not the same have other bytes.
  Conditions: numbers of their kinds.
-/
import Derived.Test.YtlpnpnjjmpkapaaMsgPay
import Derived.Laws.Strings
import Derived.WideShapes
import Derived.Test.YtlpnpnjjmpkapaaPAllx13
import Derived.Test.YtlpnpnjjmpkapaaPAllx14
import Derived.Test.YtlpnpnjjmpkapaaPAllx15
import Derived.Test.YtlpnpnjjmpkapaaPAllx16
import Derived.Test.YtlpnpnjjmpkapaaPAllx17
namespace Go.Proofs.Ytlpnpnjjmpkapaa.PAll
open Go.RowKit Go.Lib Go.Proofs.YtlpnpnjjmpkapaaW.PrintWords Go.Proofs.YtlpnpnjjmpkapaaW.PrintLast Go.Proofs.YtlpnpnjjmpkapaaW.PrintMore
set_option linter.unusedVariables false
set_option linter.unusedSimpArgs false
theorem tl_inj {a b : ByteArray} (h : a.toList = b.toList) : a = b := Go.WideShapes.bytes_inj (by rw [← ByteArray.toList_eq, ← ByteArray.toList_eq]; exact h)
/-! ### the document's Same tells no others the same -/
theorem sp_any (l m : List S76) (hlm : l.length = m.length) (hl : l.length ≤ 1000) (d : Nat) : ∀ (k i : Nat), i + d = l.length → d + 1 ≤ k → ∃ b, winnowref03_Spans.l0 k l m i = some b ∧ (b = true → l.drop i = m.drop i) := by
 induction d with
 | zero =>
  intro k i hi hk; obtain ⟨k, rfl⟩ : ∃ m, k = m + 1 := ⟨k - 1, by omega⟩
  rw [winnowref03_Spans.l0, if_neg (by omega)]
  exact ⟨true, rfl, fun _ => by rw [List.drop_of_length_le (by omega), List.drop_of_length_le (by omega)]⟩
 | succ d ih =>
  intro k i hi hk; obtain ⟨k, rfl⟩ : ∃ m, k = m + 1 := ⟨k - 1, by omega⟩
  rw [winnowref03_Spans.l0, if_pos (by omega), if_pos (by omega), if_pos (by omega), mdrop l z76 (by omega), mdrop m z76 (by omega), rd76, rd76, mwadd (by omega)]
  obtain ⟨b, hb, hb2⟩ := ih k (i + 1) (by omega) (by omega)
  generalize l.getD i z76 = x
  generalize m.getD i z76 = y
  obtain ⟨x0, x1, x2, x3, x4, x5, x6, x7⟩ := x
  obtain ⟨y0, y1, y2, y3, y4, y5, y6, y7⟩ := y
  simp only
  by_cases c : (!(x0 == y0) || (!(x1 == y1) || (!(x2 == y2) || (!(x3 == y3) || (!(x4 == y4) || (!(x5.toList == y5.toList) || (!(x6.toList == y6.toList) || !(x7 == y7)))))))) = true
  ·rw [if_pos c]
   exact ⟨false, rfl, fun h => by cases h⟩
  ·rw [if_neg c]
   simp only [Bool.or_eq_true, Bool.not_eq_true', beq_eq_false_iff_ne, not_or, ne_eq, Decidable.not_not] at c
   obtain ⟨rfl, rfl, rfl, rfl, rfl, c5, c6, rfl⟩ := c
   obtain rfl := tl_inj c5
   obtain rfl := tl_inj c6
   exact ⟨b, hb, fun h => by rw [hb2 h]⟩
theorem sl1_any (a0 a1 a2 a3 a4 a5 a6 : Int) (a7 : Bool) (b0 b1 b2 b3 b4 b5 b6 : Int) (b7 : Bool) (l8 m8 : List S76) (l9 m9 : List S92) (l10 m10 : List Int) (hlm : l10.length = m10.length) (hl : l10.length ≤ 1000) (d : Nat) : ∀ (k i : Nat), i + d = l10.length → d + 1 ≤ k →
  ∃ b, winnowref05_Same.l1 k i a0 a1 a2 a3 a4 a5 a6 a7 l8 l9 l10 b0 b1 b2 b3 b4 b5 b6 b7 m8 m9 m10 = some b ∧ (b = true → l10.drop i = m10.drop i ∧ scB a0 a1 a2 a3 a4 a5 a6 a7 b0 b1 b2 b3 b4 b5 b6 b7 = true) := by
 induction d with
 | zero =>
  intro k i hi hk; obtain ⟨k, rfl⟩ : ∃ m, k = m + 1 := ⟨k - 1, by omega⟩
  refine ⟨scB a0 a1 a2 a3 a4 a5 a6 a7 b0 b1 b2 b3 b4 b5 b6 b7, ?_, fun h => ⟨by rw [List.drop_of_length_le (by omega), List.drop_of_length_le (by omega)], h⟩⟩
  rw [winnowref05_Same.l1, if_neg (by omega)]
  unfold scB
  generalize (a2 == b2 && a3 == b3) = y2
  generalize (a4 == b4 && a5 == b5) = y4
  by_cases e0 : a0 = b0 <;> by_cases e1 : a1 = b1 <;> by_cases e6 : a6 = b6 <;> cases y2 <;> cases y4 <;> simp [e0, e1, e6]
 | succ d ih =>
  intro k i hi hk; obtain ⟨k, rfl⟩ : ∃ m, k = m + 1 := ⟨k - 1, by omega⟩
  rw [winnowref05_Same.l1, if_pos (by omega), if_pos (by omega), if_pos (by omega), mdrop l10 0 (by omega), mdrop m10 0 (by omega), rdi, rdi, mwadd (by omega)]
  obtain ⟨b, hb, hb2⟩ := ih k (i + 1) (by omega) (by omega)
  by_cases c : l10.getD i 0 = m10.getD i 0
  ·rw [if_pos c]
   exact ⟨b, hb, fun h => ⟨by rw [c, (hb2 h).1], (hb2 h).2⟩⟩
  ·rw [if_neg c]
   exact ⟨false, rfl, fun h => by cases h⟩
theorem sl0_any (a0 a1 a2 a3 a4 a5 a6 : Int) (a7 : Bool) (b0 b1 b2 b3 b4 b5 b6 : Int) (b7 : Bool) (l8 m8 : List S76) (l9 m9 : List S92) (l10 m10 : List Int) (h9 : l9.length = m9.length) (hl9 : l9.length ≤ 1000) (hlm : l10.length = m10.length) (hl : l10.length ≤ 1000) (d : Nat) : ∀ (k i : Nat), i + d = l9.length → d + 1002 ≤ k →
  ∃ b, winnowref05_Same.l0 k i a0 a1 a2 a3 a4 a5 a6 a7 l8 l9 l10 b0 b1 b2 b3 b4 b5 b6 b7 m8 m9 m10 = some b ∧ (b = true → l9.drop i = m9.drop i ∧ l10 = m10 ∧ scB a0 a1 a2 a3 a4 a5 a6 a7 b0 b1 b2 b3 b4 b5 b6 b7 = true) := by
 induction d with
 | zero =>
  intro k i hi hk; obtain ⟨k, rfl⟩ : ∃ m, k = m + 1 := ⟨k - 1, by omega⟩
  obtain ⟨b, hb, hb2⟩ := sl1_any a0 a1 a2 a3 a4 a5 a6 a7 b0 b1 b2 b3 b4 b5 b6 b7 l8 m8 l9 m9 l10 m10 hlm hl l10.length k 0 (by omega) (by omega)
  rw [winnowref05_Same.l0, if_neg (by omega)]
  exact ⟨b, hb, fun h => ⟨by rw [List.drop_of_length_le (by omega), List.drop_of_length_le (by omega)], by simpa using (hb2 h).1, (hb2 h).2⟩⟩
 | succ d ih =>
  intro k i hi hk; obtain ⟨k, rfl⟩ : ∃ m, k = m + 1 := ⟨k - 1, by omega⟩
  rw [winnowref05_Same.l0, if_pos (by omega), if_pos (by omega), if_pos (by omega), mdrop l9 z92 (by omega), mdrop m9 z92 (by omega), rd92, rd92, mwadd (by omega)]
  obtain ⟨b, hb, hb2⟩ := ih k (i + 1) (by omega) (by omega)
  generalize l9.getD i z92 = x
  generalize m9.getD i z92 = y
  obtain ⟨x0, x1, x2⟩ := x
  obtain ⟨y0, y1, y2⟩ := y
  simp only
  by_cases c : (!(x0 == y0) || (!(x1 == y1) || !(x2 == y2))) = true
  ·rw [if_pos c]
   exact ⟨false, rfl, fun h => by cases h⟩
  ·rw [if_neg c]
   simp only [Bool.or_eq_true, Bool.not_eq_true', beq_eq_false_iff_ne, not_or, ne_eq, Decidable.not_not] at c
   obtain ⟨rfl, rfl, rfl⟩ := c
   exact ⟨b, hb, fun h => ⟨by rw [(hb2 h).1], (hb2 h).2⟩⟩
theorem same_any (a0 a1 a2 a3 a4 a5 a6 : Int) (a7 : Bool) (b0 b1 b2 b3 b4 b5 b6 : Int) (b7 : Bool) {l8 m8 : List S76} {l9 m9 : List S92} {l10 m10 : List Int} (hl8 : l8.length ≤ 1000) (hl9 : l9.length ≤ 1000) (hl10 : l10.length ≤ 1000) {k : Nat} (hk : 3000 ≤ k) :
  ∃ b, winnowref05_Same.f k a0 a1 a2 a3 a4 a5 a6 a7 l8 l9 l10 b0 b1 b2 b3 b4 b5 b6 b7 m8 m9 m10 = some b ∧ (b = true → l8 = m8 ∧ l9 = m9 ∧ l10 = m10 ∧ scB a0 a1 a2 a3 a4 a5 a6 a7 b0 b1 b2 b3 b4 b5 b6 b7 = true) := by
 obtain ⟨k, rfl⟩ : ∃ m, k = m + 1 := ⟨k - 1, by omega⟩
 have bad : winnowref05_Same.j0 (k + 1) true a0 a1 a2 a3 a4 a5 a6 a7 l8 l9 l10 b0 b1 b2 b3 b4 b5 b6 b7 m8 m9 m10 = some false := by
  rw [winnowref05_Same.j0, if_pos rfl]
 unfold winnowref05_Same.f
 by_cases e9 : l9.length = m9.length
 ·rw [if_pos (by omega)]
  by_cases e10 : l10.length = m10.length
  ·rw [if_pos (by omega)]
   unfold winnowref03_Spans.f
   by_cases e8 : l8.length = m8.length
   ·rw [if_pos (by omega)]
    obtain ⟨b, hb, hb2⟩ := sp_any l8 m8 e8 hl8 l8.length (k + 1) 0 (by omega) (by omega)
    rw [show ((0 : Nat) : Int) = 0 from rfl] at hb
    rw [hb]
    simp only [Option.bind_some]
    cases b
    ·exact ⟨false, bad, fun h => by cases h⟩
    ·rw [Bool.not_true, winnowref05_Same.j0, if_neg (by decide)]
     obtain ⟨c, hc, hc2⟩ := sl0_any a0 a1 a2 a3 a4 a5 a6 a7 b0 b1 b2 b3 b4 b5 b6 b7 l8 m8 l9 m9 l10 m10 e9 hl9 e10 hl10 l9.length k 0 (by omega) (by omega)
     exact ⟨c, hc, fun h => ⟨by simpa using hb2 rfl, by simpa using (hc2 h).1, (hc2 h).2⟩⟩
   ·rw [if_neg (by omega)]
    exact ⟨false, bad, fun h => by cases h⟩
  ·rw [if_neg (by omega)]
   exact ⟨false, bad, fun h => by cases h⟩
 ·rw [if_neg (by omega)]
  exact ⟨false, bad, fun h => by cases h⟩
/-! ### the bytes tell the packet -/
def R64 (n : Int) : Prop := 0 ≤ n ∧ n < 18446744073709551616
theorem be8_inj {n m : Int} {x y : List Int} (hn : R64 n) (hm : R64 m) (h : be8 n ++ x = be8 m ++ y) : n = m ∧ x = y := by
 simp only [be8, List.cons_append, List.nil_append, List.cons.injEq] at h
 obtain ⟨h0, h1, h2, h3, h4, h5, h6, h7, h8⟩ := h
 unfold R64 at hn hm
 exact ⟨by omega, h8⟩
theorem bytesOf_inj {a b : ByteArray} (h : bytesOf a = bytesOf b) : a = b := by
 refine Go.WideShapes.bytes_inj ?_
 unfold bytesOf at h
 generalize a.data.toList = u at h ⊢
 generalize b.data.toList = v at h ⊢
 induction u generalizing v with
 | nil => cases v with | nil => rfl | cons y v => cases h
 | cons x u ih =>
  cases v with
  | nil => cases h
  | cons y v =>
   simp only [List.map_cons, List.cons.injEq] at h
   obtain rfl := ih v h.2
   obtain rfl : x = y := UInt8.toNat_inj.1 (by omega)
   rfl
theorem txt_inj {a b : ByteArray} {x y : List Int} (ha : a.size ≤ 32) (hb : b.size ≤ 32) (h : txt a ++ x = txt b ++ y) : a = b ∧ x = y := by
 simp only [txt, List.cons_append, List.cons.injEq] at h
 obtain ⟨h1, h2⟩ := h
 obtain ⟨h3, h4⟩ := List.append_inj h2 (by rw [bytesOf_length, bytesOf_length]; omega)
 exact ⟨bytesOf_inj h3, h4⟩
def W76 (s : S76) : Prop := R64 s.f0 ∧ R64 s.f1 ∧ R64 s.f2 ∧ R64 s.f3 ∧ R64 s.f4
theorem spB_inj {s t : S76} {x y : List Int} (hs : W76 s ∧ rN s = 0) (ht : W76 t ∧ rN t = 0) (h : spB s ++ x = spB t ++ y) : s = t ∧ x = y := by
 obtain ⟨⟨s0, s1, s2, s3, s4⟩, hs⟩ := hs
 obtain ⟨⟨t0, t1, t2, t3, t4⟩, ht⟩ := ht
 have zs := rN_size hs
 have zt := rN_size ht
 clear hs ht
 obtain ⟨a0, a1, a2, a3, a4, a5, a6, a7⟩ := s
 obtain ⟨b0, b1, b2, b3, b4, b5, b6, b7⟩ := t
 simp only at s0 s1 s2 s3 s4 t0 t1 t2 t3 t4 zs zt
 simp only [spB, spanL, List.append_assoc] at h
 obtain ⟨e0, h1⟩ := be8_inj s0 t0 h
 obtain ⟨e1, h2⟩ := be8_inj s1 t1 h1
 obtain ⟨e2, h3⟩ := be8_inj s2 t2 h2
 obtain ⟨e3, h4⟩ := be8_inj s3 t3 h3
 obtain ⟨e4, h5⟩ := be8_inj s4 t4 h4
 rw [List.singleton_append, List.singleton_append, List.cons.injEq] at h5
 obtain ⟨h7, h6⟩ := h5
 obtain ⟨e5, h8⟩ := txt_inj zs.1 zt.1 h6
 obtain ⟨e6, h9⟩ := txt_inj zs.2 zt.2 h8
 refine ⟨?_, h9⟩
 subst e0 e1 e2 e3 e4 e5 e6
 cases a7 <;> cases b7 <;> first | rfl | exact absurd h7 (by simp)
theorem memL_inj {s t : S92} {x y : List Int} (hs : R64 s.f0 ∧ R64 s.f1 ∧ 0 ≤ s.f2 ∧ s.f2 ≤ 2) (ht : R64 t.f0 ∧ R64 t.f1 ∧ 0 ≤ t.f2 ∧ t.f2 ≤ 2) (h : memL s ++ x = memL t ++ y) : s = t ∧ x = y := by
 obtain ⟨a0, a1, a2⟩ := s
 obtain ⟨b0, b1, b2⟩ := t
 simp only at hs ht
 simp only [memL, List.append_assoc] at h
 obtain ⟨e0, h1⟩ := be8_inj hs.1 ht.1 h
 obtain ⟨e1, h2⟩ := be8_inj hs.2.1 ht.2.1 h1
 rw [List.singleton_append, List.singleton_append, List.cons.injEq] at h2
 have e2 : a2 = b2 := by omega
 subst e0 e1 e2
 exact ⟨rfl, h2.2⟩
theorem flat_inj {α : Type} {f : α → List Int} {P : α → Prop} (hf : ∀ {s t : α} {x y : List Int}, P s → P t → f s ++ x = f t ++ y → s = t ∧ x = y) : ∀ {l m : List α}, l.length = m.length → (∀ s ∈ l, P s) → (∀ s ∈ m, P s) → l.flatMap f = m.flatMap f → l = m
 | [], [], _, _, _, _ => rfl
 | a :: l, b :: m, hlen, hl, hm, h => by
  rw [List.flatMap_cons, List.flatMap_cons] at h
  obtain ⟨e, h2⟩ := hf (hl a (List.mem_cons_self ..)) (hm b (List.mem_cons_self ..)) h
  rw [e, flat_inj hf (by simpa using hlen) (fun s hs => hl s (List.mem_cons_of_mem _ hs)) (fun s hs => hm s (List.mem_cons_of_mem _ hs)) h2]
theorem frameL_inj {d e : List Int} (h : frameL d = frameL e) : d = e := by
 have h1 := congrArg List.length h
 rw [frameL_len, frameL_len] at h1
 unfold frameL at h
 have h2 := (List.append_inj h (by rw [headL_len, headL_len]; omega)).1
 unfold headL at h2
 exact (List.append_inj h2 rfl).2
theorem pay_head (a0 a1 a2 a3 a4 a5 a6 : Int) (a7 : Bool) (l8 : List S76) (l9 : List S92) (l10 : List Int) : ∃ t, payL a0 a1 a2 a3 a4 a5 a6 a7 l8 l9 l10 = a0 :: t := by
 unfold payL
 split
 ·rename_i h
  exact ⟨_, by rw [h]; rfl⟩
 ·exact ⟨_, by rw [List.append_assoc]; rfl⟩
theorem kind_of (a0 a1 a2 a3 a4 a5 a6 : Int) (a7 : Bool) {l8 : List S76} {l9 : List S92} {l10 : List Int} (hl8 : l8.length ≤ 40) (hl9 : l9.length ≤ 100) (hl10 : l10.length ≤ 100)
  (h : message_Right.f a0 a1 a2 a3 a4 a5 a6 a7 l8 l9 l10 = some 0) : 1 ≤ a0 ∧ a0 ≤ 10 := by
 by_cases c : 1 ≤ a0 ∧ a0 ≤ 10
 ·exact c
 exfalso
 unfold message_Right.f at h
 rw [if_pos ⟨by omega, by omega, by omega⟩, if_neg (by omega), if_neg (by omega), if_neg (by omega), if_neg (by omega), if_neg (by omega), if_neg (by omega), if_neg (by omega), if_neg (by omega), if_neg (by omega), if_neg (by omega)] at h
 exact absurd h (by decide)
theorem be8_inj_ {n m : Int} (hn : R64 n) (hm : R64 m) (h : be8 n = be8 m) : n = m := (be8_inj (x := []) (y := []) hn hm (by rw [h])).1
theorem okN_inj {a b : Bool} (h : okN a = okN b) : a = b := by cases a <;> cases b <;> first | rfl | exact absurd h (by decide)
/-- A packet's numbers are of their kinds, and it is light. -/
def WP (a1 a2 a3 a4 a5 : Int) (l8 : List S76) (l9 : List S92) (l10 : List Int) : Prop :=
 R64 a1 ∧ R64 a2 ∧ R64 a3 ∧ R64 a4 ∧ R64 a5 ∧ (∀ s ∈ l8, W76 s) ∧ (∀ s ∈ l9, R64 s.f0 ∧ R64 s.f1) ∧ (∀ n ∈ l10, R64 n)
theorem inj1 (a1 a2 a3 a4 a5 a6 : Int) (a7 : Bool) {l8 : List S76} {l9 : List S92} {l10 : List Int} (hl8 : l8.length ≤ 40) (hl9 : l9.length ≤ 100) (hl10 : l10.length ≤ 100) (wp : WP a1 a2 a3 a4 a5 l8 l9 l10) (b1 b2 b3 b4 b5 b6 : Int) (b7 : Bool) {m8 : List S76} {m9 : List S92} {m10 : List Int} (hm8 : m8.length ≤ 40) (hm9 : m9.length ≤ 100) (hm10 : m10.length ≤ 100) (wq : WP b1 b2 b3 b4 b5 m8 m9 m10)
  (h : message_Right.f 1 a1 a2 a3 a4 a5 a6 a7 l8 l9 l10 = some 0) (g : message_Right.f 1 b1 b2 b3 b4 b5 b6 b7 m8 m9 m10 = some 0) (e : payL 1 a1 a2 a3 a4 a5 a6 a7 l8 l9 l10 = payL 1 b1 b2 b3 b4 b5 b6 b7 m8 m9 m10) :
  a1 = b1 ∧ a2 = b2 ∧ a3 = b3 ∧ a4 = b4 ∧ a5 = b5 ∧ a6 = b6 ∧ a7 = b7 ∧ l8 = m8 ∧ l9 = m9 ∧ l10 = m10 := by
 obtain ⟨p1, p2, p3, p4, p5, p8, p9, p10⟩ := wp
 obtain ⟨q1, q2, q3, q4, q5, q8, q9, q10⟩ := wq
 have w8 : ∀ s ∈ l8, 0 ≤ s.f1 ∧ s.f1 < 18446744073709551616 := fun s hs => (p8 s hs).2.1
 have w8' : ∀ s ∈ m8, 0 ≤ s.f1 ∧ s.f1 < 18446744073709551616 := fun s hs => (q8 s hs).2.1
 obtain ⟨rfl, rfl, rfl, rfl, rfl, rfl, rfl, rfl, _, phg, phl⟩ := good1 a1 a2 a3 a4 a5 a6 a7 hl8 hl9 hl10 w8 h
 obtain ⟨rfl, rfl, rfl, rfl, rfl, rfl, rfl, rfl, _, qhg, qhl⟩ := good1 b1 b2 b3 b4 b5 b6 b7 hm8 hm9 hm10 w8' g
 clear h g
 simp only [payL, ↓reduceIte, Int.reduceEq, or_true, true_or, or_false, false_or, or_self, List.append_assoc] at e
 simp only [List.cons_append, List.nil_append, List.cons.injEq, true_and] at e
 obtain ⟨e1, e⟩ := be8_inj p1 q1 e
 (try simp only [List.cons_append, List.nil_append, List.cons.injEq] at e)
 obtain ⟨en, e⟩ := e
 have e8 := flat_inj (P := fun s => W76 s ∧ rN s = 0) spB_inj (by omega) (fun s hs => ⟨p8 s hs, (goB_all _ _ _ phg s hs).1⟩) (fun s hs => ⟨q8 s hs, (goB_all _ _ _ qhg s hs).1⟩) e
 exact ⟨e1, rfl, rfl, rfl, rfl, rfl, rfl, e8, rfl, rfl⟩
theorem inj2 (a1 a2 a3 a4 a5 a6 : Int) (a7 : Bool) {l8 : List S76} {l9 : List S92} {l10 : List Int} (hl8 : l8.length ≤ 40) (hl9 : l9.length ≤ 100) (hl10 : l10.length ≤ 100) (wp : WP a1 a2 a3 a4 a5 l8 l9 l10) (b1 b2 b3 b4 b5 b6 : Int) (b7 : Bool) {m8 : List S76} {m9 : List S92} {m10 : List Int} (hm8 : m8.length ≤ 40) (hm9 : m9.length ≤ 100) (hm10 : m10.length ≤ 100) (wq : WP b1 b2 b3 b4 b5 m8 m9 m10)
  (h : message_Right.f 2 a1 a2 a3 a4 a5 a6 a7 l8 l9 l10 = some 0) (g : message_Right.f 2 b1 b2 b3 b4 b5 b6 b7 m8 m9 m10 = some 0) (e : payL 2 a1 a2 a3 a4 a5 a6 a7 l8 l9 l10 = payL 2 b1 b2 b3 b4 b5 b6 b7 m8 m9 m10) :
  a1 = b1 ∧ a2 = b2 ∧ a3 = b3 ∧ a4 = b4 ∧ a5 = b5 ∧ a6 = b6 ∧ a7 = b7 ∧ l8 = m8 ∧ l9 = m9 ∧ l10 = m10 := by
 obtain ⟨p1, p2, p3, p4, p5, p8, p9, p10⟩ := wp
 obtain ⟨q1, q2, q3, q4, q5, q8, q9, q10⟩ := wq
 have w8 : ∀ s ∈ l8, 0 ≤ s.f1 ∧ s.f1 < 18446744073709551616 := fun s hs => (p8 s hs).2.1
 have w8' : ∀ s ∈ m8, 0 ≤ s.f1 ∧ s.f1 < 18446744073709551616 := fun s hs => (q8 s hs).2.1
 obtain ⟨rfl, rfl, rfl, rfl, rfl, rfl, rfl, rfl, _, phg, phl⟩ := good2 a1 a2 a3 a4 a5 a6 a7 hl8 hl9 hl10 w8 h
 obtain ⟨rfl, rfl, rfl, rfl, rfl, rfl, rfl, rfl, _, qhg, qhl⟩ := good2 b1 b2 b3 b4 b5 b6 b7 hm8 hm9 hm10 w8' g
 clear h g
 simp only [payL, ↓reduceIte, Int.reduceEq, or_true, true_or, or_false, false_or, or_self, List.append_assoc] at e
 simp only [List.cons_append, List.nil_append, List.cons.injEq, true_and] at e
 obtain ⟨e1, e⟩ := be8_inj p1 q1 e
 (try simp only [List.cons_append, List.nil_append, List.cons.injEq] at e)
 obtain ⟨en, e⟩ := e
 have e8 := flat_inj (P := fun s => W76 s ∧ rN s = 0) spB_inj (by omega) (fun s hs => ⟨p8 s hs, (goB_all _ _ _ phg s hs).1⟩) (fun s hs => ⟨q8 s hs, (goB_all _ _ _ qhg s hs).1⟩) e
 exact ⟨e1, rfl, rfl, rfl, rfl, rfl, rfl, e8, rfl, rfl⟩
theorem inj3 (a1 a2 a3 a4 a5 a6 : Int) (a7 : Bool) {l8 : List S76} {l9 : List S92} {l10 : List Int} (hl8 : l8.length ≤ 40) (hl9 : l9.length ≤ 100) (hl10 : l10.length ≤ 100) (wp : WP a1 a2 a3 a4 a5 l8 l9 l10) (b1 b2 b3 b4 b5 b6 : Int) (b7 : Bool) {m8 : List S76} {m9 : List S92} {m10 : List Int} (hm8 : m8.length ≤ 40) (hm9 : m9.length ≤ 100) (hm10 : m10.length ≤ 100) (wq : WP b1 b2 b3 b4 b5 m8 m9 m10)
  (h : message_Right.f 3 a1 a2 a3 a4 a5 a6 a7 l8 l9 l10 = some 0) (g : message_Right.f 3 b1 b2 b3 b4 b5 b6 b7 m8 m9 m10 = some 0) (e : payL 3 a1 a2 a3 a4 a5 a6 a7 l8 l9 l10 = payL 3 b1 b2 b3 b4 b5 b6 b7 m8 m9 m10) :
  a1 = b1 ∧ a2 = b2 ∧ a3 = b3 ∧ a4 = b4 ∧ a5 = b5 ∧ a6 = b6 ∧ a7 = b7 ∧ l8 = m8 ∧ l9 = m9 ∧ l10 = m10 := by
 obtain ⟨p1, p2, p3, p4, p5, p8, p9, p10⟩ := wp
 obtain ⟨q1, q2, q3, q4, q5, q8, q9, q10⟩ := wq
 obtain ⟨rfl, rfl, rfl, rfl, rfl, rfl, rfl, rfl, rfl, phf, phl⟩ := good3 a1 a2 a3 a4 a5 a6 a7 hl8 hl9 hl10 h
 obtain ⟨rfl, rfl, rfl, rfl, rfl, rfl, rfl, rfl, rfl, qhf, qhl⟩ := good3 b1 b2 b3 b4 b5 b6 b7 hm8 hm9 hm10 g
 clear h g
 simp only [payL, ↓reduceIte, Int.reduceEq, or_true, true_or, or_false, false_or, or_self, List.append_assoc] at e
 simp only [List.cons_append, List.nil_append, List.cons.injEq, true_and] at e
 obtain ⟨en, e⟩ := e
 have e9 := flat_inj (P := fun s => R64 s.f0 ∧ R64 s.f1 ∧ 0 ≤ s.f2 ∧ s.f2 ≤ 2) memL_inj (by omega) (fun s hs => ⟨(p9 s hs).1, (p9 s hs).2, phf s hs⟩) (fun s hs => ⟨(q9 s hs).1, (q9 s hs).2, qhf s hs⟩) e
 exact ⟨rfl, rfl, rfl, rfl, rfl, rfl, rfl, rfl, e9, rfl⟩
theorem inj4 (a1 a2 a3 a4 a5 a6 : Int) (a7 : Bool) {l8 : List S76} {l9 : List S92} {l10 : List Int} (hl8 : l8.length ≤ 40) (hl9 : l9.length ≤ 100) (hl10 : l10.length ≤ 100) (wp : WP a1 a2 a3 a4 a5 l8 l9 l10) (b1 b2 b3 b4 b5 b6 : Int) (b7 : Bool) {m8 : List S76} {m9 : List S92} {m10 : List Int} (hm8 : m8.length ≤ 40) (hm9 : m9.length ≤ 100) (hm10 : m10.length ≤ 100) (wq : WP b1 b2 b3 b4 b5 m8 m9 m10)
  (h : message_Right.f 4 a1 a2 a3 a4 a5 a6 a7 l8 l9 l10 = some 0) (g : message_Right.f 4 b1 b2 b3 b4 b5 b6 b7 m8 m9 m10 = some 0) (e : payL 4 a1 a2 a3 a4 a5 a6 a7 l8 l9 l10 = payL 4 b1 b2 b3 b4 b5 b6 b7 m8 m9 m10) :
  a1 = b1 ∧ a2 = b2 ∧ a3 = b3 ∧ a4 = b4 ∧ a5 = b5 ∧ a6 = b6 ∧ a7 = b7 ∧ l8 = m8 ∧ l9 = m9 ∧ l10 = m10 := by
 obtain ⟨p1, p2, p3, p4, p5, p8, p9, p10⟩ := wp
 obtain ⟨q1, q2, q3, q4, q5, q8, q9, q10⟩ := wq
 obtain ⟨rfl, rfl, rfl, rfl, rfl, rfl, rfl⟩ := good4 a1 a2 a3 a4 a5 a6 a7 hl8 hl9 hl10 h
 obtain ⟨rfl, rfl, rfl, rfl, rfl, rfl, rfl⟩ := good4 b1 b2 b3 b4 b5 b6 b7 hm8 hm9 hm10 g
 clear h g
 simp only [payL, ↓reduceIte, Int.reduceEq, or_true, true_or, or_false, false_or, or_self, List.append_assoc] at e
 simp only [List.cons_append, List.nil_append, List.cons.injEq, true_and] at e
 obtain ⟨e1, e⟩ := be8_inj p1 q1 e
 (try simp only [List.cons_append, List.nil_append, List.cons.injEq] at e)
 obtain ⟨e2, e⟩ := be8_inj p2 q2 e
 (try simp only [List.cons_append, List.nil_append, List.cons.injEq] at e)
 have e3 := be8_inj_ p3 q3 e
 exact ⟨e1, e2, e3, rfl, rfl, rfl, rfl, rfl, rfl, rfl⟩
theorem inj5 (a1 a2 a3 a4 a5 a6 : Int) (a7 : Bool) {l8 : List S76} {l9 : List S92} {l10 : List Int} (hl8 : l8.length ≤ 40) (hl9 : l9.length ≤ 100) (hl10 : l10.length ≤ 100) (wp : WP a1 a2 a3 a4 a5 l8 l9 l10) (b1 b2 b3 b4 b5 b6 : Int) (b7 : Bool) {m8 : List S76} {m9 : List S92} {m10 : List Int} (hm8 : m8.length ≤ 40) (hm9 : m9.length ≤ 100) (hm10 : m10.length ≤ 100) (wq : WP b1 b2 b3 b4 b5 m8 m9 m10)
  (h : message_Right.f 5 a1 a2 a3 a4 a5 a6 a7 l8 l9 l10 = some 0) (g : message_Right.f 5 b1 b2 b3 b4 b5 b6 b7 m8 m9 m10 = some 0) (e : payL 5 a1 a2 a3 a4 a5 a6 a7 l8 l9 l10 = payL 5 b1 b2 b3 b4 b5 b6 b7 m8 m9 m10) :
  a1 = b1 ∧ a2 = b2 ∧ a3 = b3 ∧ a4 = b4 ∧ a5 = b5 ∧ a6 = b6 ∧ a7 = b7 ∧ l8 = m8 ∧ l9 = m9 ∧ l10 = m10 := by
 obtain ⟨p1, p2, p3, p4, p5, p8, p9, p10⟩ := wp
 obtain ⟨q1, q2, q3, q4, q5, q8, q9, q10⟩ := wq
 obtain ⟨rfl, rfl, rfl, _⟩ := good5 a1 a2 a3 a4 a5 a6 a7 hl8 hl9 hl10 h
 obtain ⟨rfl, rfl, rfl, _⟩ := good5 b1 b2 b3 b4 b5 b6 b7 hm8 hm9 hm10 g
 clear h g
 simp only [payL, ↓reduceIte, Int.reduceEq, or_true, true_or, or_false, false_or, or_self, List.append_assoc] at e
 simp only [List.cons_append, List.nil_append, List.cons.injEq, true_and] at e
 obtain ⟨e1, e⟩ := be8_inj p1 q1 e
 (try simp only [List.cons_append, List.nil_append, List.cons.injEq] at e)
 obtain ⟨e2, e⟩ := be8_inj p2 q2 e
 (try simp only [List.cons_append, List.nil_append, List.cons.injEq] at e)
 obtain ⟨e3, e⟩ := be8_inj p3 q3 e
 (try simp only [List.cons_append, List.nil_append, List.cons.injEq] at e)
 obtain ⟨e7, e⟩ := e
 have e7 := okN_inj e7
 obtain ⟨e4, e⟩ := be8_inj p4 q4 e
 (try simp only [List.cons_append, List.nil_append, List.cons.injEq] at e)
 obtain ⟨e5, e⟩ := be8_inj p5 q5 e
 (try simp only [List.cons_append, List.nil_append, List.cons.injEq] at e)
 have e6 : a6 = b6 := by simpa using e
 exact ⟨e1, e2, e3, e4, e5, e6, e7, rfl, rfl, rfl⟩
theorem inj6 (a1 a2 a3 a4 a5 a6 : Int) (a7 : Bool) {l8 : List S76} {l9 : List S92} {l10 : List Int} (hl8 : l8.length ≤ 40) (hl9 : l9.length ≤ 100) (hl10 : l10.length ≤ 100) (wp : WP a1 a2 a3 a4 a5 l8 l9 l10) (b1 b2 b3 b4 b5 b6 : Int) (b7 : Bool) {m8 : List S76} {m9 : List S92} {m10 : List Int} (hm8 : m8.length ≤ 40) (hm9 : m9.length ≤ 100) (hm10 : m10.length ≤ 100) (wq : WP b1 b2 b3 b4 b5 m8 m9 m10)
  (h : message_Right.f 6 a1 a2 a3 a4 a5 a6 a7 l8 l9 l10 = some 0) (g : message_Right.f 6 b1 b2 b3 b4 b5 b6 b7 m8 m9 m10 = some 0) (e : payL 6 a1 a2 a3 a4 a5 a6 a7 l8 l9 l10 = payL 6 b1 b2 b3 b4 b5 b6 b7 m8 m9 m10) :
  a1 = b1 ∧ a2 = b2 ∧ a3 = b3 ∧ a4 = b4 ∧ a5 = b5 ∧ a6 = b6 ∧ a7 = b7 ∧ l8 = m8 ∧ l9 = m9 ∧ l10 = m10 := by
 obtain ⟨p1, p2, p3, p4, p5, p8, p9, p10⟩ := wp
 obtain ⟨q1, q2, q3, q4, q5, q8, q9, q10⟩ := wq
 obtain ⟨rfl, rfl, rfl, rfl, rfl, rfl, _⟩ := good6 a1 a2 a3 a4 a5 a6 a7 hl8 hl9 hl10 h
 obtain ⟨rfl, rfl, rfl, rfl, rfl, rfl, _⟩ := good6 b1 b2 b3 b4 b5 b6 b7 hm8 hm9 hm10 g
 clear h g
 simp only [payL, ↓reduceIte, Int.reduceEq, or_true, true_or, or_false, false_or, or_self, List.append_assoc] at e
 simp only [List.cons_append, List.nil_append, List.cons.injEq, true_and] at e
 obtain ⟨e1, e⟩ := be8_inj p1 q1 e
 (try simp only [List.cons_append, List.nil_append, List.cons.injEq] at e)
 obtain ⟨e2, e⟩ := be8_inj p2 q2 e
 (try simp only [List.cons_append, List.nil_append, List.cons.injEq] at e)
 obtain ⟨e3, e⟩ := be8_inj p3 q3 e
 (try simp only [List.cons_append, List.nil_append, List.cons.injEq] at e)
 have e6 : a6 = b6 := by simpa using e
 exact ⟨e1, e2, e3, rfl, rfl, e6, rfl, rfl, rfl, rfl⟩
theorem inj7 (a1 a2 a3 a4 a5 a6 : Int) (a7 : Bool) {l8 : List S76} {l9 : List S92} {l10 : List Int} (hl8 : l8.length ≤ 40) (hl9 : l9.length ≤ 100) (hl10 : l10.length ≤ 100) (wp : WP a1 a2 a3 a4 a5 l8 l9 l10) (b1 b2 b3 b4 b5 b6 : Int) (b7 : Bool) {m8 : List S76} {m9 : List S92} {m10 : List Int} (hm8 : m8.length ≤ 40) (hm9 : m9.length ≤ 100) (hm10 : m10.length ≤ 100) (wq : WP b1 b2 b3 b4 b5 m8 m9 m10)
  (h : message_Right.f 7 a1 a2 a3 a4 a5 a6 a7 l8 l9 l10 = some 0) (g : message_Right.f 7 b1 b2 b3 b4 b5 b6 b7 m8 m9 m10 = some 0) (e : payL 7 a1 a2 a3 a4 a5 a6 a7 l8 l9 l10 = payL 7 b1 b2 b3 b4 b5 b6 b7 m8 m9 m10) :
  a1 = b1 ∧ a2 = b2 ∧ a3 = b3 ∧ a4 = b4 ∧ a5 = b5 ∧ a6 = b6 ∧ a7 = b7 ∧ l8 = m8 ∧ l9 = m9 ∧ l10 = m10 := by
 obtain ⟨p1, p2, p3, p4, p5, p8, p9, p10⟩ := wp
 obtain ⟨q1, q2, q3, q4, q5, q8, q9, q10⟩ := wq
 obtain ⟨rfl, rfl, rfl, rfl⟩ := good7 a1 a2 a3 a4 a5 a6 a7 hl8 hl9 hl10 h
 obtain ⟨rfl, rfl, rfl, rfl⟩ := good7 b1 b2 b3 b4 b5 b6 b7 hm8 hm9 hm10 g
 clear h g
 simp only [payL, ↓reduceIte, Int.reduceEq, or_true, true_or, or_false, false_or, or_self, List.append_assoc] at e
 simp only [List.cons_append, List.nil_append, List.cons.injEq, true_and] at e
 obtain ⟨e1, e⟩ := be8_inj p1 q1 e
 (try simp only [List.cons_append, List.nil_append, List.cons.injEq] at e)
 obtain ⟨e2, e⟩ := be8_inj p2 q2 e
 (try simp only [List.cons_append, List.nil_append, List.cons.injEq] at e)
 obtain ⟨e3, e⟩ := be8_inj p3 q3 e
 (try simp only [List.cons_append, List.nil_append, List.cons.injEq] at e)
 obtain ⟨e7, e⟩ := e
 have e7 := okN_inj e7
 obtain ⟨e4, e⟩ := be8_inj p4 q4 e
 (try simp only [List.cons_append, List.nil_append, List.cons.injEq] at e)
 have e5 := be8_inj_ p5 q5 e
 exact ⟨e1, e2, e3, e4, e5, rfl, e7, rfl, rfl, rfl⟩
theorem inj8 (a1 a2 a3 a4 a5 a6 : Int) (a7 : Bool) {l8 : List S76} {l9 : List S92} {l10 : List Int} (hl8 : l8.length ≤ 40) (hl9 : l9.length ≤ 100) (hl10 : l10.length ≤ 100) (wp : WP a1 a2 a3 a4 a5 l8 l9 l10) (b1 b2 b3 b4 b5 b6 : Int) (b7 : Bool) {m8 : List S76} {m9 : List S92} {m10 : List Int} (hm8 : m8.length ≤ 40) (hm9 : m9.length ≤ 100) (hm10 : m10.length ≤ 100) (wq : WP b1 b2 b3 b4 b5 m8 m9 m10)
  (h : message_Right.f 8 a1 a2 a3 a4 a5 a6 a7 l8 l9 l10 = some 0) (g : message_Right.f 8 b1 b2 b3 b4 b5 b6 b7 m8 m9 m10 = some 0) (e : payL 8 a1 a2 a3 a4 a5 a6 a7 l8 l9 l10 = payL 8 b1 b2 b3 b4 b5 b6 b7 m8 m9 m10) :
  a1 = b1 ∧ a2 = b2 ∧ a3 = b3 ∧ a4 = b4 ∧ a5 = b5 ∧ a6 = b6 ∧ a7 = b7 ∧ l8 = m8 ∧ l9 = m9 ∧ l10 = m10 := by
 obtain ⟨p1, p2, p3, p4, p5, p8, p9, p10⟩ := wp
 obtain ⟨q1, q2, q3, q4, q5, q8, q9, q10⟩ := wq
 obtain ⟨rfl, rfl, rfl, rfl, rfl, rfl, rfl, rfl, _⟩ := good8 a1 a2 a3 a4 a5 a6 a7 hl8 hl9 hl10 h
 obtain ⟨rfl, rfl, rfl, rfl, rfl, rfl, rfl, rfl, _⟩ := good8 b1 b2 b3 b4 b5 b6 b7 hm8 hm9 hm10 g
 clear h g
 simp only [payL, ↓reduceIte, Int.reduceEq, or_true, true_or, or_false, false_or, or_self, List.append_assoc] at e
 simp only [List.cons_append, List.nil_append, List.cons.injEq, true_and] at e
 obtain ⟨e1, e⟩ := be8_inj p1 q1 e
 (try simp only [List.cons_append, List.nil_append, List.cons.injEq] at e)
 have e6 : a6 = b6 := by simpa using e
 exact ⟨e1, rfl, rfl, rfl, rfl, e6, rfl, rfl, rfl, rfl⟩
theorem inj9 (a1 a2 a3 a4 a5 a6 : Int) (a7 : Bool) {l8 : List S76} {l9 : List S92} {l10 : List Int} (hl8 : l8.length ≤ 40) (hl9 : l9.length ≤ 100) (hl10 : l10.length ≤ 100) (wp : WP a1 a2 a3 a4 a5 l8 l9 l10) (b1 b2 b3 b4 b5 b6 : Int) (b7 : Bool) {m8 : List S76} {m9 : List S92} {m10 : List Int} (hm8 : m8.length ≤ 40) (hm9 : m9.length ≤ 100) (hm10 : m10.length ≤ 100) (wq : WP b1 b2 b3 b4 b5 m8 m9 m10)
  (h : message_Right.f 9 a1 a2 a3 a4 a5 a6 a7 l8 l9 l10 = some 0) (g : message_Right.f 9 b1 b2 b3 b4 b5 b6 b7 m8 m9 m10 = some 0) (e : payL 9 a1 a2 a3 a4 a5 a6 a7 l8 l9 l10 = payL 9 b1 b2 b3 b4 b5 b6 b7 m8 m9 m10) :
  a1 = b1 ∧ a2 = b2 ∧ a3 = b3 ∧ a4 = b4 ∧ a5 = b5 ∧ a6 = b6 ∧ a7 = b7 ∧ l8 = m8 ∧ l9 = m9 ∧ l10 = m10 := by
 obtain ⟨p1, p2, p3, p4, p5, p8, p9, p10⟩ := wp
 obtain ⟨q1, q2, q3, q4, q5, q8, q9, q10⟩ := wq
 have w8 : ∀ s ∈ l8, 0 ≤ s.f1 ∧ s.f1 < 18446744073709551616 := fun s hs => (p8 s hs).2.1
 have w8' : ∀ s ∈ m8, 0 ≤ s.f1 ∧ s.f1 < 18446744073709551616 := fun s hs => (q8 s hs).2.1
 obtain ⟨rfl, rfl, rfl, rfl, rfl, rfl, phg, phl⟩ := good9 a1 a2 a3 a4 a5 a6 a7 hl8 hl9 hl10 w8 h
 obtain ⟨rfl, rfl, rfl, rfl, rfl, rfl, qhg, qhl⟩ := good9 b1 b2 b3 b4 b5 b6 b7 hm8 hm9 hm10 w8' g
 clear h g
 simp only [payL, ↓reduceIte, Int.reduceEq, or_true, true_or, or_false, false_or, or_self, List.append_assoc] at e
 simp only [List.cons_append, List.nil_append, List.cons.injEq, true_and] at e
 obtain ⟨e1, e⟩ := be8_inj p1 q1 e
 (try simp only [List.cons_append, List.nil_append, List.cons.injEq] at e)
 obtain ⟨e2, e⟩ := be8_inj p2 q2 e
 (try simp only [List.cons_append, List.nil_append, List.cons.injEq] at e)
 obtain ⟨e3, e⟩ := be8_inj p3 q3 e
 (try simp only [List.cons_append, List.nil_append, List.cons.injEq] at e)
 obtain ⟨en, e⟩ := e
 have e8 := flat_inj (P := fun s => W76 s ∧ rN s = 0) spB_inj (by omega) (fun s hs => ⟨p8 s hs, (goB_all _ _ _ phg s hs).1⟩) (fun s hs => ⟨q8 s hs, (goB_all _ _ _ qhg s hs).1⟩) e
 exact ⟨e1, e2, e3, rfl, rfl, rfl, rfl, e8, rfl, rfl⟩
theorem inj10 (a1 a2 a3 a4 a5 a6 : Int) (a7 : Bool) {l8 : List S76} {l9 : List S92} {l10 : List Int} (hl8 : l8.length ≤ 40) (hl9 : l9.length ≤ 100) (hl10 : l10.length ≤ 100) (wp : WP a1 a2 a3 a4 a5 l8 l9 l10) (b1 b2 b3 b4 b5 b6 : Int) (b7 : Bool) {m8 : List S76} {m9 : List S92} {m10 : List Int} (hm8 : m8.length ≤ 40) (hm9 : m9.length ≤ 100) (hm10 : m10.length ≤ 100) (wq : WP b1 b2 b3 b4 b5 m8 m9 m10)
  (h : message_Right.f 10 a1 a2 a3 a4 a5 a6 a7 l8 l9 l10 = some 0) (g : message_Right.f 10 b1 b2 b3 b4 b5 b6 b7 m8 m9 m10 = some 0) (e : payL 10 a1 a2 a3 a4 a5 a6 a7 l8 l9 l10 = payL 10 b1 b2 b3 b4 b5 b6 b7 m8 m9 m10) :
  a1 = b1 ∧ a2 = b2 ∧ a3 = b3 ∧ a4 = b4 ∧ a5 = b5 ∧ a6 = b6 ∧ a7 = b7 ∧ l8 = m8 ∧ l9 = m9 ∧ l10 = m10 := by
 obtain ⟨p1, p2, p3, p4, p5, p8, p9, p10⟩ := wp
 obtain ⟨q1, q2, q3, q4, q5, q8, q9, q10⟩ := wq
 obtain ⟨rfl, rfl, rfl, rfl, rfl, rfl, rfl, rfl, phl⟩ := good10 a1 a2 a3 a4 a5 a6 a7 hl8 hl9 hl10 h
 obtain ⟨rfl, rfl, rfl, rfl, rfl, rfl, rfl, rfl, qhl⟩ := good10 b1 b2 b3 b4 b5 b6 b7 hm8 hm9 hm10 g
 clear h g
 simp only [payL, ↓reduceIte, Int.reduceEq, or_true, true_or, or_false, false_or, or_self, List.append_assoc] at e
 simp only [List.cons_append, List.nil_append, List.cons.injEq, true_and] at e
 obtain ⟨e1, e⟩ := be8_inj p1 q1 e
 (try simp only [List.cons_append, List.nil_append, List.cons.injEq] at e)
 obtain ⟨en, e⟩ := e
 have e10 := flat_inj (P := R64) be8_inj (by omega) p10 q10 e
 exact ⟨e1, rfl, rfl, rfl, rfl, rfl, rfl, rfl, rfl, e10⟩
theorem pay_inj (a0 a1 a2 a3 a4 a5 a6 : Int) (a7 : Bool) {l8 : List S76} {l9 : List S92} {l10 : List Int} (hl8 : l8.length ≤ 40) (hl9 : l9.length ≤ 100) (hl10 : l10.length ≤ 100) (wp : WP a1 a2 a3 a4 a5 l8 l9 l10) (b0 b1 b2 b3 b4 b5 b6 : Int) (b7 : Bool) {m8 : List S76} {m9 : List S92} {m10 : List Int} (hm8 : m8.length ≤ 40) (hm9 : m9.length ≤ 100) (hm10 : m10.length ≤ 100) (wq : WP b1 b2 b3 b4 b5 m8 m9 m10)
  (h : message_Right.f a0 a1 a2 a3 a4 a5 a6 a7 l8 l9 l10 = some 0) (g : message_Right.f b0 b1 b2 b3 b4 b5 b6 b7 m8 m9 m10 = some 0) (e : payL a0 a1 a2 a3 a4 a5 a6 a7 l8 l9 l10 = payL b0 b1 b2 b3 b4 b5 b6 b7 m8 m9 m10) :
  a0 = b0 ∧ a1 = b1 ∧ a2 = b2 ∧ a3 = b3 ∧ a4 = b4 ∧ a5 = b5 ∧ a6 = b6 ∧ a7 = b7 ∧ l8 = m8 ∧ l9 = m9 ∧ l10 = m10 := by
 obtain ⟨t, ht⟩ := pay_head a0 a1 a2 a3 a4 a5 a6 a7 l8 l9 l10
 obtain ⟨u, hu⟩ := pay_head b0 b1 b2 b3 b4 b5 b6 b7 m8 m9 m10
 obtain rfl : a0 = b0 := by
  have q := e
  rw [ht, hu, List.cons.injEq] at q
  exact q.1
 clear ht hu
 have hk := kind_of a0 a1 a2 a3 a4 a5 a6 a7 hl8 hl9 hl10 h
 refine ⟨rfl, ?_⟩
 by_cases k1 : a0 = 1
 ·subst k1
  exact inj1 a1 a2 a3 a4 a5 a6 a7 hl8 hl9 hl10 wp b1 b2 b3 b4 b5 b6 b7 hm8 hm9 hm10 wq h g e
 by_cases k2 : a0 = 2
 ·subst k2
  exact inj2 a1 a2 a3 a4 a5 a6 a7 hl8 hl9 hl10 wp b1 b2 b3 b4 b5 b6 b7 hm8 hm9 hm10 wq h g e
 by_cases k3 : a0 = 3
 ·subst k3
  exact inj3 a1 a2 a3 a4 a5 a6 a7 hl8 hl9 hl10 wp b1 b2 b3 b4 b5 b6 b7 hm8 hm9 hm10 wq h g e
 by_cases k4 : a0 = 4
 ·subst k4
  exact inj4 a1 a2 a3 a4 a5 a6 a7 hl8 hl9 hl10 wp b1 b2 b3 b4 b5 b6 b7 hm8 hm9 hm10 wq h g e
 by_cases k5 : a0 = 5
 ·subst k5
  exact inj5 a1 a2 a3 a4 a5 a6 a7 hl8 hl9 hl10 wp b1 b2 b3 b4 b5 b6 b7 hm8 hm9 hm10 wq h g e
 by_cases k6 : a0 = 6
 ·subst k6
  exact inj6 a1 a2 a3 a4 a5 a6 a7 hl8 hl9 hl10 wp b1 b2 b3 b4 b5 b6 b7 hm8 hm9 hm10 wq h g e
 by_cases k7 : a0 = 7
 ·subst k7
  exact inj7 a1 a2 a3 a4 a5 a6 a7 hl8 hl9 hl10 wp b1 b2 b3 b4 b5 b6 b7 hm8 hm9 hm10 wq h g e
 by_cases k8 : a0 = 8
 ·subst k8
  exact inj8 a1 a2 a3 a4 a5 a6 a7 hl8 hl9 hl10 wp b1 b2 b3 b4 b5 b6 b7 hm8 hm9 hm10 wq h g e
 by_cases k9 : a0 = 9
 ·subst k9
  exact inj9 a1 a2 a3 a4 a5 a6 a7 hl8 hl9 hl10 wp b1 b2 b3 b4 b5 b6 b7 hm8 hm9 hm10 wq h g e
 obtain rfl : a0 = 10 := by omega
 exact inj10 a1 a2 a3 a4 a5 a6 a7 hl8 hl9 hl10 wp b1 b2 b3 b4 b5 b6 b7 hm8 hm9 hm10 wq h g e
theorem scB_self (a0 a1 a2 a3 a4 a5 a6 : Int) (a7 : Bool) : scB a0 a1 a2 a3 a4 a5 a6 a7 a0 a1 a2 a3 a4 a5 a6 a7 = true := by simp [scB]
theorem apart_law (a0 a1 a2 a3 a4 a5 a6 : Int) (a7 : Bool) (l8 : List S76) (l9 : List S92) (l10 : List Int) (b0 b1 b2 b3 b4 b5 b6 : Int) (b7 : Bool) (m8 : List S76) (m9 : List S92) (m10 : List Int) (wp : WP a1 a2 a3 a4 a5 l8 l9 l10) (wq : WP b1 b2 b3 b4 b5 m8 m9 m10) :
  winnowlaw05_MessageApart.f 20000 a0 a1 a2 a3 a4 a5 a6 a7 l8 l9 l10 b0 b1 b2 b3 b4 b5 b6 b7 m8 m9 m10 = some true := by
 obtain ⟨k, hk⟩ : ∃ k, k = 19997 := ⟨_, rfl⟩
 rw [show (20000 : Nat) = k + 1 + 1 + 1 by omega]
 have w8 : ∀ s ∈ l8, 0 ≤ s.f1 ∧ s.f1 < 18446744073709551616 := fun s hs => (wp.2.2.2.2.2.1 s hs).2.1
 have v8 : ∀ s ∈ m8, 0 ≤ s.f1 ∧ s.f1 < 18446744073709551616 := fun s hs => (wq.2.2.2.2.2.1 s hs).2.1
 have hj0 : ∀ n, winnowlaw05_MessageApart.j0 (n + 1) true a0 a1 a2 a3 a4 a5 a6 a7 l8 l9 l10 b0 b1 b2 b3 b4 b5 b6 b7 m8 m9 m10 = some true := fun n => by rw [winnowlaw05_MessageApart.j0, if_pos rfl]; rfl
 have hj1 : ∀ (n : Nat) (x y : List Int), winnowlaw05_MessageApart.j1 (n + 1) x y true a0 a1 a2 a3 a4 a5 a6 a7 l8 l9 l10 b0 b1 b2 b3 b4 b5 b6 b7 m8 m9 m10 = some true := fun n x y => by rw [winnowlaw05_MessageApart.j1, if_pos rfl]; rfl
 unfold winnowlaw05_MessageApart.f
 obtain ⟨b, hb, hl⟩ := light_eq a0 a1 a2 a3 a4 a5 a6 a7 l8 l9 l10 (k := k + 1 + 1 + 1) (by omega)
 rw [hb]
 simp only [Option.bind_some]
 cases b
 ·rw [if_neg (by decide)]
  exact hj0 _
 obtain ⟨n8, n9, n10⟩ := hl rfl
 rw [if_pos rfl]
 obtain ⟨c, hc, hl2⟩ := light_eq b0 b1 b2 b3 b4 b5 b6 b7 m8 m9 m10 (k := k + 1 + 1 + 1) (by omega)
 rw [hc]
 simp only [Option.bind_some]
 cases c
 ·exact hj0 _
 obtain ⟨o8, o9, o10⟩ := hl2 rfl
 rw [Bool.not_true, winnowlaw05_MessageApart.j0, if_neg (by decide)]
 obtain ⟨v, hv, hv2⟩ := right_val a0 a1 a2 a3 a4 a5 a6 a7 n8 n9 n10 w8
 obtain ⟨u, hu, hu2⟩ := right_val b0 b1 b2 b3 b4 b5 b6 b7 o8 o9 o10 v8
 rcases hv2 with rfl | rfl
 ·rw [enc_ok a0 a1 a2 a3 a4 a5 a6 a7 n8 n9 n10 w8 hv]
  rcases hu2 with rfl | rfl
  ·rw [enc_ok b0 b1 b2 b3 b4 b5 b6 b7 o8 o9 o10 v8 hu]
   simp only [Option.bind_some, if_true]
   rw [show ((0 : Int) != 0) = false from rfl, winnowlaw05_MessageApart.j1, if_neg (by decide)]
   have hs := frameL_len (payL a0 a1 a2 a3 a4 a5 a6 a7 l8 l9 l10)
   have hsm := (pay_small a0 a1 a2 a3 a4 a5 a6 a7 n8 n9 n10 w8 hv).2
   rw [same_eq _ _ (by omega) (by omega)]
   simp only [Option.bind_some]
   by_cases e : frameL (payL a0 a1 a2 a3 a4 a5 a6 a7 l8 l9 l10) = frameL (payL b0 b1 b2 b3 b4 b5 b6 b7 m8 m9 m10)
   ·obtain ⟨rfl, rfl, rfl, rfl, rfl, rfl, rfl, rfl, rfl, rfl, rfl⟩ := pay_inj a0 a1 a2 a3 a4 a5 a6 a7 n8 n9 n10 wp b0 b1 b2 b3 b4 b5 b6 b7 o8 o9 o10 wq hv hu (frameL_inj e)
    rw [same_eq_ a0 a1 a2 a3 a4 a5 a6 a7 a0 a1 a2 a3 a4 a5 a6 a7 (.inl rfl) (.inl rfl) (.inl rfl) (by omega) (by omega) (by omega) (by omega), scB_self]
    simp only [rwB, decide_true, Bool.and_self, Option.bind_some]
    rfl
   ·rw [decide_eq_false e]
    obtain ⟨s, hs, hs2⟩ := same_any a0 a1 a2 a3 a4 a5 a6 a7 b0 b1 b2 b3 b4 b5 b6 b7 (l8 := l8) (m8 := m8) (l9 := l9) (m9 := m9) (l10 := l10) (m10 := m10) (by omega) (by omega) (by omega) (k := k + 1) (by omega)
    rw [hs]
    simp only [Option.bind_some]
    cases s
    ·rfl
    ·exfalso
     obtain ⟨rfl, rfl, rfl, hsc⟩ := hs2 rfl
     simp only [scB, Bool.and_eq_true, beq_iff_eq] at hsc
     obtain ⟨rfl, rfl, ⟨rfl, rfl⟩, ⟨rfl, rfl⟩, rfl, rfl⟩ := hsc
     exact e rfl
  ·rw [enc_bad b0 b1 b2 b3 b4 b5 b6 b7 o8 o9 o10 hu]
   simp only [Option.bind_some, if_true]
   exact hj1 _ _ _
 ·rw [enc_bad a0 a1 a2 a3 a4 a5 a6 a7 n8 n9 n10 hv]
  rcases hu2 with rfl | rfl
  ·rw [enc_ok b0 b1 b2 b3 b4 b5 b6 b7 o8 o9 o10 v8 hu]
   simp only [Option.bind_some]
   rw [if_neg (by decide)]
   exact hj1 _ _ _
  ·rw [enc_bad b0 b1 b2 b3 b4 b5 b6 b7 o8 o9 o10 hu]
   simp only [Option.bind_some]
   rw [if_neg (by decide)]
   exact hj1 _ _ _
end Go.Proofs.Ytlpnpnjjmpkapaa.PAll
