/-
  The plain law SpanPuts: the bytes of a span.
  Conditions: none.
-/
import Derived.Test.YtigcdbeaachkoaaSpanRightPure
import Derived.Test.YtigcdbeaachkoaaPAllx4
import Derived.Test.YtigcdbeaachkoaaPAllx6
import Derived.Test.YtigcdbeaachkoaaPAllx7
import Derived.Test.YtigcdbeaachkoaaPAllx8
namespace Go.Proofs.Ytigcdbeaachkoaa.PAll
open Go.RowKit Go.Lib Go.Proofs.YtigcdbeaachkoaaW.PrintWords Go.Proofs.YtigcdbeaachkoaaW.PrintLast Go.Proofs.YtigcdbeaachkoaaW.PrintMore
set_option linter.unusedVariables false
set_option linter.unusedSimpArgs false

/-! ### rows that are the same -/
theorem drop_rd1 (xs : List Int) (i : Int) (h0 : 0 ≤ i) (h : i < (xs.length : Int)) : xs.drop i.toNat = rd xs i :: xs.drop (i + 1).toNat := by
  have hi : i.toNat < xs.length := by omega
  rw [List.drop_eq_getElem_cons hi, show (i + 1).toNat = i.toNat + 1 by omega]
  simp [rd, List.getD_eq_getElem?_getD, List.getElem?_eq_getElem hi]
theorem same_tells (a b : List Int) (hn : a.length ≤ 140737488355328) (hl : a.length = b.length) (d : Nat) : ∀ (k : Nat) (i : Int), 0 ≤ i → i ≤ a.length → (a.length : Int) - i = d → d < k →
    winnowref01_Same.l0 k a b i = some (decide (a.drop i.toNat = b.drop i.toNat)) := by
  induction d with
  | zero =>
    intro k i h0 h1 hd hk
    obtain ⟨k, rfl⟩ : ∃ j, k = j + 1 := ⟨k - 1, by omega⟩
    rw [winnowref01_Same.l0, if_neg (by omega), List.drop_eq_nil_of_le (by omega), List.drop_eq_nil_of_le (by omega)]
    simp
  | succ d ih =>
    intro k i h0 h1 hd hk
    obtain ⟨k, rfl⟩ : ∃ j, k = j + 1 := ⟨k - 1, by omega⟩
    have hlt : i < (a.length : Int) := by omega
    have hlt2 : i < (b.length : Int) := by omega
    have hw : wrap64 (i + 1) = i + 1 := by unfold wrap64; omega
    rw [winnowref01_Same.l0, if_pos hlt, if_pos h0, if_pos hlt2, drop_rd1 a i h0 hlt, drop_rd1 b i h0 hlt2]
    by_cases e : rd a i = rd b i
    · rw [if_pos e, hw, ih k (i + 1) (by omega) (by omega) (by omega) (by omega)]
      simp [e]
    · rw [if_neg e]
      simp [e]
theorem same_eq (a b : List Int) (hn : a.length ≤ 140737488355328) {k : Nat} (hk : a.length < k) : winnowref01_Same.f k a b = some (decide (a = b)) := by
  unfold winnowref01_Same.f
  by_cases hl : (a.length : Int) = (b.length : Int)
  · rw [if_pos hl, same_tells a b hn (by omega) a.length k 0 (by omega) (by omega) (by omega) hk]
    simp
  · rw [if_neg hl]
    simp only [Option.some.injEq]
    symm
    rw [decide_eq_false_iff_not]
    intro e
    exact hl (by rw [e])

/-! ### a number's bytes -/
def be8 (n : Int) : List Int := [n / 72057594037927936 % 256, n / 281474976710656 % 256, n / 1099511627776 % 256, n / 4294967296 % 256, n / 16777216 % 256, n / 65536 % 256, n / 256 % 256, n % 256]
theorem shr8 (n : Int) (j : Nat) (hj : j ≤ 56) (w : Int) (hw : w = (j : Int)) : shr .u64 n (IntKind.u64.wrap w) = n / 2 ^ j := by
  have e : IntKind.u64.wrap w = (j : Int) := by
    rw [hw]
    simp [IntKind.wrap, IntKind.signed, IntKind.bits]
    omega
  unfold shr
  rw [e]
  congr 2
  show min (j : Int).toNat 64 = j
  omega
theorem wrapu {w : Int} (h0 : 0 ≤ w) (h1 : w ≤ 56) : 0 ≤ IntKind.u64.wrap w := by
  simp [IntKind.wrap, IntKind.signed, IntKind.bits]
  omega
theorem put_step {k : Nat} {l : List Int} {n : Int} (j : Nat) (hj : j ≤ 56) (hl : l.length < 140737488355328) (r : Int) (hr : r = (j : Int) - 8) : num_Put64.l0 (k + 1) l n (j : Int) = num_Put64.l0 k (l ++ [n / 2 ^ j % 256]) n r := by
  subst hr
  rw [num_Put64.l0, if_pos (by omega), if_pos (wrapu (by omega) (by omega)), if_pos hl, shr8 n j hj _ rfl]
  congr 1
  unfold wrap64
  omega
theorem put64_eq {l : List Int} (hl : l.length + 8 ≤ 140737488355328) (n : Int) {k : Nat} (hk : 9 ≤ k) : num_Put64.f k l n = some (l ++ be8 n) := by
  obtain ⟨k, rfl⟩ : ∃ j, k = j + 1 + 1 + 1 + 1 + 1 + 1 + 1 + 1 + 1 := ⟨k - 9, by omega⟩
  unfold num_Put64.f
  rw [show (56 : Int) = ((56 : Nat) : Int) from rfl, put_step 56 (by omega) (by omega) ((48 : Nat) : Int) (by omega), put_step 48 (by omega) (by simp; omega) ((40 : Nat) : Int) (by omega), put_step 40 (by omega) (by simp; omega) ((32 : Nat) : Int) (by omega),
    put_step 32 (by omega) (by simp; omega) ((24 : Nat) : Int) (by omega), put_step 24 (by omega) (by simp; omega) ((16 : Nat) : Int) (by omega), put_step 16 (by omega) (by simp; omega) ((8 : Nat) : Int) (by omega), put_step 8 (by omega) (by simp; omega) ((0 : Nat) : Int) (by omega), put_step 0 (by omega) (by simp; omega) (-8) (by omega), num_Put64.l0, if_neg (by omega)]
  simp [be8]
theorem and255 (a : Int) (h0 : 0 ≤ a) (h1 : a < 18446744073709551616) : Go.bits .and .u64 a 255 % 256 = a % 256 := by
  obtain ⟨a, rfl⟩ := Int.eq_ofNat_of_zero_le h0
  have h3 : (BitVec.ofInt 64 (a : Int) &&& BitVec.ofInt 64 (255 : Int)).toNat = a % 256 := by
    rw [BitVec.toNat_and, BitVec.ofInt_natCast, BitVec.toNat_ofNat, Nat.mod_eq_of_lt (by omega), show (BitVec.ofInt 64 (255 : Int)).toNat = 2 ^ 8 - 1 from by decide, Nat.and_two_pow_sub_one_eq_mod]
  have h4 : Go.bits .and .u64 (a : Int) 255 = ((a % 256 : Nat) : Int) := by
    show IntKind.u64.wrap (((BitVec.ofInt 64 (a : Int) &&& BitVec.ofInt 64 (255 : Int)).toNat : Nat) : Int) = _
    rw [h3]
    simp [IntKind.wrap, IntKind.signed, IntKind.bits]
    omega
  rw [h4]
  omega
theorem eight_step {k : Nat} {l : List Int} {n : Int} (h0 : 0 ≤ n) (h1 : n < 18446744073709551616) (i : Nat) (hi : i ≤ 7) (hl : l.length < 140737488355328) (r : Int) (hr : r = (i : Int) - 1) : winnowref03_Eight.l0 (k + 1) n l (i : Int) = winnowref03_Eight.l0 k n (l ++ [n / 2 ^ (8 * i) % 256]) r := by
  subst hr
  have w8 : wrap64 (8 * (i : Int)) = ((8 * i : Nat) : Int) := by unfold wrap64; omega
  have g0 : 0 ≤ n / 2 ^ (8 * i) := Int.ediv_nonneg h0 (Int.le_of_lt (Int.pow_pos (by decide)))
  have g1 : n / 2 ^ (8 * i) ≤ n := Int.ediv_le_self _ h0
  rw [winnowref03_Eight.l0, if_pos (by omega), w8, if_pos (wrapu (by omega) (by omega)), if_pos hl, shr8 n (8 * i) (by omega) _ rfl, and255 _ g0 (by omega)]
  congr 1
  unfold wrap64
  omega
theorem eight_eq {n : Int} (h0 : 0 ≤ n) (h1 : n < 18446744073709551616) {k : Nat} (hk : 9 ≤ k) : winnowref03_Eight.f k n = some (be8 n) := by
  obtain ⟨k, rfl⟩ : ∃ j, k = j + 1 + 1 + 1 + 1 + 1 + 1 + 1 + 1 + 1 := ⟨k - 9, by omega⟩
  unfold winnowref03_Eight.f
  rw [show (7 : Int) = ((7 : Nat) : Int) from rfl, eight_step h0 h1 7 (by omega) (by simp) ((6 : Nat) : Int) (by omega), eight_step h0 h1 6 (by omega) (by simp) ((5 : Nat) : Int) (by omega), eight_step h0 h1 5 (by omega) (by simp) ((4 : Nat) : Int) (by omega),
    eight_step h0 h1 4 (by omega) (by simp) ((3 : Nat) : Int) (by omega), eight_step h0 h1 3 (by omega) (by simp) ((2 : Nat) : Int) (by omega), eight_step h0 h1 2 (by omega) (by simp) ((1 : Nat) : Int) (by omega), eight_step h0 h1 1 (by omega) (by simp) ((0 : Nat) : Int) (by omega), eight_step h0 h1 0 (by omega) (by simp) (-1) (by omega), winnowref03_Eight.l0, if_neg (by omega)]
  simp [be8]
theorem be8_len (n : Int) : (be8 n).length = 8 := rfl
/-- A text behind its length. -/
def txt (s : ByteArray) : List Int := (s.size : Int) % 256 :: bytesOf s
theorem txt_len (s : ByteArray) : (txt s).length = s.size + 1 := by simp [txt, bytesOf_length]
/-- A span's bytes. -/
def spanL (a0 a1 a2 a3 a4 : Int) (a5 a6 : ByteArray) (a7 : Bool) : List Int := be8 a0 ++ be8 a1 ++ be8 a2 ++ be8 a3 ++ be8 a4 ++ [if a7 = true then 1 else 0] ++ txt a5 ++ txt a6
theorem spanL_len (a0 a1 a2 a3 a4 : Int) (a5 a6 : ByteArray) (a7 : Bool) : (spanL a0 a1 a2 a3 a4 a5 a6 a7).length = 43 + a5.size + a6.size := by simp [spanL, be8_len, txt_len]; omega
/-- The bytes of a span behind some, or why there are none. -/
def putN (l : List Int) (a0 a1 a2 a3 a4 : Int) (a5 a6 : ByteArray) (a7 : Bool) : Option (List Int × Int) := (rightN a0 a1 a3 a4 a5 a6).bind fun v => some (if v = 0 then (l ++ spanL a0 a1 a2 a3 a4 a5 a6 a7, 0) else ([], v))
theorem put_eq (l : List Int) (a0 a1 a2 a3 a4 : Int) (a5 a6 : ByteArray) (a7 : Bool) (hl : l.length ≤ 1000000000) (h5 : a5.size ≤ 100000) (h6 : a6.size ≤ 100000) : span_Put.f l a0 a1 a2 a3 a4 a5 a6 a7 = putN l a0 a1 a2 a3 a4 a5 a6 a7 := by
  unfold span_Put.f putN
  obtain ⟨v, hv⟩ := rightN_some a0 a1 a3 a4 a5 a6
  rw [right_eq _ _ _ _ _ _ _ _ (by omega), hv]
  simp only [Option.bind_some]
  by_cases h : v = 0
  · rw [if_pos h, if_pos h]
    unfold slices_Clone_byte_byte.f
    rw [if_pos (by omega)]
    have e : span_Put.to l [a0, a1, a2, a3, a4] 5 = some (l ++ be8 a0 ++ be8 a1 ++ be8 a2 ++ be8 a3 ++ be8 a4) := by
      simp only [span_Put.to, Option.bind_some]
      have r : ∀ (i : Nat) (x : Int), ([a0, a1, a2, a3, a4] : List Int)[i]? = some x → rd [a0, a1, a2, a3, a4] (i : Int) = x := fun i x hx => by simp [rd, List.getD_eq_getElem?_getD, hx]
      rw [r 0 a0 rfl, r 1 a1 rfl, r 2 a2 rfl, r 3 a3 rfl, r 4 a4 rfl]
      rw [put64_eq (by omega) _ (by omega)]
      simp only [Option.bind_some]
      rw [put64_eq (by simp [be8_len]; omega) _ (by omega)]
      simp only [Option.bind_some]
      rw [put64_eq (by simp [be8_len]; omega) _ (by omega)]
      simp only [Option.bind_some]
      rw [put64_eq (by simp [be8_len]; omega) _ (by omega)]
      simp only [Option.bind_some]
      rw [put64_eq (by simp [be8_len]; omega) _ (by omega)]
    simp only [Option.bind_some]
    rw [e]
    simp only [Option.bind_some]
    rw [if_pos (by simp [be8_len]; omega)]
    have e1 : rdOf ByteArray.empty [a5, a6] ((0 : Nat) : Int) = a5 := rfl
    have e2 : rdOf ByteArray.empty [a5, a6] ((1 : Nat) : Int) = a6 := rfl
    simp only [span_Put.tx, e1, e2, spanL, txt, List.append_assoc, List.cons_append, List.nil_append]
  · rw [if_neg h, if_neg h]
theorem text_eq {l : List Int} {s : ByteArray} (hl : l.length + s.size + 1 < 140737488355328) : winnowref03_text.f l s = some (l ++ txt s) := by
  unfold winnowref03_text.f
  rw [if_pos (by omega)]
  simp only [Option.bind_some]
  rw [if_pos (by simp; omega)]
  simp [txt]
theorem rput_loop (l0 : List Int) (a0 a1 a2 a3 a4 : Int) (a5 a6 : ByteArray) (a7 : Bool) (ns : List Int) (hn : ns.length ≤ 100) (hr : ∀ x ∈ ns, 0 ≤ x ∧ x < 18446744073709551616) (h5 : a5.size ≤ 100000) (h6 : a6.size ≤ 100000) (d : Nat) : ∀ (k i : Nat) (l : List Int), i ≤ ns.length → ns.length - i = d → d + 10 ≤ k → l.length + 8 * d ≤ 1000001000 →
    winnowref03_Put.l0 k l ns (i : Int) a0 a1 a2 a3 a4 a5 a6 a7 = some (l ++ ((ns.drop i).map be8).flatten ++ [if a7 = true then 1 else 0] ++ txt a5 ++ txt a6, 0) := by
  induction d with
  | zero =>
    intro k i l hi hd hk hl
    obtain ⟨k, rfl⟩ : ∃ j, k = j + 1 := ⟨k - 1, by omega⟩
    rw [winnowref03_Put.l0, if_neg (by omega), List.drop_eq_nil_of_le (by omega)]
    cases a7 with
    | true =>
      rw [if_pos rfl, if_pos (by omega), text_eq (by simp; omega)]
      simp only [Option.bind_some]
      rw [text_eq (by simp [txt_len]; omega)]
      simp
    | false =>
      rw [if_neg (by decide), if_pos (by omega), text_eq (by simp; omega)]
      simp only [Option.bind_some]
      rw [text_eq (by simp [txt_len]; omega)]
      simp
  | succ d ih =>
    intro k i l hi hd hk hl
    obtain ⟨k, rfl⟩ : ∃ j, k = j + 1 := ⟨k - 1, by omega⟩
    have hw : wrap64 ((i : Int) + 1) = ((i + 1 : Nat) : Int) := by unfold wrap64; omega
    have hdr := drop_rd1 ns (i : Int) (by omega) (by omega)
    rw [show ((i : Int)).toNat = i by omega, show ((i : Int) + 1).toNat = i + 1 by omega] at hdr
    have hm : rd ns i ∈ ns := List.mem_of_mem_drop (by rw [hdr]; exact List.mem_cons_self ..)
    rw [winnowref03_Put.l0, if_pos (by omega), if_pos (by omega), eight_eq (hr _ hm).1 (hr _ hm).2 (by omega)]
    simp only [Option.bind_some]
    rw [if_pos (by simp [be8_len]; omega), hw, ih k (i + 1) _ (by omega) (by omega) (by omega) (by simp [be8_len]; omega), hdr]
    simp
theorem rput_eq (l : List Int) (a0 a1 a2 a3 a4 : Int) (a5 a6 : ByteArray) (a7 : Bool) (hr : ∀ x ∈ [a0, a1, a2, a3, a4], 0 ≤ x ∧ x < 18446744073709551616) (hl : l.length ≤ 1000000000) (h5 : a5.size ≤ 100000) (h6 : a6.size ≤ 100000) {k : Nat} (hk : 110 ≤ k) : winnowref03_Put.f k l a0 a1 a2 a3 a4 a5 a6 a7 = putN l a0 a1 a2 a3 a4 a5 a6 a7 := by
  unfold winnowref03_Put.f putN
  obtain ⟨v, hv⟩ := rightN_some a0 a1 a3 a4 a5 a6
  rw [rright_eq _ _ _ _ _ _ _ _ (by omega), hv]
  simp only [Option.bind_some]
  by_cases h : v = 0
  · rw [if_pos h, if_pos h, if_pos (by simp; omega), List.nil_append]
    have := rput_loop l a0 a1 a2 a3 a4 a5 a6 a7 [a0, a1, a2, a3, a4] (by simp) hr h5 h6 5 k 0 l (by simp) rfl (by omega) (by omega)
    rw [show (0 : Int) = ((0 : Nat) : Int) from rfl, this]
    simp [spanL]
  · rw [if_neg h, if_neg h]
theorem wf64 {x : Int} (h : (Lit.int .u64 x).wf = true) : 0 ≤ x ∧ x < 18446744073709551616 := by
  simp [Lit.wf, IntKind.min, IntKind.max, IntKind.signed, IntKind.bits] at h
  omega
theorem five {a b c d e : Int} (ha : (Lit.int .u64 a).wf = true) (hb : (Lit.int .u64 b).wf = true) (hc : (Lit.int .u64 c).wf = true) (hd : (Lit.int .u64 d).wf = true) (he : (Lit.int .u64 e).wf = true) : ∀ x ∈ [a, b, c, d, e], 0 ≤ x ∧ x < 18446744073709551616 := by
  intro x hx
  simp only [List.mem_cons, List.not_mem_nil, or_false] at hx
  rcases hx with rfl | rfl | rfl | rfl | rfl
  · exact wf64 ha
  · exact wf64 hb
  · exact wf64 hc
  · exact wf64 hd
  · exact wf64 he
theorem SpanPuts (l : List Int) (a0 a1 a2 a3 a4 : Int) (a5 a6 : ByteArray) (a7 : Bool) (hr : ∀ x ∈ [a0, a1, a2, a3, a4], 0 ≤ x ∧ x < 18446744073709551616) : winnowlaw03_SpanPuts.f 20000 l a0 a1 a2 a3 a4 a5 a6 a7 = some true := by
  have ha : ∀ b, b = true → winnowlaw03_SpanPuts.j0 20000 l b a0 a1 a2 a3 a4 a5 a6 a7 = some true := by
    rintro _ rfl
    rw [winnowlaw03_SpanPuts.j0, if_pos rfl, alive_true]
    rfl
  unfold winnowlaw03_SpanPuts.f
  by_cases h0 : (l.length : Int) > 5000
  · rw [if_pos h0]; exact ha _ rfl
  rw [if_neg h0]
  by_cases h1 : (a6.size : Int) > 1000
  · rw [if_pos h1]; exact ha _ rfl
  rw [if_neg h1]
  by_cases h2 : (a5.size : Int) > 1000
  · exact ha _ (by simpa using h2)
  rw [winnowlaw03_SpanPuts.j0, if_neg (by simpa using h2), put_eq l _ _ _ _ _ _ _ _ (by omega) (by omega) (by omega), rput_eq l _ _ _ _ _ _ _ _ hr (by omega) (by omega) (by omega) (by omega)]
  obtain ⟨v, hv⟩ := rightN_some a0 a1 a3 a4 a5 a6
  unfold putN
  rw [hv]
  simp only [Option.bind_some]
  rw [same_eq _ _ (by split <;> simp [spanL_len]; omega) (by split <;> simp [spanL_len]; omega)]
  simp only [Option.bind_some]
  rw [if_pos (by simp), if_pos trivial, alive_true]
  rfl
end Go.Proofs.Ytigcdbeaachkoaa.PAll
