/-
  What span.Cut computes of a span's bytes, of these cut off, and of any bytes.
  Conditions: numbers are from 0 to 2^64 - 1, bytes from 0 to 255.
-/
import Derived.Test.YtigcdbeaachkoaaSpanPutPure
import Derived.Test.YtigcdbeaachkoaaPAllx10
namespace Go.Proofs.Ytigcdbeaachkoaa.PAll
open Go.RowKit Go.Proofs.YtigcdbeaachkoaaW.PrintWords Go.Proofs.YtigcdbeaachkoaaW.PrintLast Go.Proofs.YtigcdbeaachkoaaW.PrintMore
set_option linter.unusedVariables false
set_option linter.unusedSimpArgs false

def Bytes (l : List Int) : Prop := ∀ x ∈ l, 0 ≤ x ∧ x ≤ 255
theorem to8 (a b c d e f g h : Int) : num_U64.to [a, b, c, d, e, f, g, h] 8 = (((((((0 * 256 + a) * 256 + b) * 256 + c) * 256 + d) * 256 + e) * 256 + f) * 256 + g) * 256 + h := rfl
theorem u64_be8 {n : Int} (h0 : 0 ≤ n) (h1 : n < 18446744073709551616) : num_U64.f (be8 n) = some n := by
  have hb : ∀ x ∈ (be8 n).take 8, 0 ≤ x ∧ x ≤ 255 := by
    intro x hx
    have hx := List.mem_of_mem_take hx
    simp only [be8, List.mem_cons, List.not_mem_nil, or_false] at hx
    omega
  unfold num_U64.f
  rw [if_pos ⟨by rw [be8_len]; omega, hb⟩]
  unfold be8
  rw [to8]
  have s7 : 0 * 256 + n / 72057594037927936 % 256 = n / 72057594037927936 := by omega
  have s6 : n / 72057594037927936 * 256 + n / 281474976710656 % 256 = n / 281474976710656 := by omega
  have s5 : n / 281474976710656 * 256 + n / 1099511627776 % 256 = n / 1099511627776 := by omega
  have s4 : n / 1099511627776 * 256 + n / 4294967296 % 256 = n / 4294967296 := by omega
  have s3 : n / 4294967296 * 256 + n / 16777216 % 256 = n / 16777216 := by omega
  have s2 : n / 16777216 * 256 + n / 65536 % 256 = n / 65536 := by omega
  have s1 : n / 65536 * 256 + n / 256 % 256 = n / 256 := by omega
  rw [s7, s6, s5, s4, s3, s2, s1]
  congr 1
  omega
theorem be8_u64 {l : List Int} (hb : Bytes l) (h8 : l.length = 8) : be8 (num_U64.to l 8) = l ∧ 0 ≤ num_U64.to l 8 ∧ num_U64.to l 8 < 18446744073709551616 := by
  match l, h8 with
  | [a, b, c, d, e, f, g, h], _ =>
    simp only [Bytes, List.mem_cons, List.not_mem_nil, or_false, forall_eq_or_imp, forall_eq] at hb
    obtain ⟨ha, hb', hc, hd, he, hf, hg, hh⟩ := hb
    rw [to8]
    obtain ⟨x1, e1⟩ : ∃ x, (0 * 256 + a) * 256 + b = x := ⟨_, rfl⟩
    obtain ⟨x2, e2⟩ : ∃ x, x1 * 256 + c = x := ⟨_, rfl⟩
    obtain ⟨x3, e3⟩ : ∃ x, x2 * 256 + d = x := ⟨_, rfl⟩
    obtain ⟨x4, e4⟩ : ∃ x, x3 * 256 + e = x := ⟨_, rfl⟩
    obtain ⟨x5, e5⟩ : ∃ x, x4 * 256 + f = x := ⟨_, rfl⟩
    obtain ⟨x6, e6⟩ : ∃ x, x5 * 256 + g = x := ⟨_, rfl⟩
    obtain ⟨x7, e7⟩ : ∃ x, x6 * 256 + h = x := ⟨_, rfl⟩
    rw [e1, e2, e3, e4, e5, e6, e7]
    have q1 : x7 / 256 = x6 := by omega
    have q2 : x7 / 65536 = x5 := by omega
    have q3 : x7 / 16777216 = x4 := by omega
    have q4 : x7 / 4294967296 = x3 := by omega
    have q5 : x7 / 1099511627776 = x2 := by omega
    have q6 : x7 / 281474976710656 = x1 := by omega
    have q7 : x7 / 72057594037927936 = a := by omega
    refine ⟨?_, by omega, by omega⟩
    unfold be8
    rw [q1, q2, q3, q4, q5, q6, q7]
    simp only [List.cons.injEq, and_true]
    omega

/-! ### what a reader takes -/
theorem tk_bad (rest : List Int) (n : Nat) : span_Cut.tk rest 3 n = (List.replicate n 0, rest, 3) := by
  unfold span_Cut.tk
  rw [if_neg (by decide)]
theorem tk_ge {X Y : List Int} {n m : Nat} (hX : X.length = n) (hm : n ≤ m) : span_Cut.tk ((X ++ Y).take m) 0 n = (X, Y.take (m - n), 0) := by
  unfold span_Cut.tk
  rw [if_pos rfl, if_neg (by simp; omega), List.take_take, Nat.min_eq_left hm, List.drop_take, List.take_left' hX, List.drop_left' hX]
theorem tk_lt {X Y : List Int} {n m : Nat} (hm : m < n) : span_Cut.tk ((X ++ Y).take m) 0 n = (List.replicate n 0, (X ++ Y).take m, 3) := by
  unfold span_Cut.tk
  rw [if_pos rfl, if_pos (by simp; omega)]
theorem zeros8 : num_U64.f (List.replicate 8 0) = some 0 := by decide
theorem nm_bad (rest : List Int) : span_Cut.nm rest 3 = some (0, rest, 3) := by
  unfold span_Cut.nm
  rw [tk_bad, zeros8]
  rfl
theorem nm_ge {n : Int} (h0 : 0 ≤ n) (h1 : n < 18446744073709551616) {Y : List Int} {m : Nat} (hm : 8 ≤ m) : span_Cut.nm ((be8 n ++ Y).take m) 0 = some (n, Y.take (m - 8), 0) := by
  unfold span_Cut.nm
  rw [tk_ge (be8_len n) hm, u64_be8 h0 h1]
  rfl
theorem nm_lt {n : Int} {Y : List Int} {m : Nat} (hm : m < 8) : ∃ r, span_Cut.nm ((be8 n ++ Y).take m) 0 = some (0, r, 3) := by
  unfold span_Cut.nm
  rw [tk_lt hm, zeros8]
  exact ⟨_, rfl⟩
theorem sm_bad (rest : List Int) (lo hi : Int) : span_Cut.sm rest 3 lo hi = (0, rest, 3) := by
  unfold span_Cut.sm
  rw [tk_bad]
  simp only [show ¬ ((3 : Int) = 0) by decide, false_and, if_false]
  rfl
theorem sm_ge {c lo hi : Int} (h0 : lo ≤ c) (h1 : c ≤ hi) {Y : List Int} {m : Nat} (hm : 1 ≤ m) : span_Cut.sm ((c :: Y).take m) 0 lo hi = (c, Y.take (m - 1), 0) := by
  unfold span_Cut.sm
  rw [show c :: Y = [c] ++ Y from rfl, tk_ge (X := [c]) (n := 1) rfl hm]
  have e : rd [c] 0 = c := rfl
  simp only [e]
  rw [if_neg (by omega)]
theorem sm_lt {c lo hi : Int} {Y : List Int} : span_Cut.sm ((c :: Y).take 0) 0 lo hi = (0, [], 3) := rfl
theorem tx_bad (rest : List Int) : span_Cut.tx rest 3 = (⟨#[]⟩, rest, 3) := by
  unfold span_Cut.tx
  rw [sm_bad]
  rfl
theorem str_bytes (s : ByteArray) : strOfNums (bytesOf s) = s := by
  unfold strOfNums bytesOf
  rw [List.map_map]
  have : ((fun n : Int => UInt8.ofNat n.toNat) ∘ fun b : UInt8 => (b.toNat : Int)) = id := by
    funext b
    simp
  rw [this, List.map_id]
theorem tx_lt {s : ByteArray} (h1 : 1 ≤ s.size) (h2 : s.size ≤ 32) {Y : List Int} {m : Nat} (hm : m < s.size + 1) : ∃ t r, span_Cut.tx ((txt s ++ Y).take m) 0 = (t, r, 3) := by
  unfold span_Cut.tx txt
  rw [List.cons_append, show (s.size : Int) % 256 = s.size by omega]
  rcases Nat.eq_zero_or_pos m with rfl | hp
  · exact ⟨_, _, rfl⟩
  · rw [sm_ge (by omega) (by omega) hp]
    rw [if_pos rfl, Int.toNat_natCast, tk_lt (by omega)]
    exact ⟨_, _, rfl⟩
theorem tx_ge {s : ByteArray} (h1 : 1 ≤ s.size) (h2 : s.size ≤ 32) {Y : List Int} {m : Nat} (hm : s.size + 1 ≤ m) : span_Cut.tx ((txt s ++ Y).take m) 0 = (s, Y.take (m - (s.size + 1)), 0) := by
  unfold span_Cut.tx txt
  rw [List.cons_append, show (s.size : Int) % 256 = s.size by omega, sm_ge (by omega) (by omega) (by omega)]
  rw [if_pos rfl, Int.toNat_natCast, tk_ge (bytesOf_length s) (by omega), str_bytes]
  rw [show m - 1 - s.size = m - (s.size + 1) by omega]
theorem name_size {s : ByteArray} (h : span_Name.f s = some 0) : 1 ≤ s.size ∧ s.size ≤ 32 := by
  unfold span_Name.f at h
  split at h
  · cases h
  · rename_i hn
    have hz : ¬ s.size = 0 := fun e => hn (.inl (by rw [ByteArray.toList_eq]; exact List.eq_nil_of_length_eq_zero (by rw [data_length]; exact e)))
    omega
theorem right_zero {t i s l : Int} {sv nm : ByteArray} (h : rightN t i s l sv nm = some 0) : (1 ≤ sv.size ∧ sv.size ≤ 32) ∧ (1 ≤ nm.size ∧ nm.size ≤ 32) := by
  unfold rightN at h
  split at h
  · cases h
  · obtain ⟨x, hx, vx⟩ := name_val sv
    obtain ⟨y, hy, vy⟩ := name_val nm
    rw [hx, hy] at h
    simp only [Option.bind_some, Option.some.injEq] at h
    split at h
    · rename_i h0
      subst h0 h
      exact ⟨name_size hx, name_size hy⟩
    · rename_i h0
      exact absurd h h0

/-! ### a span's bytes -/
theorem spanL_assoc (a0 a1 a2 a3 a4 : Int) (a5 a6 : ByteArray) (a7 : Bool) (Y : List Int) : spanL a0 a1 a2 a3 a4 a5 a6 a7 ++ Y = be8 a0 ++ (be8 a1 ++ (be8 a2 ++ (be8 a3 ++ (be8 a4 ++ ((if a7 = true then 1 else 0) :: (txt a5 ++ (txt a6 ++ Y))))))) := by
  simp [spanL]
theorem flag_eq (a7 : Bool) : ((if a7 = true then (1 : Int) else 0) == 1) = a7 := by cases a7 <;> rfl
/-- What is read of a span's first m bytes. -/
theorem cut_take (a0 a1 a2 a3 a4 : Int) (a5 a6 : ByteArray) (a7 : Bool) (hr : ∀ x ∈ [a0, a1, a2, a3, a4], 0 ≤ x ∧ x < 18446744073709551616) (hR : rightN a0 a1 a3 a4 a5 a6 = some 0) (Y : List Int) (hY : Y.length ≤ 140737488355328) (m : Nat) :
    span_Cut.f ((spanL a0 a1 a2 a3 a4 a5 a6 a7 ++ Y).take m) = if m < 43 + a5.size + a6.size then some (0, 0, 0, 0, 0, ⟨#[]⟩, ⟨#[]⟩, false, [], 3) else some (a0, a1, a2, a3, a4, a5, a6, a7, Y.take (m - (43 + a5.size + a6.size)), 0) := by
  obtain ⟨⟨s1, s2⟩, ⟨t1, t2⟩⟩ := right_zero hR
  have r0 := hr a0 (by simp)
  have r1 := hr a1 (by simp)
  have r2 := hr a2 (by simp)
  have r3 := hr a3 (by simp)
  have r4 := hr a4 (by simp)
  rw [spanL_assoc]
  unfold span_Cut.f
  have bad : ¬ ((3 : Int) = 0) := by decide
  by_cases c0 : m < 8
  · obtain ⟨r, e⟩ := nm_lt (n := a0) (Y := be8 a1 ++ (be8 a2 ++ (be8 a3 ++ (be8 a4 ++ ((if a7 = true then 1 else 0) :: (txt a5 ++ (txt a6 ++ Y))))))) c0
    rw [e, if_pos (by omega)]
    simp only [Option.bind_some, nm_bad, sm_bad, tx_bad, bad, if_false]
  rw [nm_ge r0.1 r0.2 (by omega)]
  simp only [Option.bind_some]
  by_cases c1 : m - 8 < 8
  · obtain ⟨r, e⟩ := nm_lt (n := a1) (Y := be8 a2 ++ (be8 a3 ++ (be8 a4 ++ ((if a7 = true then 1 else 0) :: (txt a5 ++ (txt a6 ++ Y)))))) c1
    rw [e, if_pos (by omega)]
    simp only [Option.bind_some, nm_bad, sm_bad, tx_bad, bad, if_false]
  rw [nm_ge r1.1 r1.2 (by omega)]
  simp only [Option.bind_some]
  by_cases c2 : m - 8 - 8 < 8
  · obtain ⟨r, e⟩ := nm_lt (n := a2) (Y := be8 a3 ++ (be8 a4 ++ ((if a7 = true then 1 else 0) :: (txt a5 ++ (txt a6 ++ Y))))) c2
    rw [e, if_pos (by omega)]
    simp only [Option.bind_some, nm_bad, sm_bad, tx_bad, bad, if_false]
  rw [nm_ge r2.1 r2.2 (by omega)]
  simp only [Option.bind_some]
  by_cases c3 : m - 8 - 8 - 8 < 8
  · obtain ⟨r, e⟩ := nm_lt (n := a3) (Y := be8 a4 ++ ((if a7 = true then 1 else 0) :: (txt a5 ++ (txt a6 ++ Y)))) c3
    rw [e, if_pos (by omega)]
    simp only [Option.bind_some, nm_bad, sm_bad, tx_bad, bad, if_false]
  rw [nm_ge r3.1 r3.2 (by omega)]
  simp only [Option.bind_some]
  by_cases c4 : m - 8 - 8 - 8 - 8 < 8
  · obtain ⟨r, e⟩ := nm_lt (n := a4) (Y := (if a7 = true then 1 else 0) :: (txt a5 ++ (txt a6 ++ Y))) c4
    rw [e, if_pos (by omega)]
    simp only [Option.bind_some, sm_bad, tx_bad, bad, if_false]
  rw [nm_ge r4.1 r4.2 (by omega)]
  simp only [Option.bind_some]
  by_cases c5 : m - 8 - 8 - 8 - 8 - 8 < 1
  · have e0 : m - 8 - 8 - 8 - 8 - 8 = 0 := by omega
    rw [e0, sm_lt]
    simp only [Option.bind_some, tx_bad, bad, if_false]
    rw [if_pos (by omega)]
  rw [sm_ge (by split <;> omega) (by split <;> omega) (by omega)]
  simp only
  by_cases c6 : m - 8 - 8 - 8 - 8 - 8 - 1 < a5.size + 1
  · obtain ⟨t, r, e⟩ := tx_lt s1 s2 (Y := txt a6 ++ Y) c6
    rw [e]
    simp only [Option.bind_some, tx_bad, bad, if_false]
    rw [if_pos (by omega)]
  rw [tx_ge s1 s2 (by omega)]
  simp only
  by_cases c7 : m - 8 - 8 - 8 - 8 - 8 - 1 - (a5.size + 1) < a6.size + 1
  · obtain ⟨t, r, e⟩ := tx_lt t1 t2 (Y := Y) c7
    rw [e]
    simp only [Option.bind_some, bad, if_false]
    rw [if_pos (by omega)]
  rw [tx_ge t1 t2 (by omega)]
  simp only [if_true, flag_eq]
  have hfin : ¬ m < 43 + a5.size + a6.size := by omega
  rw [right_eq _ _ _ _ _ _ _ _ (by omega), hR]
  simp only [Option.bind_some, if_true, hfin, if_false]
  unfold slices_Clone_byte_byte.f
  rw [if_pos (by simp; omega)]
  simp only [Option.bind_some]
  rw [show m - 8 - 8 - 8 - 8 - 8 - 1 - (a5.size + 1) - (a6.size + 1) = m - (43 + a5.size + a6.size) by omega]
theorem cut_span (a0 a1 a2 a3 a4 : Int) (a5 a6 : ByteArray) (a7 : Bool) (hr : ∀ x ∈ [a0, a1, a2, a3, a4], 0 ≤ x ∧ x < 18446744073709551616) (hR : rightN a0 a1 a3 a4 a5 a6 = some 0) (Y : List Int) (hY : Y.length ≤ 140737488355328) :
    span_Cut.f (spanL a0 a1 a2 a3 a4 a5 a6 a7 ++ Y) = some (a0, a1, a2, a3, a4, a5, a6, a7, Y, 0) := by
  have := cut_take a0 a1 a2 a3 a4 a5 a6 a7 hr hR Y hY (spanL a0 a1 a2 a3 a4 a5 a6 a7 ++ Y).length
  rw [List.take_length, List.length_append, spanL_len, if_neg (by omega), show 43 + a5.size + a6.size + Y.length - (43 + a5.size + a6.size) = Y.length by omega, List.take_length] at this
  exact this
end Go.Proofs.Ytigcdbeaachkoaa.PAll
