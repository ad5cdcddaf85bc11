/-
  The plain law of names: what span.Name and the document's name compute are the same; SpanNames.
  Conditions: none.
-/
import Derived.Lib.DecodeN
import Derived.Lib.RuneCountTail
import Derived.Test.YtemepnpfhoidhaaGreatDoorPAllx1m
import Derived.Test.YtemepnpfhoidhaaGreatDoorPAllx3m
namespace Go.Proofs.YtemepnpfhoidhaaGreatDoor.PAll
open Go.RowKit Go.Lib Go.Proofs.YtemepnpfhoidhaaGreatDoorW.PrintWords Go.Proofs.YtemepnpfhoidhaaGreatDoorW.PrintLast Go.Proofs.YtemepnpfhoidhaaGreatDoorW.PrintMore
set_option linter.unusedVariables false
set_option linter.unusedSimpArgs false

/-! ### one rune -/
theorem dec_ge1 (n b0 b1 b2 b3 : Nat) : 1 ≤ (decodeN n b0 b1 b2 b3).2 := by
  unfold decodeN
  repeat' split
  all_goals simp
theorem dec_le_n (n b0 b1 b2 b3 : Nat) (hn : 1 ≤ n) : (decodeN n b0 b1 b2 b3).2 ≤ n := by
  unfold decodeN
  repeat' split
  all_goals (simp only; omega)
theorem bt_get (s : ByteArray) (i : Nat) : bt s (i : Int) = ((s.get! i).toNat : Int) := by
  unfold bt
  simp only [Int.toNat_natCast]
  by_cases h : i < s.size
  · rw [dif_pos h]
    rw [← getD_get!']
    simp [List.getD, ByteArray.getElem_eq_getElem_data]
    rw [Array.getElem?_eq_getElem (by simpa using h)]
    rfl
  · rw [dif_neg h, ← getD_get!']
    simp [List.getD]
    rw [Array.getElem?_eq_none (by simpa using h)]
    rfl
/-- Are the bytes there no rune's? -/
def inv (s : ByteArray) (pos : Nat) : Bool := decide ((Utf8.decode s pos).2 = 1) && decide (128 ≤ (s.get! pos).toNat)
theorem inv_tail (s : ByteArray) (pos : Nat) : inv (s.extract pos s.size) 0 = inv s pos := by
  unfold inv
  rw [tail_decode, tail_get!]
  rfl
theorem w32 {x : Int} (h : -2147483648 ≤ x ∧ x ≤ 2147483647) : wrap32 x = x := by unfold wrap32; omega
theorem rune_end {x : ByteArray} {k : Nat} {n least r : Int} (i : Int) (h : ¬ i < n) : winnowref03_Rune.l0 (k + 1) x n least r i = (if r < least then some (0, 0) else if r > 1114111 then some (0, 0) else if r ≥ 55296 ∧ r ≤ 57343 then some (0, 0) else some (r, n)) := by
  rw [winnowref03_Rune.l0, if_neg h]
  by_cases h1 : r < least
  · rw [if_pos h1, if_pos h1]
  rw [if_neg h1, if_neg h1]
  by_cases h2 : r > 1114111
  · rw [if_pos h2, if_pos h2]
  rw [if_neg h2, if_neg h2]
  by_cases h3 : r ≥ 55296
  · rw [if_pos h3]
    by_cases h4 : r ≤ 57343
    · rw [if_pos h4, if_pos ⟨h3, h4⟩]
    · rw [if_neg h4, if_neg (fun h => h4 h.2)]
  · rw [if_neg h3, if_neg (fun h => h3 h.1)]
theorem rune_step {x : ByteArray} {k : Nat} {n least r : Int} (i j : Nat) (hj : j = i + 1) (hi4 : i ≤ 4) (hi : (i : Int) < n) (hn : i < x.size) (hr : 0 ≤ r ∧ r ≤ 1000000) : winnowref03_Rune.l0 (k + 1) x n least r i = (if (x.get! i).toNat < 128 ∨ 191 < (x.get! i).toNat then some (0, 0) else winnowref03_Rune.l0 k x n least (r * 64 + (x.get! i).toNat - 128) (j : Int)) := by
  subst hj
  have hb : (x.get! i).toNat < 256 := (x.get! i).toNat_lt
  rw [winnowref03_Rune.l0, if_pos hi, if_pos (by omega), if_pos (by omega), bt_get]
  by_cases h1 : (x.get! i).toNat < 128
  · rw [if_pos (by omega), if_pos (.inl h1)]
  · rw [if_neg (by omega)]
    by_cases h2 : 191 < (x.get! i).toNat
    · rw [if_pos (by omega), if_pos (.inr h2)]
    · rw [if_neg (by omega), if_neg (by omega), w32 (x := r * 64) (by omega), w32 (x := ((x.get! i).toNat : Int)) (by omega), w32 (x := r * 64 + ((x.get! i).toNat : Int)) (by omega), w32 (x := r * 64 + ((x.get! i).toNat : Int) - 128) (by omega)]
      congr 1
      unfold wrap64
      omega
/-- The rune that n bytes begin with, by the document. -/
def runeN (n b0 b1 b2 b3 : Nat) : Option (Int × Int) :=
  if b0 < 128 then some (b0, 1) else
  if 194 ≤ b0 ∧ b0 ≤ 223 then (if n < 2 then some (0, 0) else if b1 < 128 ∨ 191 < b1 then some (0, 0) else
    if ((b0 : Int) - 192) * 64 + b1 - 128 < 128 then some (0, 0) else if ((b0 : Int) - 192) * 64 + b1 - 128 > 1114111 then some (0, 0) else if ((b0 : Int) - 192) * 64 + b1 - 128 ≥ 55296 ∧ ((b0 : Int) - 192) * 64 + b1 - 128 ≤ 57343 then some (0, 0) else some (((b0 : Int) - 192) * 64 + b1 - 128, 2)) else
  if 224 ≤ b0 ∧ b0 ≤ 239 then (if n < 3 then some (0, 0) else if b1 < 128 ∨ 191 < b1 then some (0, 0) else if b2 < 128 ∨ 191 < b2 then some (0, 0) else
    if (((b0 : Int) - 224) * 64 + b1 - 128) * 64 + b2 - 128 < 2048 then some (0, 0) else if (((b0 : Int) - 224) * 64 + b1 - 128) * 64 + b2 - 128 > 1114111 then some (0, 0) else if (((b0 : Int) - 224) * 64 + b1 - 128) * 64 + b2 - 128 ≥ 55296 ∧ (((b0 : Int) - 224) * 64 + b1 - 128) * 64 + b2 - 128 ≤ 57343 then some (0, 0) else some ((((b0 : Int) - 224) * 64 + b1 - 128) * 64 + b2 - 128, 3)) else
  if 240 ≤ b0 ∧ b0 ≤ 244 then (if n < 4 then some (0, 0) else if b1 < 128 ∨ 191 < b1 then some (0, 0) else if b2 < 128 ∨ 191 < b2 then some (0, 0) else if b3 < 128 ∨ 191 < b3 then some (0, 0) else
    if ((((b0 : Int) - 240) * 64 + b1 - 128) * 64 + b2 - 128) * 64 + b3 - 128 < 65536 then some (0, 0) else if ((((b0 : Int) - 240) * 64 + b1 - 128) * 64 + b2 - 128) * 64 + b3 - 128 > 1114111 then some (0, 0) else if ((((b0 : Int) - 240) * 64 + b1 - 128) * 64 + b2 - 128) * 64 + b3 - 128 ≥ 55296 ∧ ((((b0 : Int) - 240) * 64 + b1 - 128) * 64 + b2 - 128) * 64 + b3 - 128 ≤ 57343 then some (0, 0) else some (((((b0 : Int) - 240) * 64 + b1 - 128) * 64 + b2 - 128) * 64 + b3 - 128, 4)) else some (0, 0)
theorem rune_n {x : ByteArray} (h0 : 0 < x.size) {k : Nat} (hk : 20 ≤ k) : winnowref03_Rune.f k x = runeN x.size (x.get! 0).toNat (x.get! 1).toNat (x.get! 2).toNat (x.get! 3).toNat := by
  obtain ⟨k, rfl⟩ : ∃ j, k = j + 20 := ⟨k - 20, by omega⟩
  have hb0 := bt_get x 0
  have l0 : (x.get! 0).toNat < 256 := (x.get! 0).toNat_lt
  have l1 : (x.get! 1).toNat < 256 := (x.get! 1).toNat_lt
  have l2 : (x.get! 2).toNat < 256 := (x.get! 2).toNat_lt
  have l3 : (x.get! 3).toNat < 256 := (x.get! 3).toNat_lt
  rw [show ((0 : Nat) : Int) = 0 from rfl] at hb0
  unfold winnowref03_Rune.f runeN
  rw [if_neg (by omega), if_pos (by omega), hb0, w32 (x := ((x.get! 0).toNat : Int)) (by omega)]
  by_cases c0 : (x.get! 0).toNat < 128
  · rw [if_pos (by omega), if_pos c0]
  rw [if_neg (by omega), if_neg c0]
  by_cases c1 : 194 ≤ (x.get! 0).toNat ∧ (x.get! 0).toNat ≤ 223
  · rw [if_pos (by omega), if_pos c1, decide_eq_true (by omega), winnowref03_Rune.j0, if_pos rfl, w32 (x := ((x.get! 0).toNat : Int)) (by omega), w32 (by omega), winnowref03_Rune.j2, if_neg (by omega)]
    by_cases c2 : x.size < 2
    · rw [decide_eq_true (by omega), winnowref03_Rune.j3, if_pos rfl, if_pos c2]
    · rw [decide_eq_false (by omega), winnowref03_Rune.j3, if_neg (by decide), if_neg c2, show (1 : Int) = ((1 : Nat) : Int) from rfl, rune_step 1 2 rfl (by omega) (by omega) (by omega) (by omega)]
      by_cases c3 : (x.get! 1).toNat < 128 ∨ 191 < (x.get! 1).toNat
      · rw [if_pos c3, if_pos c3]
      · rw [if_neg c3, if_neg c3, rune_end _ (by omega)]
  rw [if_neg c1]
  have hd : (if ((x.get! 0).toNat : Int) ≥ 194 then (winnowref03_Rune.j0 (k + 20) x ((x.get! 0).toNat : Int) 0 0 0 (decide (((x.get! 0).toNat : Int) ≤ 223))) else (winnowref03_Rune.j0 (k + 20) x ((x.get! 0).toNat : Int) 0 0 0 false)) = winnowref03_Rune.j0 (k + 20) x ((x.get! 0).toNat : Int) 0 0 0 false := by
    split
    · rw [decide_eq_false (by omega)]
    · rfl
  rw [hd, winnowref03_Rune.j0, if_neg (by decide)]
  by_cases c2 : 224 ≤ (x.get! 0).toNat ∧ (x.get! 0).toNat ≤ 239
  · rw [if_pos (by omega), if_pos c2, decide_eq_true (by omega), winnowref03_Rune.j1, if_pos rfl, w32 (x := ((x.get! 0).toNat : Int)) (by omega), w32 (by omega), winnowref03_Rune.j2, if_neg (by omega)]
    by_cases c3 : x.size < 3
    · rw [decide_eq_true (by omega), winnowref03_Rune.j3, if_pos rfl, if_pos c3]
    · rw [decide_eq_false (by omega), winnowref03_Rune.j3, if_neg (by decide), if_neg c3, show (1 : Int) = ((1 : Nat) : Int) from rfl, rune_step 1 2 rfl (by omega) (by omega) (by omega) (by omega)]
      by_cases c4 : (x.get! 1).toNat < 128 ∨ 191 < (x.get! 1).toNat
      · rw [if_pos c4, if_pos c4]
      · rw [if_neg c4, if_neg c4, rune_step 2 3 rfl (by omega) (by omega) (by omega) (by omega)]
        by_cases c5 : (x.get! 2).toNat < 128 ∨ 191 < (x.get! 2).toNat
        · rw [if_pos c5, if_pos c5]
        · rw [if_neg c5, if_neg c5, rune_end _ (by omega)]
  rw [if_neg c2]
  have hd2 : (if ((x.get! 0).toNat : Int) ≥ 224 then (winnowref03_Rune.j1 (k + 19) x ((x.get! 0).toNat : Int) 0 0 0 (decide (((x.get! 0).toNat : Int) ≤ 239))) else (winnowref03_Rune.j1 (k + 19) x ((x.get! 0).toNat : Int) 0 0 0 false)) = winnowref03_Rune.j1 (k + 19) x ((x.get! 0).toNat : Int) 0 0 0 false := by
    split
    · rw [decide_eq_false (by omega)]
    · rfl
  rw [hd2, winnowref03_Rune.j1, if_neg (by decide)]
  by_cases c3 : 240 ≤ (x.get! 0).toNat ∧ (x.get! 0).toNat ≤ 244
  · rw [if_pos (by omega), if_pos (by omega), if_pos c3, w32 (x := ((x.get! 0).toNat : Int)) (by omega), w32 (by omega), winnowref03_Rune.j2, if_neg (by omega)]
    by_cases c4 : x.size < 4
    · rw [decide_eq_true (by omega), winnowref03_Rune.j3, if_pos rfl, if_pos c4]
    · rw [decide_eq_false (by omega), winnowref03_Rune.j3, if_neg (by decide), if_neg c4, show (1 : Int) = ((1 : Nat) : Int) from rfl, rune_step 1 2 rfl (by omega) (by omega) (by omega) (by omega)]
      by_cases c5 : (x.get! 1).toNat < 128 ∨ 191 < (x.get! 1).toNat
      · rw [if_pos c5, if_pos c5]
      · rw [if_neg c5, if_neg c5, rune_step 2 3 rfl (by omega) (by omega) (by omega) (by omega)]
        by_cases c6 : (x.get! 2).toNat < 128 ∨ 191 < (x.get! 2).toNat
        · rw [if_pos c6, if_pos c6]
        · rw [if_neg c6, if_neg c6, rune_step 3 4 rfl (by omega) (by omega) (by omega) (by omega)]
          by_cases c7 : (x.get! 3).toNat < 128 ∨ 191 < (x.get! 3).toNat
          · rw [if_pos c7, if_pos c7]
          · rw [if_neg c7, if_neg c7, rune_end _ (by omega)]
  rw [if_neg c3]
  have hd3 : (if ((x.get! 0).toNat : Int) ≥ 240 then (if ((x.get! 0).toNat : Int) ≤ 244 then (winnowref03_Rune.j2 (k + 18) x 4 65536 (wrap32 ((wrap32 ((x.get! 0).toNat : Int)) - 240))) else (winnowref03_Rune.j2 (k + 18) x 0 0 0)) else (winnowref03_Rune.j2 (k + 18) x 0 0 0)) = winnowref03_Rune.j2 (k + 18) x 0 0 0 := by
    split
    · rw [if_neg (by omega)]
    · rfl
  rw [hd3, winnowref03_Rune.j2, if_pos rfl, winnowref03_Rune.j3, if_pos rfl]
set_option maxRecDepth 100000 in
set_option maxHeartbeats 4000000 in
theorem runeN_eq (n b0 b1 b2 b3 : Nat) (hn : 1 ≤ n) (h0 : b0 < 256) (h1 : b1 < 256) (h2 : b2 < 256) (h3 : b3 < 256) : runeN n b0 b1 b2 b3 = some (if (decodeN n b0 b1 b2 b3).2 = 1 ∧ 128 ≤ b0 then (0, 0) else (((decodeN n b0 b1 b2 b3).1 : Int), ((decodeN n b0 b1 b2 b3).2 : Int))) := by
  unfold runeN decodeN
  by_cases c0 : b0 < 128
  · rw [if_pos c0, if_pos c0, if_neg (by omega)]
    rfl
  rw [if_neg c0, if_neg c0]
  by_cases c1 : 194 ≤ b0 ∧ b0 ≤ 223
  · rw [if_pos c1]
    repeat' split
    all_goals first | (exfalso; omega) | (simp only [Option.some.injEq, Prod.mk.injEq]; omega) | rfl
  rw [if_neg c1]
  by_cases c2 : 224 ≤ b0 ∧ b0 ≤ 239
  · have e1 : ¬ b0 / 32 = 6 := by omega
    rw [if_pos c2]
    simp only [e1, false_and, if_false]
    repeat' split
    all_goals first | (exfalso; omega) | (simp only [Option.some.injEq, Prod.mk.injEq] at *; omega) | (simp only at * <;> first | rfl | (exfalso; omega))
  rw [if_neg c2]
  by_cases c3 : 240 ≤ b0 ∧ b0 ≤ 244
  · have e1 : ¬ b0 / 32 = 6 := by omega
    have e2 : ¬ b0 / 16 = 14 := by omega
    rw [if_pos c3]
    simp only [e1, e2, false_and, if_false]
    repeat' split
    all_goals first | (exfalso; omega) | (simp only [Option.some.injEq, Prod.mk.injEq] at *; omega) | (simp only at * <;> first | rfl | (exfalso; omega))
  rw [if_neg c3]
  repeat' split
  all_goals first | (exfalso; omega) | (simp only [Option.some.injEq, Prod.mk.injEq] at *; omega) | (simp only at * <;> first | rfl | (exfalso; omega))
theorem rune_eq {x : ByteArray} (h0 : 0 < x.size) {k : Nat} (hk : 20 ≤ k) : winnowref03_Rune.f k x = some (if inv x 0 = true then (0, 0) else (((Utf8.decode x 0).1 : Int), ((Utf8.decode x 0).2 : Int))) := by
  rw [rune_n h0 hk, runeN_eq _ _ _ _ _ h0 (x.get! 0).toNat_lt (x.get! 1).toNat_lt (x.get! 2).toNat_lt (x.get! 3).toNat_lt]
  have hd := decode_at x 0
  simp only [Nat.zero_add, Nat.sub_zero] at hd
  rw [← hd]
  unfold inv
  by_cases hi : (Utf8.decode x 0).2 = 1 ∧ 128 ≤ (x.get! 0).toNat
  · rw [if_pos hi, if_pos (by simp [hi.1, hi.2])]
  · rw [if_neg hi, if_neg (by rw [Bool.and_eq_true, decide_eq_true_eq, decide_eq_true_eq]; exact hi)]

/-! ### what no name has -/
def ctl (r : Int) : Bool := decide (r < 32) || (decide (127 ≤ r) && decide (r ≤ 159))
theorem decode_ge (x : ByteArray) : 1 ≤ (Utf8.decode x 0).2 := by rw [decode_at]; exact dec_ge1 _ _ _ _ _
theorem decode_le2 (x : ByteArray) (h : 0 < x.size) : (Utf8.decode x 0).2 ≤ x.size := by rw [decode_at]; exact dec_le_n _ _ _ _ _ h
set_option maxRecDepth 100000 in
theorem prefix_eq {x : ByteArray} (h : 0 < x.size) (hr : (Utf8.decode x 0).1 = 65533) : strings_HasPrefix.f x ⟨#[239, 191, 189]⟩ = some true ↔ ¬ inv x 0 = true := by
  unfold inv
  rw [Bool.and_eq_true, decide_eq_true_eq, decide_eq_true_eq]
  rw [decode_at] at *
  have l0 : (x.get! 0).toNat < 256 := (x.get! 0).toNat_lt
  have l1 : (x.get! 1).toNat < 256 := (x.get! 1).toNat_lt
  have l2 : (x.get! 2).toNat < 256 := (x.get! 2).toNat_lt
  have l3 : (x.get! 3).toNat < 256 := (x.get! 3).toNat_lt
  simp only [Nat.zero_add, Nat.sub_zero] at *
  have key : (3 ≤ x.size ∧ (x.get! 0).toNat = 239 ∧ (x.get! 1).toNat = 191 ∧ (x.get! 2).toNat = 189) ↔ ¬ ((decodeN x.size (x.get! 0).toNat (x.get! 1).toNat (x.get! 2).toNat (x.get! 3).toNat).2 = 1 ∧ 128 ≤ (x.get! 0).toNat) := by
    revert hr
    unfold decodeN
    repeat' split
    all_goals first | (intro hr; constructor <;> intro h <;> omega) | (intro hr; simp only at *; constructor <;> intro h <;> omega)
  rw [← key]
  unfold strings_HasPrefix.f stringslite_HasPrefix.f
  have hs : (ByteArray.mk #[239, 191, 189]).size = 3 := rfl
  rw [hs]
  by_cases h3 : 3 ≤ x.size
  · rw [if_pos (by omega), if_pos (by omega), if_pos (by omega)]
    simp only [Option.bind_some, Option.some.injEq, beq_iff_eq]
    have hx : (x.extract 0 ((3 : Nat) : Int).toNat).toList = [x.get! 0, x.get! 1, x.get! 2] := by
      have e : (x.extract 0 ((3 : Nat) : Int).toNat).toList = x.data.toList.take 3 := by
        rw [ByteArray.toList_eq]
        simp
      rw [e]
      have hl : 3 ≤ x.data.toList.length := by rw [data_length]; exact h3
      match hd : x.data.toList, hl with
      | a :: b :: c :: t, _ =>
        have g : ∀ i : Nat, x.get! i = (a :: b :: c :: t).getD i 0 := fun i => by rw [← getD_get!', hd]
        rw [g 0, g 1, g 2]
        rfl
    have hy : (ByteArray.mk #[239, 191, 189]).toList = [239, 191, 189] := ByteArray.toList_mk [239, 191, 189]
    rw [hx, hy]
    simp only [List.cons.injEq, and_true]
    have t : ∀ (u : UInt8) (n : Nat) (hn : n < 256), (u = UInt8.ofNat n ↔ u.toNat = n) := fun u n hn => by
      constructor
      · rintro rfl
        simp
        omega
      · intro e
        apply UInt8.toNat_inj.1
        rw [e]
        simp
        omega
    rw [show (239 : UInt8) = UInt8.ofNat 239 from rfl, show (191 : UInt8) = UInt8.ofNat 191 from rfl, show (189 : UInt8) = UInt8.ofNat 189 from rfl, t _ 239 (by omega), t _ 191 (by omega), t _ 189 (by omega)]
    constructor
    · rintro ⟨a, b, c⟩
      exact ⟨h3, a, b, c⟩
    · rintro ⟨_, a, b, c⟩
      exact ⟨a, b, c⟩
  · rw [if_neg (by omega)]
    simp only [Option.bind_some, Option.some.injEq, Bool.false_eq_true, false_iff]
    omega
theorem inv_rune (n b0 b1 b2 b3 : Nat) : (decodeN n b0 b1 b2 b3).1 ≠ 65533 → ¬ ((decodeN n b0 b1 b2 b3).2 = 1 ∧ 128 ≤ b0) := by
  unfold decodeN
  repeat' split
  all_goals (intro a b; first | exact absurd rfl a | omega | (simp only at b; omega))
theorem bad_eq' (s : ByteArray) (pos : Nat) (h : pos < s.size) : span_Name.bad s pos = (ctl ((Utf8.decode s pos).1 : Int) || inv s pos) := by
  have hsz : (s.extract pos s.size).size = s.size - pos := tail_size s pos
  have hd := tail_decode s pos 0
  have hi := inv_tail s pos
  rw [Nat.add_zero] at hd
  have e1 : decide (((Utf8.decode s pos).1 : Int) < 32) = decide ((Utf8.decode s pos).1 < 32) := decide_eq_decide.2 (by omega)
  have e2 : decide ((127 : Int) ≤ ((Utf8.decode s pos).1 : Int)) = decide (127 ≤ (Utf8.decode s pos).1) := decide_eq_decide.2 (by omega)
  have e3 : decide (((Utf8.decode s pos).1 : Int) ≤ 159) = decide ((Utf8.decode s pos).1 ≤ 159) := decide_eq_decide.2 (by omega)
  unfold span_Name.bad ctl
  rw [e1, e2, e3]
  refine congrArg (or _) ?_
  by_cases h5 : (Utf8.decode s pos).1 = 65533
  · have hp := prefix_eq (x := s.extract pos s.size) (by rw [hsz]; omega) (by rw [hd]; exact h5)
    rw [hi] at hp
    rw [decide_eq_true h5, Bool.true_and]
    cases hv : inv s pos with
    | true => rw [decide_eq_false (fun e => hp.1 e hv)]; rfl
    | false => rw [decide_eq_true (hp.2 (by rw [hv]; decide))]; rfl
  · have hv : inv s pos = false := by
      have := inv_rune (s.size - pos) (s.get! pos).toNat (s.get! (pos + 1)).toNat (s.get! (pos + 2)).toNat (s.get! (pos + 3)).toNat
      rw [← decode_at] at this
      have := this h5
      unfold inv
      rw [Bool.and_eq_false_iff, decide_eq_false_iff_not, decide_eq_false_iff_not]
      exact Decidable.not_and_iff_or_not.1 this
    rw [decide_eq_false h5, hv]
    rfl
/-- The runes of what is left, if it is right. -/
def scan (s : ByteArray) : Nat → Nat → Option (List Int)
  | 0, _ => some []
  | b + 1, pos => if pos < s.size then (if inv s pos = true then none else (scan s b (pos + (Utf8.decode s pos).2)).map (((Utf8.decode s pos).1 : Int) :: ·)) else some []
theorem name_scan (s : ByteArray) : ∀ b pos, span_Name.l s b pos = match scan s b pos with | none => 5 | some rs => if rs.any ctl then 5 else 0
  | 0, pos => rfl
  | b + 1, pos => by
    unfold span_Name.l scan
    by_cases h : pos < s.size
    · rw [if_pos h, if_pos h, bad_eq' s pos h]
      cases hi : inv s pos with
      | true => simp
      | false =>
        rw [if_neg (show ¬ (false = true) by decide), name_scan s b, Bool.or_false]
        cases hs : scan s b (pos + (Utf8.decode s pos).2) with
        | none => simp
        | some rs =>
          simp only [Option.map_some, List.any_cons]
          rcases Bool.eq_false_or_eq_true (ctl ((Utf8.decode s pos).1 : Int)) with hc | hc <;> simp [hc]
    · rw [if_neg h, if_neg h]
      rfl
theorem runes_tells (s : ByteArray) (hs : s.size ≤ 100000) : ∀ (b k pos : Nat) (acc : List Int), pos ≤ s.size → s.size - pos ≤ b → b + 22 ≤ k → acc.length ≤ pos →
    winnowref03_Runes.l0 k (s.extract pos s.size) acc = some (match scan s b pos with | none => ([], false) | some rs => (acc ++ rs, true)) := by
  intro b
  induction b with
  | zero =>
    intro k pos acc hp hb hk ha
    obtain ⟨k, rfl⟩ : ∃ j, k = j + 1 := ⟨k - 1, by omega⟩
    rw [winnowref03_Runes.l0, tail_size, if_neg (by omega)]
    simp [scan]
  | succ b ih =>
    intro k pos acc hp hb hk ha
    obtain ⟨k, rfl⟩ : ∃ j, k = j + 1 := ⟨k - 1, by omega⟩
    have hsz : (s.extract pos s.size).size = s.size - pos := tail_size s pos
    rw [winnowref03_Runes.l0, hsz]
    unfold scan
    by_cases h : pos < s.size
    · rw [if_pos (by omega), if_pos h, rune_eq (by rw [hsz]; omega) (by omega)]
      have hd := tail_decode s pos 0
      rw [Nat.add_zero] at hd
      have g1 := decode_ge (s.extract pos s.size)
      have g2 := decode_le2 (s.extract pos s.size) (by rw [hsz]; omega)
      rw [hsz, hd] at g2
      rw [hd] at g1
      rw [inv_tail, hd]
      simp only [Option.bind_some]
      cases hi : inv s pos with
      | true => rw [if_pos rfl, if_pos rfl, if_pos rfl]
      | false =>
        rw [if_neg (show ¬ (false = true) by decide), if_neg (show ¬ (false = true) by decide), if_neg (by simp only; omega), if_pos (by omega), if_pos (by simp only; omega), if_pos (by simp only; omega)]
        have e : (s.extract pos s.size).extract ((Utf8.decode s pos).2 : Int).toNat (s.size - pos) = s.extract (pos + (Utf8.decode s pos).2) s.size := by
          rw [Int.toNat_natCast, ByteArray.extract_extract]
          congr 1
          omega
        rw [e, ih k _ _ (by omega) (by omega) (by omega) (by simp; omega)]
        cases scan s b (pos + (Utf8.decode s pos).2) with
        | none => rfl
        | some rs => simp
    · rw [if_neg (by omega), if_neg h]
      simp
theorem names_tells (l : List Int) (is : Bool) (hl : l.length ≤ 1000000) (d : Nat) : ∀ (k i : Nat), i ≤ l.length → l.length - i = d → d < k → winnowref03_Name.l0 k l is (i : Int) = some (if (l.drop i).any ctl then 5 else if is = true then 0 else 5) := by
  induction d with
  | zero =>
    intro k i hi hd hk
    obtain ⟨k, rfl⟩ : ∃ j, k = j + 1 := ⟨k - 1, by omega⟩
    rw [winnowref03_Name.l0, if_neg (by omega), List.drop_eq_nil_of_le (by omega)]
    cases is <;> rfl
  | succ d ih =>
    intro k i hi hd hk
    obtain ⟨k, rfl⟩ : ∃ j, k = j + 1 := ⟨k - 1, by omega⟩
    have hw : wrap64 ((i : Int) + 1) = ((i + 1 : Nat) : Int) := by unfold wrap64; omega
    have hdr : l.drop i = rd l i :: l.drop (i + 1) := by
      rw [List.drop_eq_getElem_cons (by omega)]
      simp [rd, List.getD_eq_getElem?_getD, List.getElem?_eq_getElem (show i < l.length by omega)]
    rw [winnowref03_Name.l0, if_pos (by omega), if_pos (by omega), hw, ih k (i + 1) (by omega) (by omega) (by omega), hdr, List.any_cons]
    unfold ctl
    by_cases c0 : rd l i < 32
    · rw [if_pos c0]; simp [c0]
    rw [if_neg c0]
    by_cases c1 : rd l i ≥ 127
    · rw [if_pos c1]
      by_cases c2 : rd l i ≤ 159
      · rw [if_pos c2]; simp [c1, c2]
      · rw [if_neg c2]; simp [c0, c2]
    · rw [if_neg c1]
      have : ¬ 127 ≤ rd l i := by omega
      simp [c0, this]
theorem scan_len (s : ByteArray) : ∀ b pos rs, scan s b pos = some rs → rs.length ≤ b
  | 0, pos, rs, h => by simp only [scan, Option.some.injEq] at h; subst h; simp
  | b + 1, pos, rs, h => by
    unfold scan at h
    split at h
    · split at h
      · cases h
      · obtain ⟨r, hr, rfl⟩ := Option.map_eq_some_iff.1 h
        have := scan_len s b _ r hr
        simp
        exact this
    · simp only [Option.some.injEq] at h
      subst h
      simp
/-- span.Name is the document's. -/
theorem name_eq (s : ByteArray) {k : Nat} (hk : 100 ≤ k) : winnowref03_Name.f k s = span_Name.f s := by
  obtain ⟨k, rfl⟩ : ∃ j, k = j + 1 := ⟨k - 1, by omega⟩
  have h5 : winnowref03_Name.j0 (k + 1) s true = some 5 := by rw [winnowref03_Name.j0, if_pos rfl]
  have he : s.toList = [] ↔ s.size = 0 := by
    rw [ByteArray.toList_eq, ← data_length, List.length_eq_zero_iff]
  unfold winnowref03_Name.f span_Name.f
  by_cases h0 : s.size = 0
  · rw [if_pos (by omega), if_pos (.inl (he.2 h0)), h5]
  rw [if_neg (by omega)]
  by_cases h1 : 32 < s.size
  · rw [decide_eq_true (by omega), if_pos (.inr h1), h5]
  rw [decide_eq_false (by omega), if_neg (by rw [he]; omega), winnowref03_Name.j0, if_neg (by decide)]
  have hr := runes_tells s (by omega) s.size k 0 [] (by omega) (by omega) (by omega) (by simp)
  have hx : s.extract 0 s.size = s := ByteArray.extract_zero_size
  rw [hx] at hr
  unfold winnowref03_Runes.f
  rw [hr, name_scan]
  simp only [Option.bind_some]
  cases hs : scan s s.size 0 with
  | none =>
    have := names_tells [] false (by simp) 0 k 0 (by simp) (by simp) (by omega)
    rw [show (0 : Int) = ((0 : Nat) : Int) from rfl]
    simpa using this
  | some rs =>
    have hl := scan_len s _ _ rs hs
    have := names_tells ([] ++ rs) true (by simp; omega) ([] ++ rs).length k 0 (by omega) (by omega) (by simp; omega)
    rw [show (0 : Int) = ((0 : Nat) : Int) from rfl]
    simpa using this
end Go.Proofs.YtemepnpfhoidhaaGreatDoor.PAll
