/-
  What policy.Show tells, and that policy.Parse tells the rules of what was shown.
  Conditions: the tables that the row lists, as the program lays them.
-/
import Derived.Test.YtemepnpfhoidhaaGreatDoorLawPolicyShow
import Derived.Test.YtemepnpfhoidhaaGreatDoorPolicyLawPure
import Derived.Test.YtemepnpfhoidhaaGreatDoorPAllx1m
namespace Go.Proofs.YtemepnpfhoidhaaGreatDoor.PAll
open Go.RowKit Go.Lib Go.Sort Go.Proofs.YtemepnpfhoidhaaGreatDoorW.PrintWords Go.Proofs.YtemepnpfhoidhaaGreatDoorW.PrintLast Go.Proofs.YtemepnpfhoidhaaGreatDoorW.PrintMore
set_option linter.unusedVariables false
set_option linter.unusedSimpArgs false
abbrev PRule := S46
/-! ### texts that are joined -/
theorem joinT_B (c : UInt8) : ∀ xs : List ByteArray, joinT xs ⟨#[c]⟩ = joinB c xs
  | [] => rfl
  | [x] => by
    unfold joinT
    rw [List.map_cons, List.map_nil, Lib.join_one, Lib.mk_data]
    rfl
  | x :: y :: t => by
    have ih := joinT_B c (y :: t)
    apply ba_ext
    show (Lib.join ((x :: y :: t).map (·.data.toList)) [c]).toArray.toList = (x ++ ⟨#[c]⟩ ++ joinB c (y :: t)).data.toList
    rw [data_app, data_app, ← ih]
    show _ = x.data.toList ++ [c] ++ (Lib.join ((y :: t).map (·.data.toList)) [c]).toArray.toList
    rw [List.toList_toArray, List.toList_toArray]
    simp [Lib.join, List.intercalate, List.intersperse]
theorem joinB_le (c : UInt8) (B : Nat) : ∀ xs : List ByteArray, (∀ x ∈ xs, x.size ≤ B) → (joinB c xs).size ≤ xs.length * (B + 1)
  | [], _ => Nat.zero_le _
  | [x], h => by
    have := h x (by simp)
    show x.size ≤ 1 * (B + 1)
    omega
  | x :: y :: t, h => by
    have ih := joinB_le c B (y :: t) (fun z hz => h z (by simp only [List.mem_cons] at hz ⊢; exact .inr hz))
    have hx := h x (by simp)
    have hone : (ByteArray.mk #[c]).size = 1 := rfl
    show (x ++ ⟨#[c]⟩ ++ joinB c (y :: t)).size ≤ (y :: t).length.succ * (B + 1)
    rw [ByteArray.size_append, ByteArray.size_append, hone, Nat.succ_mul]
    omega
theorem joinB_mem (c b : UInt8) (hb : b ≠ c) : ∀ xs : List ByteArray, (∀ x ∈ xs, b ∉ x.data.toList) → b ∉ (joinB c xs).data.toList
  | [], _ => by simp [joinB]
  | [x], h => h x (by simp)
  | x :: y :: t, h => by
    have ih := joinB_mem c b hb (y :: t) (fun z hz => h z (by simp only [List.mem_cons] at hz ⊢; exact .inr hz))
    show b ∉ (x ++ ⟨#[c]⟩ ++ joinB c (y :: t)).data.toList
    rw [data_app, data_app, List.mem_append, List.mem_append]
    rintro ((h1 | h1) | h1)
    · exact h x (by simp) h1
    · exact hb (by simpa using h1)
    · exact ih h1
/-! ### numerals -/
theorem digs_mem (u : Nat) : ∀ b ∈ decDigits u, 48 ≤ b.toNat ∧ b.toNat ≤ 57 := by
  induction u using Nat.strongRecOn with
  | _ u ih =>
    by_cases h : u < 10
    · intro b hb
      rw [decDigits_one h] at hb
      have e := List.mem_singleton.1 hb
      subst e
      have hc : (UInt8.ofNat (48 + u)).toNat = 48 + u := by simp; omega
      omega
    · intro b hb
      rw [decDigits, dif_neg h] at hb
      rcases List.mem_append.1 hb with hb | hb
      · exact ih (u / 10) (by omega) b hb
      · have e := List.mem_singleton.1 hb
        subst e
        have hc : (UInt8.ofNat (48 + u % 10)).toNat = 48 + u % 10 := by simp; omega
        omega
theorem digs_len (u : Nat) (hu : u < 18446744073709551616) : (decDigits u).length ≤ 20 := by
  rw [decDigits_length]
  by_cases h1 : 1 ≤ u
  · have := numDigits_eq u h1 hu
    split at this <;> omega
  · rw [nDigits_small (by omega)]
    decide
theorem digs_no (u : Nat) (b : UInt8) (hb : b.toNat < 48) : b ∉ (ByteArray.mk (decDigits u).toArray).data.toList := by
  intro h
  have := digs_mem u b (by simpa using h)
  omega
/-! ### a name has no control -/
theorem cont_bytes (n b0 b1 b2 b3 : Nat) (hi : ¬ ((decodeN n b0 b1 b2 b3).2 = 1 ∧ 128 ≤ b0)) : (1 < (decodeN n b0 b1 b2 b3).2 → 128 ≤ b1) ∧ (2 < (decodeN n b0 b1 b2 b3).2 → 128 ≤ b2) ∧ (3 < (decodeN n b0 b1 b2 b3).2 → 128 ≤ b3) ∧ (decodeN n b0 b1 b2 b3).2 ≤ 4 := by
  revert hi
  unfold decodeN
  repeat' split
  all_goals (intro hi; simp only at hi ⊢; omega)
theorem ascii_rune (n b0 b1 b2 b3 : Nat) (h : b0 < 128) : (decodeN n b0 b1 b2 b3).1 = b0 := by
  unfold decodeN
  rw [if_pos h]
theorem Rs.rune {s : ByteArray} {pos : Nat} {rs : List Int} (h : Rs s pos rs) (c : Nat) (hc : c < 128) (i : Nat) (hi : pos ≤ i) (hl : i < s.size) (hb : (s.get! i).toNat = c) : (c : Int) ∈ rs := by
  induction h with
  | done => omega
  | step pos rs hp hv h ih =>
    by_cases e : i = pos
    · subst e
      have hd := decode_at s i
      rw [List.mem_cons]
      left
      rw [hd, ascii_rune _ _ _ _ _ (by omega), hb]
    · have hd := decode_at s pos
      have hni : ¬ ((Utf8.decode s pos).2 = 1 ∧ 128 ≤ (s.get! pos).toNat) := by
        unfold inv at hv
        intro hh
        simp [hh.1, hh.2] at hv
      rw [hd] at hni
      obtain ⟨g1, g2, g3, g4⟩ := cont_bytes _ _ _ _ _ hni
      rw [List.mem_cons]
      right
      refine ih ?_
      rw [hd]
      generalize decodeN (s.size - pos) (s.get! pos).toNat (s.get! (pos + 1)).toNat (s.get! (pos + 2)).toNat (s.get! (pos + 3)).toNat = D at g1 g2 g3 g4 ⊢
      rcases Nat.lt_or_ge i (pos + D.2) with hlt | hge
      · exfalso
        have hcase : i = pos + 1 ∨ i = pos + 2 ∨ i = pos + 3 := by omega
        rcases hcase with rfl | rfl | rfl
        · have := g1 (by omega); omega
        · have := g2 (by omega); omega
        · have := g3 (by omega); omega
      · exact hge
theorem name_clean {s : ByteArray} (h : span_Name.f s = some 0) (b : UInt8) (hb : b.toNat < 32) : b ∉ s.data.toList := by
  intro hm
  obtain ⟨rs, hR, h1, h2, hs⟩ := name_rs h
  obtain ⟨i, hi, hg⟩ := List.getElem_of_mem hm
  have hi2 : i < s.size := by rw [← data_length]; exact hi
  have hgi : s.get! i = b := by
    rw [← getD_get!', List.getD_eq_getElem?_getD, List.getElem?_eq_getElem hi, hg]
    rfl
  have hr := hR.rune b.toNat (by omega) i (Nat.zero_le _) hi2 (by rw [hgi])
  unfold span_Name.f at h
  split at h
  · cases h
  · rw [name_scan, hs] at h
    have ha : rs.any ctl = true := by
      rw [List.any_eq_true]
      refine ⟨_, hr, ?_⟩
      unfold ctl
      rw [decide_eq_true (by omega)]
      rfl
    simp only [ha, if_true] at h
    cases h
/-! ### right rules -/
def wordsL : List (List UInt8) := [[97, 108, 119, 97, 121, 115], [102, 97, 105, 108], [114, 111, 111, 116], [115, 108, 111, 119], [109, 97, 110, 121], [104, 97, 115, 104], [115, 101, 114, 118, 105, 99, 101], [110, 97, 109, 101]]
def Case (what : ByteArray) (num : Int) (text : ByteArray) (kd : Int) : Prop :=
  (kd = 1 ∧ num = 0 ∧ text = ⟨#[]⟩) ∨ (kd = 2 ∧ 0 ≤ num ∧ num ≤ 1099511627776 ∧ text = ⟨#[]⟩) ∨ (kd = 3 ∧ num = 0 ∧ span_Name.f text = some 0 ∧ (32 : UInt8) ∉ text.data.toList)
theorem empty_of {s : ByteArray} (h : s.toList.isEmpty = true) : s = ⟨#[]⟩ := by
  apply ba_ext
  rw [List.isEmpty_iff, ByteArray.toList_eq] at h
  exact h
theorem no_blank {s : ByteArray} (h : (!decide (0 ≤ indexByte s.data.toList 32)) = true) : (32 : UInt8) ∉ s.data.toList := by
  intro hm
  obtain ⟨a, b, e, hn⟩ := List.eq_append_cons_of_mem hm
  rw [e, idx_hit 32 b a hn] at h
  simp at h
theorem right_cases {what : ByteArray} {num : Int} {text : ByteArray} (h : rightB what num text = true) : what.data.toList ∈ wordsL ∧ ∃ kd lo hi, policy_form.f 1 what = some (kd, lo, hi) ∧ Case what num text kd := by
  unfold rightB at h
  simp only [policy_form.f, policy_form.j0] at h ⊢
  have hw : what.data.toList = what.toList := (ByteArray.toList_eq what).symm
  rw [hw]
  have bare : ∀ lo hi : Int, lo = 0 → hi = 0 → ((text.toList.isEmpty && decide (lo ≤ num)) && decide (num ≤ hi)) = true → Case what num text 1 := by
    intro lo hi e1 e2 h
    simp only [Bool.and_eq_true, decide_eq_true_eq] at h
    exact .inl ⟨rfl, by omega, empty_of h.1.1⟩
  have counted : ∀ lo hi : Int, 0 ≤ lo → hi ≤ 1099511627776 → ((text.toList.isEmpty && decide (lo ≤ num)) && decide (num ≤ hi)) = true → Case what num text 2 := by
    intro lo hi e1 e2 h
    simp only [Bool.and_eq_true, decide_eq_true_eq] at h
    exact .inr (.inl ⟨rfl, by omega, by omega, empty_of h.1.1⟩)
  have named : ((decide (num = 0) && decide (span_Name.f text = some 0)) && !decide (0 ≤ indexByte text.data.toList 32)) = true → Case what num text 3 := by
    intro h
    rw [Bool.and_eq_true, Bool.and_eq_true, decide_eq_true_eq, decide_eq_true_eq] at h
    exact .inr (.inr ⟨rfl, h.1.1, h.1.2, no_blank h.2⟩)
  by_cases c1 : what.toList = ([97, 108, 119, 97, 121, 115] : List UInt8)
  · rw [if_pos c1, if_pos (show (what.toList == ([97, 108, 119, 97, 121, 115] : List UInt8)) = true by rw [c1]; rfl)] at h
    rw [if_pos c1, if_pos (show (what.toList == ([97, 108, 119, 97, 121, 115] : List UInt8)) = true by rw [c1]; rfl)]
    exact ⟨by rw [c1]; decide, 1, 0, 0, rfl, bare 0 0 rfl rfl h⟩
  rw [if_neg c1] at h ⊢
  by_cases c2 : what.toList = ([102, 97, 105, 108] : List UInt8)
  · rw [if_pos c2, if_pos (show (what.toList == ([102, 97, 105, 108] : List UInt8)) = true by rw [c2]; rfl)] at h
    rw [if_pos c2, if_pos (show (what.toList == ([102, 97, 105, 108] : List UInt8)) = true by rw [c2]; rfl)]
    exact ⟨by rw [c2]; decide, 1, 0, 0, rfl, bare 0 0 rfl rfl h⟩
  rw [if_neg c2] at h ⊢
  by_cases c3 : what.toList = ([114, 111, 111, 116] : List UInt8)
  · rw [if_pos (show (what.toList == ([114, 111, 111, 116] : List UInt8)) = true by rw [c3]; rfl)] at h
    rw [if_pos (show (what.toList == ([114, 111, 111, 116] : List UInt8)) = true by rw [c3]; rfl)]
    exact ⟨by rw [c3]; decide, 1, 0, 0, rfl, bare 0 0 rfl rfl h⟩
  have c3b : ¬ (what.toList == ([114, 111, 111, 116] : List UInt8)) = true := by simpa using c3
  rw [if_neg c3b] at h ⊢
  by_cases c4 : what.toList = ([115, 108, 111, 119] : List UInt8)
  · rw [if_pos c4] at h
    rw [if_pos c4]
    exact ⟨by rw [c4]; decide, 2, 0, 1099511627776, rfl, counted 0 1099511627776 (by omega) (by omega) h⟩
  rw [if_neg c4] at h ⊢
  by_cases c5 : what.toList = ([109, 97, 110, 121] : List UInt8)
  · rw [if_pos c5] at h
    rw [if_pos c5]
    exact ⟨by rw [c5]; decide, 2, 1, 16, rfl, counted 1 16 (by omega) (by omega) h⟩
  rw [if_neg c5] at h ⊢
  by_cases c6 : what.toList = ([104, 97, 115, 104] : List UInt8)
  · rw [if_pos c6] at h
    rw [if_pos c6]
    exact ⟨by rw [c6]; decide, 2, 0, 1000, rfl, counted 0 1000 (by omega) (by omega) h⟩
  rw [if_neg c6] at h ⊢
  by_cases c7 : what.toList = ([115, 101, 114, 118, 105, 99, 101] : List UInt8)
  · rw [if_pos c7] at h
    rw [if_pos c7]
    exact ⟨by rw [c7]; decide, 3, 0, 0, rfl, named h⟩
  rw [if_neg c7] at h ⊢
  by_cases c8 : what.toList = ([110, 97, 109, 101] : List UInt8)
  · rw [if_pos c8] at h
    rw [if_pos c8]
    exact ⟨by rw [c8]; decide, 3, 0, 0, rfl, named h⟩
  rw [if_neg c8] at h
  cases h
theorem words_small : ∀ w ∈ wordsL, w.length ≤ 7 ∧ (32 : UInt8) ∉ w ∧ (10 : UInt8) ∉ w := by decide
def sDrop : ByteArray := ⟨#[100, 114, 111, 112]⟩
/-- The words of a rule's line. -/
def wordsR (r : PRule) : List ByteArray :=
  match policy_form.f 1 r.f1 with
  | none => []
  | some (kd, _, _) => (if r.f0 = true then sKeep else sDrop) :: r.f1 :: (if kd = 2 then [⟨(decDigits r.f2.toNat).toArray⟩] else if kd = 3 then [r.f3] else [])
def lineR (r : PRule) : ByteArray := joinB 32 (wordsR r)
def goodR (r : PRule) : Bool := rightB r.f1 r.f2 r.f3
/-- What a good rule's words are. -/
theorem words_good {r : PRule} (h : goodR r = true) : wordsR r ≠ [] ∧ (wordsR r).length ≤ 3 ∧ ∀ x ∈ wordsR r, x.size ≤ 32 ∧ (32 : UInt8) ∉ x.data.toList ∧ (10 : UInt8) ∉ x.data.toList := by
  obtain ⟨hw, kd, lo, hi, hf, hc⟩ := right_cases h
  obtain ⟨hs, h32, h10⟩ := words_small _ hw
  have hk : ∀ x : ByteArray, x = (if r.f0 = true then sKeep else sDrop) → x.size ≤ 32 ∧ (32 : UInt8) ∉ x.data.toList ∧ (10 : UInt8) ∉ x.data.toList := by
    intro x hx
    subst hx
    cases r.f0 <;> decide
  have h1 : r.f1.size ≤ 32 ∧ (32 : UInt8) ∉ r.f1.data.toList ∧ (10 : UInt8) ∉ r.f1.data.toList := ⟨by rw [← data_length]; omega, h32, h10⟩
  unfold wordsR
  rw [hf]
  simp only
  rcases hc with ⟨rfl, _, _⟩ | ⟨rfl, n0, n1, _⟩ | ⟨rfl, _, hn, ht⟩
  · refine ⟨by simp, by simp, fun x hx => ?_⟩
    rw [if_neg (show ¬ ((1 : Int) = 2) by decide), if_neg (show ¬ ((1 : Int) = 3) by decide)] at hx
    rcases List.mem_cons.1 hx with e | hx
    · exact hk x e
    · rw [List.mem_singleton] at hx
      subst hx
      exact h1
  · refine ⟨by simp, by simp, fun x hx => ?_⟩
    rw [if_pos (show (2 : Int) = 2 from rfl)] at hx
    rcases List.mem_cons.1 hx with e | hx
    · exact hk x e
    rcases List.mem_cons.1 hx with e | hx
    · subst e
      exact h1
    · rw [List.mem_singleton] at hx
      subst hx
      refine ⟨?_, digs_no _ _ (by decide), digs_no _ _ (by decide)⟩
      have := digs_len r.f2.toNat (by omega)
      show (decDigits r.f2.toNat).toArray.size ≤ 32
      rw [List.size_toArray]
      omega
  · refine ⟨by simp, by simp, fun x hx => ?_⟩
    rw [if_neg (show ¬ ((3 : Int) = 2) by decide), if_pos (show (3 : Int) = 3 from rfl)] at hx
    rcases List.mem_cons.1 hx with e | hx
    · exact hk x e
    rcases List.mem_cons.1 hx with e | hx
    · subst e
      exact h1
    · rw [List.mem_singleton] at hx
      subst hx
      obtain ⟨_, _, _, g2, _⟩ := name_rs hn
      exact ⟨g2, ht, name_clean hn 10 (by decide)⟩
theorem line_good {r : PRule} (h : goodR r = true) : (lineR r).size ≤ 99 ∧ (10 : UInt8) ∉ (lineR r).data.toList := by
  obtain ⟨h0, h3, hx⟩ := words_good h
  refine ⟨?_, joinB_mem 32 10 (by decide) _ (fun x m => (hx x m).2.2)⟩
  have := joinB_le 32 32 (wordsR r) (fun x m => (hx x m).1)
  unfold lineR
  have h4 := Nat.mul_le_mul_right (32 + 1) h3
  omega
/-- What Show tells. -/
def showR (l : List PRule) : ByteArray × Int :=
  if 16 < l.length then (⟨#[]⟩, 4) else if l.any (fun r => !rightB r.f1 r.f2 r.f3) = true then (⟨#[]⟩, 7)
  else if (joinB 10 (l.map lineR)).size > 2048 then (⟨#[]⟩, 4) else (joinB 10 (l.map lineR), 0)
theorem join_f (xs : List ByteArray) (c : UInt8) (hl : xs.length ≤ 1000) (hx : ∀ x ∈ xs, x.size ≤ 900) : strings_Join.f xs ⟨#[c]⟩ = some (joinB c xs) := by
  unfold strings_Join.f
  have h := joinB_le c 900 xs hx
  have h2 := Nat.mul_le_mul_right (900 + 1) hl
  rw [joinT_B, if_pos ⟨by omega, by omega⟩]
theorem form_up {a : ByteArray} {x : Int × Int × Int} (h : policy_form.f 1 a = some x) {k : Nat} (hk : 1 ≤ k) : policy_form.f k a = some x := by
  induction hk with
  | refl => exact h
  | step _ ih => exact policy_form.mono a _ _ ih
theorem rdP (l : List PRule) (i : Nat) (h : i < l.length) : rd_T46 l (i : Int) = l[i] := by
  unfold rd_T46
  rw [Int.toNat_natCast, List.getD_eq_getElem?_getD, List.getElem?_eq_getElem h]
  rfl
theorem show_step (l : List PRule) (hg : ∀ r ∈ l, goodR r = true) (acc : List ByteArray) (ha : acc.length ≤ 1000) (i : Nat) (hi : i < l.length) (hl : l.length ≤ 16) (k : Nat) (hk : 1 ≤ k) :
    policy_ShowP.l0 (k + 2) acc l (l.length : Int) (i : Int) = policy_ShowP.l0 k (acc ++ [lineR l[i]]) l (l.length : Int) ((i + 1 : Nat) : Int) := by
  have hgi := hg _ (List.getElem_mem hi)
  obtain ⟨hw, kd, lo, hi2, hf, hc⟩ := right_cases hgi
  obtain ⟨hn0, hn3, hx⟩ := words_good hgi
  have hl2 : lineR l[i] = joinB 32 (wordsR l[i]) := rfl
  have key : policy_ShowP.j1 (k + 1) acc [if (l[i]).f0 = true then sKeep else sDrop, (l[i]).f1] l (l.length : Int) (i : Int) (l[i]).f0 (l[i]).f1 (l[i]).f2 (l[i]).f3 = policy_ShowP.l0 k (acc ++ [lineR l[i]]) l (l.length : Int) ((i + 1 : Nat) : Int) := by
    rw [policy_ShowP.j1, form_up hf hk, Option.bind_some]
    have hws : wordsR l[i] = (if (l[i]).f0 = true then sKeep else sDrop) :: (l[i]).f1 :: (if kd = 2 then [⟨(decDigits (l[i]).f2.toNat).toArray⟩] else if kd = 3 then [(l[i]).f3] else []) := by
      unfold wordsR
      rw [hf]
    have hj : strings_Join.f (wordsR l[i]) ⟨#[32]⟩ = some (lineR l[i]) := join_f _ 32 (by omega) (fun x m => by have := (hx x m).1; omega)
    rcases hc with ⟨rfl, _, _⟩ | ⟨rfl, n0, n1, _⟩ | ⟨rfl, _, hn, ht⟩
    · rw [if_neg (show ¬ ((1 : Int) = 2) by decide), if_neg (show ¬ ((1 : Int) = 3) by decide)] at hws
      rw [if_neg (show ¬ ((1 : Int) = 2) by decide), if_neg (show ¬ ((1 : Int) = 3) by decide), ← hws, hj, Option.bind_some, if_pos (by omega), w64s (by omega)]
    · rw [if_pos (show (2 : Int) = 2 from rfl)] at hws
      have hfu : strconv_FormatUint_15.f (l[i]).f2 10 = some ⟨(decDigits (l[i]).f2.toNat).toArray⟩ := by
        unfold strconv_FormatUint_15.f
        rw [if_pos ⟨rfl, n0, by omega⟩]
      rw [if_pos (show (2 : Int) = 2 from rfl), hfu, Option.bind_some, if_pos (by simp)]
      have e : [if (l[i]).f0 = true then sKeep else sDrop, (l[i]).f1] ++ [(⟨(decDigits (l[i]).f2.toNat).toArray⟩ : ByteArray)] = wordsR l[i] := hws.symm
      rw [e, hj, Option.bind_some, if_pos (by omega), w64s (by omega)]
    · rw [if_neg (show ¬ ((3 : Int) = 2) by decide), if_pos (show (3 : Int) = 3 from rfl)] at hws
      rw [if_neg (show ¬ ((3 : Int) = 2) by decide), if_pos (show (3 : Int) = 3 from rfl), if_pos (by simp)]
      have e : [if (l[i]).f0 = true then sKeep else sDrop, (l[i]).f1] ++ [(l[i]).f3] = wordsR l[i] := hws.symm
      rw [e, hj, Option.bind_some, if_pos (by omega), w64s (by omega)]
  rw [← key, policy_ShowP.l0, if_pos (by omega), if_pos (by omega), if_pos (by omega), rdP l i hi, Option.bind_some]
  cases hf0 : (l[i]).f0 with
  | true =>
    rw [hf0] at key
    rw [if_pos rfl, if_pos (by simp)]
    rfl
  | false =>
    rw [if_neg (by decide)]
    rfl
theorem show_loop (l : List PRule) (hg : ∀ r ∈ l, goodR r = true) (hl : l.length ≤ 16) (d : Nat) : ∀ (k i : Nat), i ≤ l.length → l.length - i = d → 2 * d + 4 ≤ k →
    policy_ShowP.l0 k ((l.take i).map lineR) l (l.length : Int) (i : Int) = some (if (joinB 10 (l.map lineR)).size > 2048 then (⟨#[]⟩, 4) else (joinB 10 (l.map lineR), 0)) := by
  induction d with
  | zero =>
    intro k i hi hd hk
    obtain ⟨k, rfl⟩ : ∃ j, k = j + 1 := ⟨k - 1, by omega⟩
    rw [List.take_of_length_le (by omega), policy_ShowP.l0, if_neg (by omega), join_f _ 10 (by rw [List.length_map]; omega) (fun x m => by
      obtain ⟨r, hr, rfl⟩ := List.mem_map.1 m
      have := (line_good (hg r hr)).1
      omega), Option.bind_some]
    by_cases c : (joinB 10 (l.map lineR)).size > 2048
    · rw [if_pos (by omega), if_pos c]
    · rw [if_neg (by omega), if_neg c]
  | succ d ih =>
    intro k i hi hd hk
    obtain ⟨k, rfl⟩ : ∃ j, k = j + 2 := ⟨k - 2, by omega⟩
    have hlt : i < l.length := by omega
    rw [show_step l hg _ (by rw [List.length_map, List.length_take]; omega) i hlt hl k (by omega)]
    have e : (l.take i).map lineR ++ [lineR l[i]] = (l.take (i + 1)).map lineR := by rw [List.take_succ_eq_append_getElem hlt, List.map_append]; rfl
    rw [e]
    exact ih k (i + 1) (by omega) (by omega) (by omega)
theorem all_good {l : List PRule} (h : ¬ l.any (fun r => !rightB r.f1 r.f2 r.f3) = true) : ∀ r ∈ l, goodR r = true := by
  intro r hr
  cases hg : goodR r with
  | true => rfl
  | false =>
    exfalso
    apply h
    rw [List.any_eq_true]
    refine ⟨r, hr, ?_⟩
    have : rightB r.f1 r.f2 r.f3 = false := hg
    rw [this]
    rfl
theorem showP_eq (l : List PRule) {k : Nat} (hk : 40 ≤ k) : policy_ShowP.f k l = some (showR l) := by
  unfold policy_ShowP.f policy_Right.f showR
  rw [Option.bind_some]
  by_cases c1 : 16 < l.length
  · rw [if_pos c1, if_neg (by decide), if_pos c1]
  rw [if_neg c1, if_neg c1]
  by_cases c2 : l.any (fun r => !rightB r.f1 r.f2 r.f3) = true
  · rw [if_pos c2, if_neg (by decide), if_pos c2]
  rw [if_neg c2, if_neg c2, if_pos rfl]
  have h := show_loop l (all_good c2) (by omega) l.length k 0 (by omega) (by omega) (by omega)
  rw [List.take_zero, List.map_nil] at h
  exact h
/-- policy.Show as the printed laws call it. -/
def policy_Show.f (l : List PRule) : Option (ByteArray × Int) := some (showR l)
theorem policy_Show.calls (A0 : Option Addr) (c0 : Nat) (l0 : List PRule) (r1 : ByteArray) (r2 : Int) (w : World) (hr0 : Kd.C k46 w A0 l0.length l0) (hc0 : l0.length ≤ c0) (h : policy_Show.f l0 = some (r1, r2)) (hL : Laid w := by (exact HLD.out.below (by repeat (first | (with_reducible first | exact HB.out | apply below_alloc | apply pw_below_drewN | apply below_drew1 | refine below_set ?_ (Aside0.out (by assumption))) | exact HB.out)))) :
    Calls Tryz.prog 6 #[.slice A0 l0.length c0] w fun e w' => e = .returned (.tuple #[.string r1, .int .i64 r2]) ∧ Below w.heap.size w w' :=
  policy_ShowP.calls 40 A0 c0 l0 r1 r2 w hr0 hc0 hL ((showP_eq l0 (Nat.le_refl _)).trans h)
/-! ### a line read again -/
def numOf (t : ByteArray) : Int := match parseUintM (2 ^ 64 - 1) 0 t.data.toList with | .ok u => (u : Int) | _ => 0
def readL (ws : List ByteArray) : PRule := match ws with
  | [k, w] => ⟨k.data == sKeep.data, w, 0, ⟨#[]⟩⟩
  | [k, w, t] => if ((policy_form.f 1 w).map (·.1)) = some 2 then ⟨k.data == sKeep.data, w, numOf t, ⟨#[]⟩⟩ else ⟨k.data == sKeep.data, w, 0, t⟩
  | _ => ⟨false, ⟨#[]⟩, 0, ⟨#[]⟩⟩
theorem read_words {r : PRule} (h : goodR r = true) : readL (wordsR r) = r := by
  obtain ⟨hw, kd, lo, hi, hf, hc⟩ := right_cases h
  obtain ⟨b, what, num, text⟩ := r
  have hk : ((if b = true then sKeep else sDrop).data == sKeep.data) = b := by cases b <;> decide
  unfold wordsR
  simp only at hf hc ⊢
  rw [hf]
  simp only
  rcases hc with ⟨rfl, rfl, rfl⟩ | ⟨rfl, n0, n1, rfl⟩ | ⟨rfl, rfl, hn, ht⟩
  · rw [if_neg (show ¬ ((1 : Int) = 2) by decide), if_neg (show ¬ ((1 : Int) = 3) by decide)]
    unfold readL
    simp only [hk]
  · rw [if_pos (show (2 : Int) = 2 from rfl)]
    unfold readL
    simp only [hf, hk, Option.map_some, if_true]
    have hp : numOf ⟨(decDigits num.toNat).toArray⟩ = num := by
      unfold numOf
      rw [show (ByteArray.mk (decDigits num.toNat).toArray).data.toList = decDigits num.toNat from rfl, pm_digits num.toNat (by omega)]
      show ((num.toNat : Nat) : Int) = num
      omega
    rw [hp]
  · rw [if_neg (show ¬ ((3 : Int) = 2) by decide), if_pos (show (3 : Int) = 3 from rfl)]
    unfold readL
    simp only [hf, hk, Option.map_some]
    rw [if_neg (by decide)]
def readT (s : ByteArray) : List PRule := (splitB ⟨#[10]⟩ 0 (countB s ⟨#[10]⟩) s).map (fun l => readL (splitB ⟨#[32]⟩ 0 (countB l ⟨#[32]⟩) l))
theorem read_shown (l : List PRule) (hl : l ≠ []) (hg : ∀ r ∈ l, goodR r = true) : readT (joinB 10 (l.map lineR)) = l := by
  unfold readT
  rw [(split_join 10 (l.map lineR) (by simpa using hl) (fun x m => by
    obtain ⟨r, hr, rfl⟩ := List.mem_map.1 m
    exact (line_good (hg r hr)).2)).2, List.map_map]
  have : ∀ r ∈ l, ((fun l => readL (splitB ⟨#[32]⟩ 0 (countB l ⟨#[32]⟩) l)) ∘ lineR) r = id r := by
    intro r hr
    obtain ⟨h0, h3, hx⟩ := words_good (hg r hr)
    show readL (splitB ⟨#[32]⟩ 0 (countB (lineR r) ⟨#[32]⟩) (lineR r)) = r
    unfold lineR
    rw [(split_join 32 (wordsR r) h0 (fun x m => (hx x m).2.1)).2]
    exact read_words (hg r hr)
  rw [List.map_congr_left this, List.map_id]
/-- The line of a good rule is that rule. -/
theorem rule_line (r : PRule) (h : goodR r = true) (W : World) (hP : Pow10 W) : Calls Tryz.prog 24 #[.string (lineR r)] W fun e w' => e = .returned (.tuple #[.agg #[.bool r.f0, .string r.f1, .int .u64 r.f2, .string r.f3], .bool true]) ∧ Below W.heap.size W w' := by
  obtain ⟨hw, kd, lo, hi, hf, hc⟩ := right_cases h
  obtain ⟨h0, h3, hx⟩ := words_good h
  have hsz := (line_good h).1
  have hsp := fun W => split_words (wordsR r) h0 (fun x m => (hx x m).2.1) (show (lineR r).size < 4294967281 by omega) W
  have hR : rightB r.f1 r.f2 r.f3 = true := h
  obtain ⟨b, what, num, text⟩ := r
  have hws : wordsR ⟨b, what, num, text⟩ = (if b = true then sKeep else sDrop) :: what :: (if kd = 2 then [⟨(decDigits num.toNat).toArray⟩] else if kd = 3 then [text] else []) := by
    unfold wordsR
    simp only at hf ⊢
    rw [hf]
  simp only at hf hc hR ⊢
  unfold lineR
  rw [hws] at hsp ⊢
  rcases hc with ⟨rfl, rfl, rfl⟩ | ⟨rfl, n0, n1, rfl⟩ | ⟨rfl, rfl, hn, ht⟩
  · rw [if_neg (show ¬ ((1 : Int) = 2) by decide), if_neg (show ¬ ((1 : Int) = 3) by decide)] at hsp ⊢
    cases b with
    | true => exact rule_bare_true what lo hi W _ hsp hf hR
    | false => exact rule_bare_false what lo hi W _ hsp hf hR
  · rw [if_pos (show (2 : Int) = 2 from rfl)] at hsp ⊢
    obtain ⟨u, rfl⟩ := Int.eq_ofNat_of_zero_le n0
    cases b with
    | true => exact rule_counted_true what lo hi W u (by omega) hP _ hsp hf hR
    | false => exact rule_counted_false what lo hi W u (by omega) hP _ hsp hf hR
  · rw [if_neg (show ¬ ((3 : Int) = 2) by decide), if_pos (show (3 : Int) = 3 from rfl)] at hsp ⊢
    obtain ⟨_, _, _, g2, _⟩ := name_rs hn
    cases b with
    | true => exact rule_named_true what lo hi W text ht (by omega) _ hsp hf hR
    | false => exact rule_named_false what lo hi W text ht (by omega) _ hsp hf hR
end Go.Proofs.YtemepnpfhoidhaaGreatDoor.PAll
