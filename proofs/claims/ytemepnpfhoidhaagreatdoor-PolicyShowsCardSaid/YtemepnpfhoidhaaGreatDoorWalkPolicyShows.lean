/-
  The law PolicyShows returns true.
  Conditions: the tables that the row lists, as the program lays them.
-/
import Derived.Test.YtemepnpfhoidhaaGreatDoorLawPolicyShows
import Derived.Test.YtemepnpfhoidhaaGreatDoorOpsAll
import Derived.Test.YtemepnpfhoidhaaGreatDoorPAllx3m
import Derived.Test.YtemepnpfhoidhaaGreatDoorPAllx5m
namespace Go.Proofs.YtemepnpfhoidhaaGreatDoor.PAll
open Go.RowKit Go.Lib Go.Sort Go.Proofs.YtemepnpfhoidhaaGreatDoorW.PrintWords Go.Proofs.YtemepnpfhoidhaaGreatDoorW.PrintLast Go.Proofs.YtemepnpfhoidhaaGreatDoorW.PrintMore
set_option linter.unusedVariables false
set_option linter.unusedSimpArgs false
abbrev RRule := S37
theorem idx_mem (c : UInt8) (l : List UInt8) : decide (0 ≤ indexByte l c) = decide (c ∈ l) := by
  by_cases h : c ∈ l
  · obtain ⟨a, b, rfl, hn⟩ := List.eq_append_cons_of_mem h
    rw [idx_hit c b a hn, decide_eq_true h, decide_eq_true (by omega)]
  · rw [idx_miss c l h, decide_eq_false h]
    rfl
theorem blank_l0 (s : ByteArray) (hs : s.size ≤ 1000) (d : Nat) : ∀ (k i : Nat), i ≤ s.size → s.size - i = d → d < k → winnowref04_blank.l0 k s (i : Int) = some (decide ((32 : UInt8) ∈ s.data.toList.drop i)) := by
  induction d with
  | zero =>
    intro k i hi hd hk
    obtain ⟨k, rfl⟩ : ∃ j, k = j + 1 := ⟨k - 1, by omega⟩
    rw [winnowref04_blank.l0, if_neg (by omega), List.drop_eq_nil_of_le (by rw [data_length]; omega)]
    rfl
  | succ d ih =>
    intro k i hi hd hk
    obtain ⟨k, rfl⟩ : ∃ j, k = j + 1 := ⟨k - 1, by omega⟩
    have hlt : i < s.data.toList.length := by rw [data_length]; omega
    have hg : s.get! i = s.data.toList[i] := by
      rw [← getD_get!', List.getD_eq_getElem?_getD, List.getElem?_eq_getElem hlt]
      rfl
    have hdr := List.drop_eq_getElem_cons hlt
    rw [winnowref04_blank.l0, if_pos (by omega), if_pos (by omega), w64s (by omega), ih k (i + 1) (by omega) (by omega) (by omega), bt_get, hg, hdr]
    by_cases c : s.data.toList[i] = 32
    · rw [if_pos (by rw [c]; rfl), c, decide_eq_true (by simp)]
    · have c2 : ¬ ((s.data.toList[i].toNat : Int) = 32) := by
        intro h
        apply c
        apply UInt8.toNat.inj
        show _ = 32
        omega
      rw [if_neg c2]
      congr 1
      rw [decide_eq_decide, List.mem_cons]
      exact ⟨.inr, fun h => h.elim (fun e => absurd e.symm c) id⟩
theorem blank_eq (s : ByteArray) (hs : s.size ≤ 1000) {k : Nat} (hk : 1100 ≤ k) : winnowref04_blank.f k s = some (decide (0 ≤ indexByte s.data.toList 32)) := by
  unfold winnowref04_blank.f
  have h := blank_l0 s hs s.size k 0 (by omega) (by omega) (by omega)
  rw [idx_mem]
  exact h
theorem tl_eq (s : ByteArray) : (s.toList == ([] : List UInt8)) = s.toList.isEmpty := by cases s.toList <;> rfl
/-- The document's test of a rule is the program's. -/
theorem one_right (b : Bool) (what : ByteArray) (num : Int) (h0 : 0 ≤ num) (text : ByteArray) {k : Nat} (hk : 1200 ≤ k) : winnowref04_One.f k b what num text = some (rightB what num text) := by
  obtain ⟨k, rfl⟩ : ∃ j, k = j + 1 := ⟨k - 1, by omega⟩
  obtain ⟨k, rfl⟩ : ∃ j, k = j + 1 := ⟨k - 1, by omega⟩
  have hb : ∀ x5 : Bool, x5 = true → winnowref04_One.j0 (k + 1 + 1) what x5 b what num text = some ((text.toList.isEmpty && decide (0 ≤ num)) && decide (num ≤ 0)) := by
    intro x5 h5
    rw [winnowref04_One.j0, if_pos h5, tl_eq]
    by_cases c : num = 0
    · rw [if_pos c, decide_eq_true (by omega), decide_eq_true (by omega), Bool.and_true, Bool.and_true]
    · rw [if_neg c, decide_eq_false (show ¬ num ≤ 0 by omega), Bool.and_false]
  have h1 : ∀ x5 : Bool, x5 = true → winnowref04_One.j1 (k + 1) x5 b what num text = some ((decide (num = 0) && decide (span_Name.f text = some 0)) && !decide (0 ≤ indexByte text.data.toList 32)) := by
    intro x5 h5
    obtain ⟨t, et⟩ : ∃ t, span_Name.f text = some t := ⟨_, rfl⟩
    rw [winnowref04_One.j1, if_pos h5, name_eq text (by omega), et]
    simp only [Option.bind_some, Option.some.injEq]
    by_cases c : num = 0
    · rw [if_pos c, decide_eq_true c, Bool.true_and]
      by_cases c2 : t = 0
      · rw [c2] at et
        obtain ⟨_, _, _, g2, _⟩ := name_rs et
        rw [if_pos c2, decide_eq_true c2, Bool.true_and, blank_eq text (by omega) (by omega)]
        rfl
      · rw [if_neg c2, decide_eq_false c2, Bool.false_and]
    · rw [if_neg c, decide_eq_false c, Bool.false_and, Bool.false_and]
  unfold rightB winnowref04_One.f
  simp only [policy_form.f, policy_form.j0]
  by_cases c1 : what.toList = ([97, 108, 119, 97, 121, 115] : List UInt8)
  · rw [if_pos c1, if_pos c1, if_pos (by rw [c1]; rfl), hb _ (by rw [c1]; rfl)]
    rfl
  rw [if_neg c1, if_neg c1]
  by_cases c2 : what.toList = ([102, 97, 105, 108] : List UInt8)
  · rw [if_pos c2, if_pos c2, if_pos (by rw [c2]; rfl), hb _ (by rw [c2]; rfl)]
    rfl
  rw [if_neg c2, if_neg c2]
  by_cases c3 : what.toList = ([114, 111, 111, 116] : List UInt8)
  · rw [if_pos (by rw [c3]; rfl), hb _ (by rw [c3]; rfl)]
    rfl
  have c3b : ¬ (what.toList == ([114, 111, 111, 116] : List UInt8)) = true := by simpa using c3
  rw [if_neg c3b, winnowref04_One.j0, if_neg c3b]
  by_cases c4 : what.toList = ([115, 108, 111, 119] : List UInt8)
  · rw [if_pos c4, if_pos c4, tl_eq]
    show _ = some ((text.toList.isEmpty && decide (0 ≤ num)) && decide (num ≤ 1099511627776))
    by_cases c : num ≤ 1099511627776
    · rw [if_pos c, decide_eq_true h0, decide_eq_true c, Bool.and_true, Bool.and_true]
    · rw [if_neg c, decide_eq_false c, Bool.and_false]
  rw [if_neg c4, if_neg c4]
  by_cases c5 : what.toList = ([109, 97, 110, 121] : List UInt8)
  · rw [if_pos c5, if_pos c5, tl_eq]
    show _ = some ((text.toList.isEmpty && decide (1 ≤ num)) && decide (num ≤ 16))
    by_cases c : num ≥ 1
    · rw [if_pos c, decide_eq_true (show 1 ≤ num from c), Bool.and_true]
      by_cases d : num ≤ 16
      · rw [if_pos d, decide_eq_true d, Bool.and_true]
      · rw [if_neg d, decide_eq_false d, Bool.and_false]
    · rw [if_neg c, decide_eq_false (show ¬ 1 ≤ num from c), Bool.and_false, Bool.false_and]
  rw [if_neg c5, if_neg c5]
  by_cases c6 : what.toList = ([104, 97, 115, 104] : List UInt8)
  · rw [if_pos c6, if_pos c6, tl_eq]
    show _ = some ((text.toList.isEmpty && decide (0 ≤ num)) && decide (num ≤ 1000))
    by_cases c : num ≤ 1000
    · rw [if_pos c, decide_eq_true h0, decide_eq_true c, Bool.and_true, Bool.and_true]
    · rw [if_neg c, decide_eq_false c, Bool.and_false]
  rw [if_neg c6, if_neg c6]
  by_cases c7 : what.toList = ([115, 101, 114, 118, 105, 99, 101] : List UInt8)
  · rw [if_pos c7, if_pos c7, h1 _ (by rw [c7]; rfl)]
    rfl
  rw [if_neg c7, if_neg c7]
  by_cases c8 : what.toList = ([110, 97, 109, 101] : List UInt8)
  · rw [if_pos c8, h1 _ (by rw [c8]; rfl)]
    rfl
  have c8b : ¬ (what.toList == ([110, 97, 109, 101] : List UInt8)) = true := by simpa using c8
  rw [if_neg c8, winnowref04_One.j1, if_neg c8b]
  rfl
theorem str_one (m : Nat) (hm : m < 10) : strOfNums [(IntKind.u64.wrap (48 + (m : Int))) % 256] = ⟨#[UInt8.ofNat (48 + m)]⟩ := by
  have e : (IntKind.u64.wrap (48 + (m : Int))) % 256 = ((48 + m : Nat) : Int) := by rw [IntKind.wrap_u64]; omega
  rw [e]
  rfl
theorem ref_digits : ∀ (n u k : Nat), u < 10 ^ (n + 1) → u < 18446744073709551616 → n < k → winnowref04_Digits.f k (u : Int) = some ⟨(decDigits u).toArray⟩ := by
  intro n
  induction n with
  | zero =>
    intro u k hu _ hk
    obtain ⟨k, rfl⟩ : ∃ j, k = j + 1 := ⟨k - 1, by omega⟩
    have ht : Int.tmod (u : Int) 10 = ((u : Nat) : Int) := by rw [Int.tmod_eq_emod_of_nonneg (by omega)]; omega
    rw [winnowref04_Digits.f, Option.bind_some, if_pos (by omega), ht, str_one u (by omega), decDigits_one (by omega)]
  | succ n ih =>
    intro u k hu h64 hk
    obtain ⟨k, rfl⟩ : ∃ j, k = j + 1 := ⟨k - 1, by omega⟩
    have ht : Int.tmod (u : Int) 10 = ((u % 10 : Nat) : Int) := by rw [Int.tmod_eq_emod_of_nonneg (by omega)]; omega
    have hd : IntKind.u64.wrap (Int.tdiv (u : Int) 10) = ((u / 10 : Nat) : Int) := by rw [Int.tdiv_eq_ediv_of_nonneg (by omega), IntKind.wrap_u64]; omega
    rw [winnowref04_Digits.f, Option.bind_some, ht, str_one (u % 10) (by omega), hd]
    by_cases c : u < 10
    · rw [if_pos (by omega), decDigits_one c, Nat.mod_eq_of_lt c]
    · have hp : 10 ^ (n + 1 + 1) = 10 ^ (n + 1) * 10 := Nat.pow_succ ..
      have hl := digs_len (u / 10) (by omega)
      rw [if_neg (by omega), ih (u / 10) k (by rw [hp] at hu; omega) (by omega) (by omega), Option.bind_some, if_pos (by
        show (decDigits (u / 10)).toArray.size + 1 ≤ _
        rw [List.size_toArray]
        omega)]
      congr 1
      apply ba_ext
      rw [data_app]
      show (decDigits (u / 10)).toArray.toList ++ [UInt8.ofNat (48 + u % 10)] = (decDigits u).toArray.toList
      rw [List.toList_toArray, List.toList_toArray, show decDigits u = decDigits (u / 10) ++ [UInt8.ofNat (48 + u % 10)] from by rw [decDigits, dif_neg c]]
theorem ref_digits' (u : Nat) (h : u < 18446744073709551616) {k : Nat} (hk : 30 ≤ k) : winnowref04_Digits.f k (u : Int) = some ⟨(decDigits u).toArray⟩ :=
  ref_digits 19 u k (by have : 10 ^ (19 + 1) = 100000000000000000000 := by decide
                        omega) h (by omega)
/-! ### Right -/
theorem rdRR (l : List RRule) (i : Nat) (h : i < l.length) : rd_T37 l (i : Int) = l[i] := rdR l i h
theorem right_l0 (l : List RRule) (h0 : ∀ r ∈ l, 0 ≤ r.f2) (hl : l.length ≤ 16) (d : Nat) : ∀ (k i : Nat), i ≤ l.length → l.length - i = d → d + 1300 < k →
    winnowref04_Right.l0 k l (i : Int) = some (if ((l.drop i).map ownR).any (fun r => !rightB r.f1 r.f2 r.f3) = true then 7 else 0) := by
  induction d with
  | zero =>
    intro k i hi hd hk
    obtain ⟨k, rfl⟩ : ∃ j, k = j + 1 := ⟨k - 1, by omega⟩
    rw [winnowref04_Right.l0, if_neg (by omega), List.drop_eq_nil_of_le (by omega)]
    rfl
  | succ d ih =>
    intro k i hi hd hk
    obtain ⟨k, rfl⟩ : ∃ j, k = j + 1 := ⟨k - 1, by omega⟩
    have hlt : i < l.length := by omega
    rw [winnowref04_Right.l0, if_pos (by omega), if_pos (by omega), w64s (by omega), rdR l i hlt, one_right _ _ _ (h0 _ (List.getElem_mem hlt)) _ (by omega), Option.bind_some, ih k (i + 1) (by omega) (by omega) (by omega), List.drop_eq_getElem_cons hlt, List.map_cons, List.any_cons]
    show (if rightB (l[i]).f1 (l[i]).f2 (l[i]).f3 = true then _ else _) = some (if ((!rightB (l[i]).f1 (l[i]).f2 (l[i]).f3) || _) = true then 7 else 0)
    cases rightB (l[i]).f1 (l[i]).f2 (l[i]).f3 with
    | true => rw [if_pos rfl]; rfl
    | false => rw [if_neg (by decide)]; rfl
theorem right_eq (l : List RRule) (h0 : ∀ r ∈ l, 0 ≤ r.f2) {k : Nat} (hk : 1400 ≤ k) : winnowref04_Right.f k l = policy_Right.f (l.map ownR) := by
  unfold winnowref04_Right.f policy_Right.f
  by_cases c : 16 < l.length
  · rw [if_pos (by omega), if_pos (by rw [List.length_map]; exact c)]
  · rw [if_neg (by omega), if_neg (by rw [List.length_map]; exact c)]
    have h := right_l0 l h0 (by omega) l.length k 0 (by omega) (by omega) (by omega)
    rw [List.drop_zero] at h
    exact h
/-! ### a line -/
theorem words_of {r : PRule} {kd lo hi : Int} (hf : policy_form.f 1 r.f1 = some (kd, lo, hi)) : wordsR r = (if r.f0 = true then sKeep else sDrop) :: r.f1 :: (if kd = 2 then [⟨(decDigits r.f2.toNat).toArray⟩] else if kd = 3 then [r.f3] else []) := by
  unfold wordsR
  rw [hf]
def headR (b : Bool) : ByteArray := if b = true then ⟨#[107, 101, 101, 112, 32]⟩ else ⟨#[100, 114, 111, 112, 32]⟩
theorem head_eq (b : Bool) : headR b = (if b = true then sKeep else sDrop) ++ ⟨#[32]⟩ := by cases b <;> rfl
theorem head_size (b : Bool) : (headR b).size = 5 := by cases b <;> rfl
theorem line_f {k : Nat} (b : Bool) (what : ByteArray) (num : Int) (text : ByteArray) : winnowref04_Line.f k b what num text = winnowref04_Line.j0 k (headR b) b what num text := by
  unfold winnowref04_Line.f
  cases b <;> rfl
theorem line_eq (r : RRule) (hg : goodR (ownR r) = true) {k : Nat} (hk : 40 ≤ k) : winnowref04_Line.f k r.f0 r.f1 r.f2 r.f3 = some (lineR (ownR r)) := by
  obtain ⟨hw, kd, lo, hi, hf, hc⟩ := right_cases hg
  obtain ⟨b, what, num, text⟩ := r
  simp only [ownR] at hw hf hc ⊢
  obtain ⟨hs, _, _⟩ := words_small _ hw
  have hsz : what.size ≤ 7 := by rw [← data_length]; exact hs
  have hh := head_size b
  have hwt : what.toList = what.data.toList := ByteArray.toList_eq what
  obtain ⟨k, rfl⟩ : ∃ j, k = j + 2 := ⟨k - 2, by omega⟩
  have hl := words_of (r := ⟨b, what, num, text⟩) hf
  have hap : (headR b ++ what).size = 5 + what.size := by rw [ByteArray.size_append, hh]
  have bare : (∀ x, x ∈ [[115, 108, 111, 119], [109, 97, 110, 121], [104, 97, 115, 104], [115, 101, 114, 118, 105, 99, 101], ([110, 97, 109, 101] : List UInt8)] → ¬ what.toList = x) → kd = 1 → winnowref04_Line.j0 (k + 2) (headR b) b what num text = some (lineR ⟨b, what, num, text⟩) := by
    intro hx hk1
    rw [hk1, if_neg (show ¬ ((1 : Int) = 2) by decide), if_neg (show ¬ ((1 : Int) = 3) by decide)] at hl
    rw [winnowref04_Line.j0, if_pos (by omega), if_neg (hx _ (by simp)), if_neg (hx _ (by simp)), winnowref04_Line.j1, if_neg (by have := hx [104, 97, 115, 104] (by simp); simpa using this), if_neg (hx _ (by simp)), if_neg (hx _ (by simp))]
    unfold lineR
    rw [hl, head_eq]
    rfl
  have tail1 : ∀ t : ByteArray, (headR b ++ what) ++ ⟨#[32]⟩ ++ t = joinB 32 [(if b = true then sKeep else sDrop), what, t] := by
    intro t
    rw [head_eq]
    show _ = (if b = true then sKeep else sDrop) ++ ⟨#[32]⟩ ++ (what ++ ⟨#[32]⟩ ++ t)
    simp only [ByteArray.append_assoc]
  have hsp : ((headR b ++ what) ++ (⟨#[32]⟩ : ByteArray)).size = 6 + what.size := by
    rw [ByteArray.size_append, hap]
    show 5 + what.size + 1 = _
    omega
  have counted : kd = 2 → 0 ≤ num → num ≤ 1099511627776 → ∀ x : Bool, x = true → winnowref04_Line.j1 (k + 1) (headR b ++ what) what x b what num text = some (lineR ⟨b, what, num, text⟩) := by
    intro hk2 n0 n1 x hx
    rw [hk2, if_pos (show (2 : Int) = 2 from rfl)] at hl
    obtain ⟨u, rfl⟩ := Int.eq_ofNat_of_zero_le n0
    have hdl := digs_len u (by omega)
    rw [winnowref04_Line.j1, if_pos hx, if_pos (by omega), ref_digits' u (by omega) (by omega), Option.bind_some, if_pos (by
      rw [hsp]
      show _ + (decDigits u).toArray.size ≤ _
      rw [List.size_toArray]
      omega), tail1]
    unfold lineR
    rw [hl]
    rfl
  have named : kd = 3 → text.size ≤ 32 → lineR ⟨b, what, num, text⟩ = (headR b ++ what) ++ ⟨#[32]⟩ ++ text := by
    intro hk3 _
    rw [hk3, if_neg (show ¬ ((3 : Int) = 2) by decide), if_pos (show (3 : Int) = 3 from rfl)] at hl
    unfold lineR
    rw [hl, tail1]
  rw [line_f]
  have fin : ∀ (w : List UInt8) (q : Int × Int × Int), what.toList = w → policy_form.f 1 what = some q → q.1 = kd := by
    intro w q _ h
    rw [hf] at h
    cases h
    rfl
  rw [← hwt] at hw
  simp only [wordsL, List.mem_cons, List.mem_nil_iff, or_false] at hw
  rcases hw with hw | hw | hw | hw | hw | hw | hw | hw
  · have hf2 : policy_form.f 1 what = some (1, 0, 0) := by simp only [policy_form.f, policy_form.j0, hw]; rfl
    exact bare (by rw [hw]; decide) (fin _ _ hw hf2).symm
  · have hf2 : policy_form.f 1 what = some (1, 0, 0) := by simp only [policy_form.f, policy_form.j0, hw]; rfl
    exact bare (by rw [hw]; decide) (fin _ _ hw hf2).symm
  · have hf2 : policy_form.f 1 what = some (1, 0, 0) := by simp only [policy_form.f, policy_form.j0, hw]; rfl
    exact bare (by rw [hw]; decide) (fin _ _ hw hf2).symm
  · have hf2 : policy_form.f 1 what = some (2, 0, 1099511627776) := by simp only [policy_form.f, policy_form.j0, hw]; rfl
    have hk2 : kd = 2 := (fin _ _ hw hf2).symm
    rcases hc with ⟨e, _⟩ | ⟨_, n0, n1, _⟩ | ⟨e, _⟩
    · omega
    · rw [winnowref04_Line.j0, if_pos (by omega), if_pos hw]
      exact counted hk2 n0 n1 _ (by rw [hw]; rfl)
    · omega
  · have hf2 : policy_form.f 1 what = some (2, 1, 16) := by simp only [policy_form.f, policy_form.j0, hw]; rfl
    have hk2 : kd = 2 := (fin _ _ hw hf2).symm
    rcases hc with ⟨e, _⟩ | ⟨_, n0, n1, _⟩ | ⟨e, _⟩
    · omega
    · rw [winnowref04_Line.j0, if_pos (by omega), if_neg (by rw [hw]; decide), if_pos hw]
      exact counted hk2 n0 n1 _ (by rw [hw]; rfl)
    · omega
  · have hf2 : policy_form.f 1 what = some (2, 0, 1000) := by simp only [policy_form.f, policy_form.j0, hw]; rfl
    have hk2 : kd = 2 := (fin _ _ hw hf2).symm
    rcases hc with ⟨e, _⟩ | ⟨_, n0, n1, _⟩ | ⟨e, _⟩
    · omega
    · rw [winnowref04_Line.j0, if_pos (by omega), if_neg (by rw [hw]; decide), if_neg (by rw [hw]; decide)]
      exact counted hk2 n0 n1 _ (by rw [hw]; rfl)
    · omega
  · have hf2 : policy_form.f 1 what = some (3, 0, 0) := by simp only [policy_form.f, policy_form.j0, hw]; rfl
    have hk3 : kd = 3 := (fin _ _ hw hf2).symm
    rcases hc with ⟨e, _⟩ | ⟨e, _⟩ | ⟨_, _, hn, _⟩
    · omega
    · omega
    · obtain ⟨_, _, _, g2, _⟩ := name_rs hn
      rw [winnowref04_Line.j0, if_pos (by omega), if_neg (by rw [hw]; decide), if_neg (by rw [hw]; decide), winnowref04_Line.j1, if_neg (by rw [hw]; decide), if_pos hw, if_pos (by omega), if_pos (by omega), named hk3 g2]
  · have hf2 : policy_form.f 1 what = some (3, 0, 0) := by simp only [policy_form.f, policy_form.j0, hw]; rfl
    have hk3 : kd = 3 := (fin _ _ hw hf2).symm
    rcases hc with ⟨e, _⟩ | ⟨e, _⟩ | ⟨_, _, hn, _⟩
    · omega
    · omega
    · obtain ⟨_, _, _, g2, _⟩ := name_rs hn
      rw [winnowref04_Line.j0, if_pos (by omega), if_neg (by rw [hw]; decide), if_neg (by rw [hw]; decide), winnowref04_Line.j1, if_neg (by rw [hw]; decide), if_neg (by rw [hw]; decide), if_pos hw, if_pos (by omega), if_pos (by omega), named hk3 g2]
/-! ### Show -/
theorem joinB_snoc (c : UInt8) (y : ByteArray) : ∀ xs : List ByteArray, xs ≠ [] → joinB c (xs ++ [y]) = joinB c xs ++ ⟨#[c]⟩ ++ y
  | [], h => absurd rfl h
  | [x], _ => rfl
  | x :: z :: t, _ => by
    have ih := joinB_snoc c y (z :: t) (by simp)
    show x ++ ⟨#[c]⟩ ++ joinB c ((z :: t) ++ [y]) = (x ++ ⟨#[c]⟩ ++ joinB c (z :: t)) ++ ⟨#[c]⟩ ++ y
    rw [ih]
    simp only [ByteArray.append_assoc]
theorem show_l0 (l : List RRule) (hg : ∀ r ∈ l, goodR (ownR r) = true) (hl : l.length ≤ 16) (d : Nat) : ∀ (k i : Nat), i ≤ l.length → l.length - i = d → d + 100 < k →
    winnowref04_Show.l0 k l (joinB 10 ((l.take i).map (fun r => lineR (ownR r)))) (i : Int) = some (if (joinB 10 (l.map (fun r => lineR (ownR r)))).size > 2048 then (⟨#[]⟩, 4) else (joinB 10 (l.map (fun r => lineR (ownR r))), 0)) := by
  induction d with
  | zero =>
    intro k i hi hd hk
    obtain ⟨k, rfl⟩ : ∃ j, k = j + 1 := ⟨k - 1, by omega⟩
    rw [List.take_of_length_le (by omega), winnowref04_Show.l0, if_neg (by omega)]
    by_cases c : (joinB 10 (l.map (fun r => lineR (ownR r)))).size > 2048
    · rw [if_pos (by omega), if_pos c]
    · rw [if_neg (by omega), if_neg c]
  | succ d ih =>
    intro k i hi hd hk
    obtain ⟨k, rfl⟩ : ∃ j, k = j + 1 := ⟨k - 1, by omega⟩
    have hlt : i < l.length := by omega
    have hgi := hg _ (List.getElem_mem hlt)
    have hls := (line_good hgi).1
    have hacc := joinB_le 10 99 ((l.take i).map (fun r => lineR (ownR r))) (fun x m => by
      obtain ⟨r, hr, rfl⟩ := List.mem_map.1 m
      exact (line_good (hg r (List.mem_of_mem_take hr))).1)
    have hlen : ((l.take i).map (fun r => lineR (ownR r))).length ≤ 16 := by rw [List.length_map, List.length_take]; omega
    have hm := Nat.mul_le_mul_right (99 + 1) hlen
    have hone : (ByteArray.mk #[10]).size = 1 := rfl
    have et : (l.take (i + 1)).map (fun r => lineR (ownR r)) = (l.take i).map (fun r => lineR (ownR r)) ++ [lineR (ownR l[i])] := by rw [List.take_succ_eq_append_getElem hlt, List.map_append]; rfl
    have ih2 := ih k (i + 1) (by omega) (by omega) (by omega)
    rw [et] at ih2
    rw [winnowref04_Show.l0, if_pos (by omega), rdR l i hlt, line_eq l[i] hgi (by omega), w64s (by omega)]
    by_cases hz : i = 0
    · subst hz
      rw [if_neg (by omega), if_pos (by omega), Option.bind_some, if_pos (by omega)]
      rw [List.take_zero, List.map_nil, List.nil_append] at ih2
      rw [List.take_zero, List.map_nil]
      show winnowref04_Show.l0 k l (⟨#[]⟩ ++ lineR (ownR l[0])) _ = _
      rw [show (⟨#[]⟩ : ByteArray) ++ lineR (ownR l[0]) = lineR (ownR l[0]) from ByteArray.empty_append]
      exact ih2
    · rw [joinB_snoc _ _ _ (by
        intro h
        have := congrArg List.length h
        rw [List.length_map, List.length_take, List.length_nil] at this
        omega)] at ih2
      rw [if_pos (by omega), if_pos (by omega), if_pos (by omega), Option.bind_some, if_pos (by rw [ByteArray.size_append, hone]; omega)]
      exact ih2
theorem ref_show (l : List RRule) (h0 : ∀ r ∈ l, 0 ≤ r.f2) {k : Nat} (hk : 1400 ≤ k) : winnowref04_Show.f k l = some (showR (l.map ownR)) := by
  unfold winnowref04_Show.f
  rw [right_eq l h0 hk]
  unfold policy_Right.f showR
  rw [Option.bind_some]
  by_cases c1 : 16 < (l.map ownR).length
  · rw [if_pos c1, if_neg (by decide), if_pos c1]
  rw [if_neg c1, if_neg c1]
  by_cases c2 : (l.map ownR).any (fun r => !rightB r.f1 r.f2 r.f3) = true
  · rw [if_pos c2, if_neg (by decide), if_pos c2]
  rw [if_neg c2, if_neg c2, if_pos rfl]
  have hg : ∀ r ∈ l, goodR (ownR r) = true := fun r hr => all_good c2 _ (List.mem_map_of_mem hr)
  have c1' : ¬ 16 < l.length := by rwa [List.length_map] at c1
  have h := show_l0 l hg (by omega) l.length k 0 (by omega) (by omega) (by omega)
  rw [List.take_zero, List.map_nil] at h
  rw [List.map_map]
  exact h
theorem shows_true (l : List RRule) (h0 : ∀ r ∈ l, 0 ≤ r.f2) (k : Nat) (hk : 2000 ≤ k) : winnowlaw04_PolicyShows.f k l = some true := by
  have lift : ∀ {α : Type} {f : Nat → Option α} (_ : ∀ k, LeO (f k) (f (k + 1))) {r : α} {a c : Nat}, f a = some r → a ≤ c → f c = some r := by
    intro α f hm r a c h hac
    induction hac with
    | refl => exact h
    | step _ ih => exact hm _ _ ih
  unfold winnowlaw04_PolicyShows.f
  obtain ⟨t1, h1, x1⟩ := light_tells l []
  rw [lift (fun k => winnowlaw04_Light.mono l [] k) h1 (by omega), Option.bind_some]
  cases t1 with
  | false => rw [if_neg (by decide)]; rfl
  | true =>
    obtain ⟨lr, _, _⟩ := x1 rfl
    rw [if_pos rfl, own_tells l lr (by omega), Option.bind_some]
    show (some (showR (l.map ownR))).bind _ = _
    rw [Option.bind_some, ref_show l h0 (by omega), Option.bind_some, if_pos rfl, if_pos rfl, Option.bind_some, right_eq l h0 (by omega)]
    unfold policy_Right.f
    rw [Option.bind_some, Option.bind_some, if_pos rfl]
    rfl
theorem walk_PolicyShows (W : World) (a0 : Option Addr) (cap0 : Nat) (x0 : (List S37)) (hl0 : x0.length ≤ cap0) (hC0 : Kd.C k37 W a0 x0.length x0) (ok_0 : x0.length ≤ maxLen ∧ ∀ y_x0 ∈ x0, (ok37 y_x0)) (hL : Laid W) :
    Calls Tryz.prog 3 #[.slice a0 x0.length cap0] W fun e W' => e = .returned (.bool true) ∧ Below W.heap.size W W' :=
  winnowlaw04_PolicyShows.calls 2000 a0 cap0 x0 true W hC0 hl0 hL (shows_true _ (fun r hr => by
    have h := (ok_0.2 r hr).2.2.1
    simp [Lit.wf, IntKind.min, IntKind.max, IntKind.signed, IntKind.bits] at h
    omega) _ (Nat.le_refl _))
end Go.Proofs.YtemepnpfhoidhaaGreatDoor.PAll
