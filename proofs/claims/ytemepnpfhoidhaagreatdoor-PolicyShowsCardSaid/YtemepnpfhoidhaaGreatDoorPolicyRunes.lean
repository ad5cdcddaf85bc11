/-
  The runes of right texts, of texts one behind the other, and what Match tells of names.
  Conditions: none.
-/
import Derived.Test.YtemepnpfhoidhaaGreatDoorPolicyMatch
import Derived.Test.YtemepnpfhoidhaaGreatDoorNamePure
import Derived.Lib.ValidLaws
import Derived.Lib.TrimUEq
namespace Go.Proofs.YtemepnpfhoidhaaGreatDoor.PAll
open Go.RowKit Go.Lib Go.Sort Go.Proofs.YtemepnpfhoidhaaGreatDoorW.PrintWords Go.Proofs.YtemepnpfhoidhaaGreatDoorW.PrintLast Go.Proofs.YtemepnpfhoidhaaGreatDoorW.PrintMore
open MatchCore
set_option linter.unusedVariables false
set_option linter.unusedSimpArgs false
/-- What is left of a text, and its runes: all right. -/
inductive Rs (s : ByteArray) : Nat → List Int → Prop
  | done : Rs s s.size []
  | step (pos : Nat) (rs : List Int) (hp : pos < s.size) (hi : inv s pos = false) (h : Rs s (pos + (Utf8.decode s pos).2) rs) : Rs s pos (((Utf8.decode s pos).1 : Int) :: rs)
theorem dec_pos (s : ByteArray) (pos : Nat) (h : pos < s.size) : 1 ≤ (Utf8.decode s pos).2 ∧ pos + (Utf8.decode s pos).2 ≤ s.size := by
  rw [decode_at]
  have h1 := dec_ge1 (s.size - pos) (s.get! pos).toNat (s.get! (pos + 1)).toNat (s.get! (pos + 2)).toNat (s.get! (pos + 3)).toNat
  have h2 := dec_le_n (s.size - pos) (s.get! pos).toNat (s.get! (pos + 1)).toNat (s.get! (pos + 2)).toNat (s.get! (pos + 3)).toNat (by omega)
  omega
theorem Rs.of_scan (s : ByteArray) : ∀ b pos rs, pos ≤ s.size → s.size - pos ≤ b → scan s b pos = some rs → Rs s pos rs
  | 0, pos, rs, hp, hb, h => by
    obtain rfl : pos = s.size := by omega
    simp only [scan, Option.some.injEq] at h
    subst h
    exact .done
  | b + 1, pos, rs, hp, hb, h => by
    unfold scan at h
    by_cases hlt : pos < s.size
    · rw [if_pos hlt] at h
      cases hi : inv s pos with
      | true => rw [hi, if_pos rfl] at h; cases h
      | false =>
        rw [hi, if_neg (by decide)] at h
        obtain ⟨r, hr, rfl⟩ := Option.map_eq_some_iff.1 h
        have hd := dec_pos s pos hlt
        exact .step pos r hlt hi (Rs.of_scan s b _ r hd.2 (by omega) hr)
    · rw [if_neg hlt] at h
      obtain rfl : pos = s.size := by omega
      simp only [Option.some.injEq] at h
      subst h
      exact .done
theorem Rs.runes {s : ByteArray} {pos : Nat} {rs : List Int} (h : Rs s pos rs) : ∀ b, s.size - pos ≤ b → runesL s b pos = rs := by
  induction h with
  | done =>
    intro b hb
    cases b with
    | zero => rfl
    | succ b => unfold runesL; rw [if_neg (Nat.lt_irrefl _)]
  | step pos rs hp hi h ih =>
    intro b hb
    have hd := dec_pos s pos hp
    cases b with
    | zero => omega
    | succ b =>
      unfold runesL
      rw [if_pos hp, ih b (by omega)]
theorem err_byte (n b0 b1 b2 b3 : Nat) (h : (decodeN n b0 b1 b2 b3).1 = 65533) (h2 : (decodeN n b0 b1 b2 b3).2 = 1) (h0 : b0 < 256) : 128 ≤ b0 := by
  rcases Nat.lt_or_ge b0 128 with hb | hb
  · rw [decodeN_ascii _ _ _ _ _ hb] at h
    simp only at h
    omega
  · exact hb
theorem Rs.valid {s : ByteArray} {pos : Nat} {rs : List Int} (h : Rs s pos rs) : validD (s.data.toList.drop pos) = true := by
  induction h with
  | done => rw [List.drop_eq_nil_of_le (by rw [data_length]; exact Nat.le_refl _)]; exact validD_nil
  | step pos rs hp hi h ih =>
    have hne : s.data.toList.drop pos ≠ [] := by
      intro e
      have := congrArg List.length e
      rw [List.length_drop, data_length] at this
      simp at this
      omega
    rw [validD_step _ hne, decodeL_drop, if_neg, List.drop_drop]
    · exact ih
    · rintro ⟨h1, h2⟩
      unfold inv at hi
      rw [decode_at] at h1 h2 hi
      have := err_byte _ _ _ _ _ h1 h2 (s.get! pos).toNat_lt
      rw [h2] at hi
      simp at hi
      omega
theorem Rs.bytes {s : ByteArray} {pos : Nat} {rs : List Int} (h : Rs s pos rs) (c : Nat) (hc : c < 128) (hm : (c : Int) ∈ rs) : ∃ i, i < s.size ∧ (s.get! i).toNat = c := by
  induction h with
  | done => cases hm
  | step pos rs hp hi h ih =>
    rcases List.mem_cons.1 hm with e | e
    · refine ⟨pos, hp, ?_⟩
      have e2 : (Utf8.decode s pos).1 = c := by omega
      rw [decode_at] at e2
      have l0 : (s.get! pos).toNat < 256 := (s.get! pos).toNat_lt
      revert e2
      unfold decodeN
      repeat' split
      all_goals (intro e2; simp only at e2; omega)
    · exact ih e
theorem decN_ext (n n' b0 b1 b2 b3 c1 c2 c3 : Nat) (hnn : n ≤ n') (hn : 1 ≤ n) (hi : ¬ ((decodeN n b0 b1 b2 b3).2 = 1 ∧ 128 ≤ b0)) (e1 : 1 < n → c1 = b1) (e2 : 2 < n → c2 = b2) (e3 : 3 < n → c3 = b3) : decodeN n' b0 c1 c2 c3 = decodeN n b0 b1 b2 b3 := by
  rcases Nat.lt_or_ge b0 128 with hb | hb
  · rw [decodeN_ascii _ _ _ _ _ hb, decodeN_ascii _ _ _ _ _ hb]
  have hi2 : ¬ (decodeN n b0 b1 b2 b3).2 = 1 := fun h => hi ⟨h, hb⟩
  clear hi
  revert hi2
  unfold decodeN
  rw [if_neg (show ¬ b0 < 128 by omega), if_neg (show ¬ b0 < 128 by omega)]
  by_cases q1 : b0 / 32 = 6 ∧ (1 < n ∧ b1 / 64 = 2)
  · obtain rfl := e1 q1.2.1
    intro hi2
    rw [if_pos q1, if_pos (show b0 / 32 = 6 ∧ (1 < n' ∧ c1 / 64 = 2) from ⟨q1.1, by omega, q1.2.2⟩)]
  rw [if_neg q1]
  by_cases q2 : b0 / 16 = 14 ∧ (1 < n ∧ b1 / 64 = 2) ∧ (2 < n ∧ b2 / 64 = 2)
  · obtain rfl := e1 q2.2.1.1
    obtain rfl := e2 q2.2.2.1
    intro hi2
    rw [if_pos q2, if_neg (show ¬ (b0 / 32 = 6 ∧ (1 < n' ∧ c1 / 64 = 2)) by omega), if_pos (show b0 / 16 = 14 ∧ (1 < n' ∧ c1 / 64 = 2) ∧ (2 < n' ∧ c2 / 64 = 2) from ⟨q2.1, ⟨by omega, q2.2.1.2⟩, ⟨by omega, q2.2.2.2⟩⟩)]
  rw [if_neg q2]
  by_cases q3 : b0 / 8 = 30 ∧ (1 < n ∧ b1 / 64 = 2) ∧ (2 < n ∧ b2 / 64 = 2) ∧ (3 < n ∧ b3 / 64 = 2)
  · obtain rfl := e1 q3.2.1.1
    obtain rfl := e2 q3.2.2.1.1
    obtain rfl := e3 q3.2.2.2.1
    intro hi2
    rw [if_pos q3, if_neg (show ¬ (b0 / 32 = 6 ∧ (1 < n' ∧ c1 / 64 = 2)) by omega), if_neg (show ¬ (b0 / 16 = 14 ∧ (1 < n' ∧ c1 / 64 = 2) ∧ (2 < n' ∧ c2 / 64 = 2)) by omega), if_pos (show b0 / 8 = 30 ∧ (1 < n' ∧ c1 / 64 = 2) ∧ (2 < n' ∧ c2 / 64 = 2) ∧ (3 < n' ∧ c3 / 64 = 2) from ⟨q3.1, ⟨by omega, q3.2.1.2⟩, ⟨by omega, q3.2.2.1.2⟩, ⟨by omega, q3.2.2.2.2⟩⟩)]
  rw [if_neg q3]
  exact fun h => absurd rfl h
theorem app_size (p q : ByteArray) : (p ++ q).size = p.size + q.size := ByteArray.size_append
theorem app_left (p q : ByteArray) (i : Nat) (h : i < p.size) : (p ++ q).get! i = p.get! i := by
  rw [← getD_get!', ← getD_get!', ByteArray.data_append, Array.toList_append]
  simp only [List.getD_eq_getElem?_getD]
  rw [List.getElem?_append_left (by rw [data_length]; exact h)]
theorem app_right (p q : ByteArray) (i : Nat) : (p ++ q).get! (p.size + i) = q.get! i := by
  rw [← getD_get!', ← getD_get!', ByteArray.data_append, Array.toList_append]
  simp only [List.getD_eq_getElem?_getD]
  rw [List.getElem?_append_right (by rw [data_length]; omega), data_length, Nat.add_sub_cancel_left]
theorem dec_right (p q : ByteArray) (pos : Nat) : Utf8.decode (p ++ q) (p.size + pos) = Utf8.decode q pos := by
  rw [decode_at, decode_at, app_size, Nat.add_assoc, Nat.add_assoc, Nat.add_assoc, app_right, app_right, app_right, app_right]
  congr 1
  omega
theorem dec_left (p q : ByteArray) (pos : Nat) (hp : pos < p.size) (hi : inv p pos = false) : Utf8.decode (p ++ q) pos = Utf8.decode p pos := by
  unfold inv at hi
  rw [decode_at] at hi
  rw [decode_at, decode_at, app_size, app_left _ _ _ hp]
  refine decN_ext _ _ _ _ _ _ _ _ _ (by omega) (by omega) (fun h => ?_) (fun h => ?_) (fun h => ?_) (fun h => ?_)
  · simp [h.1, h.2] at hi
  · rw [app_left _ _ _ (by omega)]
  · rw [app_left _ _ _ (by omega)]
  · rw [app_left _ _ _ (by omega)]
theorem Rs.right {q : ByteArray} {pos : Nat} {rs : List Int} (p : ByteArray) (h : Rs q pos rs) : Rs (p ++ q) (p.size + pos) rs := by
  induction h with
  | done => rw [← app_size]; exact .done
  | step pos rs hp hi h ih =>
    have e := dec_right p q pos
    rw [← e]
    refine .step _ rs (by rw [app_size]; omega) ?_ ?_
    · unfold inv at hi ⊢
      rw [e, app_right]
      exact hi
    · rw [e, Nat.add_assoc]
      exact ih
theorem Rs.app {p q : ByteArray} {pos : Nat} {rp rq : List Int} (h : Rs p pos rp) (hq : Rs q 0 rq) : Rs (p ++ q) pos (rp ++ rq) := by
  induction h with
  | done => exact hq.right p
  | step pos rs hp hi h ih =>
    have e := dec_left p q pos hp hi
    rw [List.cons_append, ← e]
    refine .step _ _ (by rw [app_size]; omega) ?_ ?_
    · unfold inv at hi ⊢
      rw [e, app_left _ _ _ hp]
      exact hi
    · rw [e]
      exact ih
/-- What Match tells of right texts. -/
theorem match_rs {p n : ByteArray} {rp rn : List Int} (hp : Rs p 0 rp) (hn : Rs n 0 rn) : matchB p n = M rp rn := by
  unfold matchB runesB
  rw [if_pos ⟨by have := hp.valid; rwa [List.drop_zero] at this, by have := hn.valid; rwa [List.drop_zero] at this⟩, hp.runes _ (by omega), hn.runes _ (by omega)]
theorem rs_star : Rs ⟨#[42]⟩ 0 [42] := Rs.step (s := ⟨#[42]⟩) 0 [] (by decide) (by decide) .done
/-- A name: its runes, and that there are some. -/
theorem name_rs {s : ByteArray} (h : span_Name.f s = some 0) : ∃ rs, Rs s 0 rs ∧ 1 ≤ s.size ∧ s.size ≤ 32 ∧ scan s s.size 0 = some rs := by
  unfold span_Name.f at h
  have he : s.toList = [] ↔ s.size = 0 := by
    rw [ByteArray.toList_eq, ← data_length, List.length_eq_zero_iff]
  split at h
  · cases h
  · rename_i hn
    rw [he, not_or] at hn
    rw [name_scan] at h
    cases hs : scan s s.size 0 with
    | none => rw [hs] at h; cases h
    | some rs => exact ⟨rs, Rs.of_scan s _ _ rs (by omega) (by omega) hs, by omega, by omega, rfl⟩
theorem Rs.ne {s : ByteArray} {rs : List Int} (h : Rs s 0 rs) (hs : 1 ≤ s.size) : rs ≠ [] := by
  rintro rfl
  generalize e : (0 : Nat) = pos at h
  cases h
  omega
/-- Has a text no star and no mark? -/
def plainB (s : ByteArray) : Bool := (List.range s.size).all (fun i => s.get! i != 42 && s.get! i != 63)
theorem plain_no {s : ByteArray} {rs : List Int} (h : Rs s 0 rs) (hp : plainB s = true) : (∀ c ∈ rs, c ≠ 42) ∧ ¬ (42 : Int) ∈ rs := by
  have key : ¬ (42 : Int) ∈ rs := by
    intro hm
    obtain ⟨i, hi, e⟩ := h.bytes 42 (by omega) hm
    unfold plainB at hp
    rw [List.all_eq_true] at hp
    have h1 := hp i (List.mem_range.2 hi)
    rw [Bool.and_eq_true, bne_iff_ne] at h1
    exact h1.1 (UInt8.toNat_inj.1 (by rw [e]; rfl))
  exact ⟨fun c hc e => key (e ▸ hc), key⟩
/-- What the law of stars says, of names. -/
structure Stars (p n h : ByteArray) : Prop where
  all : matchB ⟨#[42]⟩ n = true
  front : matchB p n = true → matchB (⟨#[42]⟩ ++ p) n = true
  ahead : matchB p n = true → matchB (⟨#[42]⟩ ++ p) (h ++ n) = true
  behind : matchB p n = true → matchB (p ++ ⟨#[42]⟩) (n ++ h) = true
  self : plainB n = true → matchB n n = true
  other : plainB n = true → matchB n (h ++ n) = false
theorem stars_name {p n h : ByteArray} (hp : span_Name.f p = some 0) (hn : span_Name.f n = some 0) (hh : span_Name.f h = some 0) : Stars p n h := by
  obtain ⟨rp, sp, _, _, _⟩ := name_rs hp
  obtain ⟨rn, sn, _, _, _⟩ := name_rs hn
  obtain ⟨rh, sh, h1, _, _⟩ := name_rs hh
  refine ⟨?_, fun hm => ?_, fun hm => ?_, fun hm => ?_, fun hm => ?_, fun hm => ?_⟩
  · rw [match_rs rs_star sn]; exact M_all _
  · rw [match_rs sp sn] at hm
    rw [match_rs (rs_star.app sp) sn]
    exact M_ahead rp [] rn hm
  · rw [match_rs sp sn] at hm
    rw [match_rs (rs_star.app sp) (sh.app sn)]
    exact M_ahead rp rh rn hm
  · rw [match_rs sp sn] at hm
    rw [match_rs (sp.app rs_star) (sn.app sh)]
    exact M_behind rp rn rh hm
  · rw [match_rs sn sn]
    exact (M_self rn).resolve_right (plain_no sn hm).2
  · rw [match_rs sn (sh.app sn)]
    cases hx : M rn (rh ++ rn) with
    | false => rfl
    | true =>
      have := M_len _ _ (plain_no sn hm).1 hx
      have hne := sh.ne h1
      rw [List.length_append] at this
      have : rh.length = 0 := by omega
      exact absurd (List.length_eq_zero_iff.1 this) hne
end Go.Proofs.YtemepnpfhoidhaaGreatDoor.PAll
