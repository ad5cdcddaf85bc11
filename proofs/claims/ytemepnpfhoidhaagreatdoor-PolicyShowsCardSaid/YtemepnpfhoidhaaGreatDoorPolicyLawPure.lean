/-
  The plain laws: PolicyMore and PolicyOrder compute true.
  Conditions: none.
-/
import Derived.Test.YtemepnpfhoidhaaGreatDoorPolicyHandN
namespace Go.Proofs.YtemepnpfhoidhaaGreatDoor.PAll
open Go.RowKit Go.Lib Go.Sort Go.Proofs.YtemepnpfhoidhaaGreatDoorW.PrintWords Go.Proofs.YtemepnpfhoidhaaGreatDoorW.PrintLast Go.Proofs.YtemepnpfhoidhaaGreatDoorW.PrintMore
set_option linter.unusedVariables false
set_option linter.unusedSimpArgs false
theorem w64s {i : Nat} (h : i ≤ 1000000) : wrap64 ((i : Int) + 1) = ((i + 1 : Nat) : Int) := by unfold wrap64; omega
theorem rdS (l : List S39) (i : Nat) (h : i < l.length) : rd_T39 l (i : Int) = l[i] := by
  unfold rd_T39
  rw [Int.toNat_natCast, List.getD_eq_getElem?_getD, List.getElem?_eq_getElem h]
  rfl
theorem rdR (l : List S37) (i : Nat) (h : i < l.length) : rd_T37 l (i : Int) = l[i] := by
  unfold rd_T37
  rw [Int.toNat_natCast, List.getD_eq_getElem?_getD, List.getElem?_eq_getElem h]
  rfl
theorem light_l1 (l : List S39) (hl : l.length ≤ 100) (d : Nat) : ∀ (k i : Nat), i ≤ l.length → l.length - i = d → d < k → ∃ b, winnowlaw04_Light.l1 k l (i : Int) = some b ∧ (b = true → ∀ x ∈ l.drop i, x.f6.size ≤ 200) := by
  induction d with
  | zero =>
    intro k i hi hd hk
    obtain ⟨k, rfl⟩ : ∃ j, k = j + 1 := ⟨k - 1, by omega⟩
    refine ⟨true, ?_, fun _ => ?_⟩
    · rw [winnowlaw04_Light.l1, if_neg (by omega)]
    · rw [List.drop_eq_nil_of_le (by omega)]
      intro x hx
      cases hx
  | succ d ih =>
    intro k i hi hd hk
    obtain ⟨k, rfl⟩ : ∃ j, k = j + 1 := ⟨k - 1, by omega⟩
    have hlt : i < l.length := by omega
    rw [winnowlaw04_Light.l1, if_pos (by omega), if_pos (by omega), w64s (by omega), rdS l i hlt]
    by_cases c1 : ((l[i].f6).size : Int) > 200
    · exact ⟨false, by rw [if_pos c1], fun h => by cases h⟩
    by_cases c2 : ((l[i].f5).size : Int) > 200
    · exact ⟨false, by rw [if_neg c1, if_pos c2], fun h => by cases h⟩
    obtain ⟨b, hb, hx⟩ := ih k (i + 1) (by omega) (by omega) (by omega)
    refine ⟨b, by rw [if_neg c1, if_neg c2]; exact hb, fun h x hm => ?_⟩
    rw [List.drop_eq_getElem_cons hlt] at hm
    rcases List.mem_cons.1 hm with rfl | hm
    · omega
    · exact hx h x hm
theorem light_l0 (rs : List S37) (hr : rs.length ≤ 100) (l : List S39) (hl : l.length ≤ 100) (d : Nat) : ∀ (k i : Nat), i ≤ rs.length → rs.length - i = d → d + 200 < k → ∃ b, winnowlaw04_Light.l0 k rs l (i : Int) = some b ∧ (b = true → ∀ x ∈ l, x.f6.size ≤ 200) := by
  induction d with
  | zero =>
    intro k i hi hd hk
    obtain ⟨k, rfl⟩ : ∃ j, k = j + 1 := ⟨k - 1, by omega⟩
    rw [winnowlaw04_Light.l0, if_neg (by omega)]
    obtain ⟨b, hb, hx⟩ := light_l1 l hl l.length k 0 (by omega) (by omega) (by omega)
    exact ⟨b, hb, fun h => by have := hx h; rwa [List.drop_zero] at this⟩
  | succ d ih =>
    intro k i hi hd hk
    obtain ⟨k, rfl⟩ : ∃ j, k = j + 1 := ⟨k - 1, by omega⟩
    have hlt : i < rs.length := by omega
    rw [winnowlaw04_Light.l0, if_pos (by omega), if_pos (by omega), w64s (by omega), rdR rs i hlt]
    by_cases c1 : ((rs[i].f3).size : Int) > 200
    · exact ⟨false, by rw [if_pos c1], fun h => by cases h⟩
    by_cases c2 : ((rs[i].f1).size : Int) > 200
    · exact ⟨false, by rw [if_neg c1, if_pos c2], fun h => by cases h⟩
    obtain ⟨b, hb, hx⟩ := ih k (i + 1) (by omega) (by omega) (by omega)
    exact ⟨b, by rw [if_neg c1, if_neg c2]; exact hb, hx⟩
/-- What Light tells. -/
theorem light_tells (rs : List S37) (l : List S39) : ∃ b, winnowlaw04_Light.f 1000 rs l = some b ∧ (b = true → rs.length ≤ 100 ∧ l.length ≤ 100 ∧ ∀ x ∈ l, x.f6.size ≤ 200) := by
  unfold winnowlaw04_Light.f
  by_cases h1 : (rs.length : Int) > 100
  · exact ⟨false, by rw [if_pos h1, winnowlaw04_Light.j0, if_pos rfl], fun h => by cases h⟩
  by_cases h2 : (l.length : Int) > 100
  · exact ⟨false, by rw [if_neg h1, decide_eq_true h2, winnowlaw04_Light.j0, if_pos rfl], fun h => by cases h⟩
  obtain ⟨b, hb, hx⟩ := light_l0 rs (by omega) l (by omega) rs.length 999 0 (by omega) (by omega) (by omega)
  refine ⟨b, ?_, fun h => ⟨by omega, by omega, hx h⟩⟩
  rw [if_neg h1, decide_eq_false h2, winnowlaw04_Light.j0, if_neg (by decide)]
  exact hb
theorem name_some (s : ByteArray) {k : Nat} (hk : 100 ≤ k) : ∃ r, winnowref03_Name.f k s = some r := ⟨_, name_eq s hk⟩
def ownR (r : S37) : S46 := ⟨r.f0, r.f1, r.f2, r.f3⟩
theorem own_l0 (rs : List S37) (hr : rs.length ≤ 100) (d : Nat) : ∀ (k i : Nat) (acc : List S46), i ≤ rs.length → rs.length - i = d → d < k → acc.length ≤ i → winnowlaw04_Own.l0 k rs acc (i : Int) = some (acc ++ (rs.drop i).map ownR) := by
  induction d with
  | zero =>
    intro k i acc hi hd hk ha
    obtain ⟨k, rfl⟩ : ∃ j, k = j + 1 := ⟨k - 1, by omega⟩
    rw [winnowlaw04_Own.l0, if_neg (by omega), List.drop_eq_nil_of_le (by omega)]
    simp
  | succ d ih =>
    intro k i acc hi hd hk ha
    obtain ⟨k, rfl⟩ : ∃ j, k = j + 1 := ⟨k - 1, by omega⟩
    have hlt : i < rs.length := by omega
    rw [winnowlaw04_Own.l0, if_pos (by omega), if_pos (by omega), if_pos (by omega), w64s (by omega), rdR rs i hlt, ih k (i + 1) _ (by omega) (by omega) (by omega) (by simp; omega), List.drop_eq_getElem_cons hlt, List.map_cons, List.append_assoc]
    rfl
theorem own_tells (rs : List S37) (hr : rs.length ≤ 100) {k : Nat} (hk : 200 ≤ k) : winnowlaw04_Own.f k rs = some (rs.map ownR) := by
  have h := own_l0 rs hr rs.length k 0 [] (by omega) (by omega) (by omega) (by simp)
  rw [List.drop_zero, List.nil_append] at h
  exact h
/-! ### what Holds tells of more -/
abbrev Spans := List S39
theorem holds_sub (MB : ByteArray → ByteArray → Bool) (r : S46) (l m : Spans) (hs : ∀ x ∈ l, x ∈ m) (hlen : l.length ≤ m.length) (h : holdsB MB r l = true) : holdsB MB r m = true := by
  unfold holdsB at h ⊢
  by_cases c1 : rightB r.f1 r.f2 r.f3 = true
  · rw [if_pos c1] at h ⊢
    by_cases c2 : l.length = 0
    · rw [if_pos c2] at h; cases h
    · rw [if_neg c2] at h
      rw [if_neg (by omega)]
      by_cases c3 : r.f1.toList = [109, 97, 110, 121]
      · rw [if_pos c3] at h ⊢
        exact decide_eq_true (by have := of_decide_eq_true h; omega)
      · rw [if_neg c3] at h ⊢
        obtain ⟨x, hx, hp⟩ := List.any_eq_true.1 h
        exact List.any_eq_true.2 ⟨x, hs x hx, hp⟩
  · rw [if_neg c1] at h; cases h
theorem holds_same (MB : ByteArray → ByteArray → Bool) (r : S46) (l m : Spans) (hs : ∀ x, x ∈ l ↔ x ∈ m) (hlen : l.length = m.length) : holdsB MB r l = holdsB MB r m := by
  rw [Bool.eq_iff_iff]
  exact ⟨holds_sub MB r l m (fun x => (hs x).1) (by omega), holds_sub MB r m l (fun x => (hs x).2) (by omega)⟩
theorem holds_often (MB : ByteArray → ByteArray → Bool) (r : S46) (hm : ¬ r.f1.toList = [109, 97, 110, 121]) (l m : Spans) (hs : ∀ x, x ∈ l ↔ x ∈ m) : holdsB MB r l = holdsB MB r m := by
  have key : ∀ l m : Spans, (∀ x, x ∈ l → x ∈ m) → holdsB MB r l = true → holdsB MB r m = true := by
    intro l m hs h
    unfold holdsB at h ⊢
    by_cases c1 : rightB r.f1 r.f2 r.f3 = true
    · rw [if_pos c1] at h ⊢
      by_cases c2 : l.length = 0
      · rw [if_pos c2] at h; cases h
      · rw [if_neg c2, if_neg hm] at h
        obtain ⟨x, hx, hp⟩ := List.any_eq_true.1 h
        rw [if_neg (by have := List.length_pos_of_mem (hs x hx); omega), if_neg hm]
        exact List.any_eq_true.2 ⟨x, hs x hx, hp⟩
    · rw [if_neg c1] at h; cases h
  rw [Bool.eq_iff_iff]
  exact ⟨key l m (fun x => (hs x).1), key m l (fun x => (hs x).2)⟩
theorem find_congr {α : Type} (p q : α → Bool) : ∀ l : List α, (∀ x ∈ l, p x = q x) → l.find? p = l.find? q
  | [], _ => rfl
  | a :: l, h => by
    rw [List.find?_cons, List.find?_cons, h a (by simp), find_congr p q l (fun x hx => h x (by simp [hx]))]
theorem eval_same (MB : ByteArray → ByteArray → Bool) (rs : List S46) (l m : Spans) (h0 : l.length = 0 ↔ m.length = 0) (h : ∀ r ∈ rs, holdsB MB r l = holdsB MB r m) : evalB MB rs l = evalB MB rs m := by
  unfold evalB
  by_cases c : l.length = 0
  · rw [if_pos c, if_pos (h0.1 c)]
  · rw [if_neg c, if_neg (fun e => c (h0.2 e)), find_congr _ _ rs h]
theorem swap_mem {α : Type} (l : List α) (a b : Nat) (ha : a < l.length) (hb : b < l.length) (x : α) : x ∈ l ↔ x ∈ (l.set a l[b]).set b l[a] := by
  constructor
  · intro h
    obtain ⟨i, hi, rfl⟩ := List.mem_iff_getElem.1 h
    rw [List.mem_iff_getElem]
    by_cases h1 : i = b
    · by_cases h2 : a = b
      · refine ⟨b, by simpa using hb, ?_⟩
        rw [List.getElem_set_self]
        subst h2; subst h1; rfl
      · refine ⟨a, by simpa using ha, ?_⟩
        rw [List.getElem_set_ne (by omega), List.getElem_set_self]
        subst h1; rfl
    · by_cases h2 : i = a
      · refine ⟨b, by simpa using hb, ?_⟩
        rw [List.getElem_set_self]
        subst h2; rfl
      · refine ⟨i, by simpa using hi, ?_⟩
        rw [List.getElem_set_ne (by omega), List.getElem_set_ne (by omega)]
  · intro h
    obtain ⟨i, hi, rfl⟩ := List.mem_iff_getElem.1 h
    by_cases h1 : i = b
    · subst h1
      rw [List.getElem_set_self]
      exact List.getElem_mem _
    · rw [List.getElem_set_ne (by omega)]
      by_cases h2 : i = a
      · subst h2
        rw [List.getElem_set_self]
        exact List.getElem_mem _
      · rw [List.getElem_set_ne (by omega)]
        exact List.getElem_mem _
theorem short_of {l : Spans} (h : ∀ x ∈ l, x.f6.size ≤ 200) : shortB l = true := by
  unfold shortB
  rw [List.all_eq_true]
  exact fun x hx => decide_eq_true (by have := h x hx; omega)
theorem short_app {l m : Spans} (h : shortB l = true) (h2 : shortB m = true) : shortB (l ++ m) = true := by
  unfold shortB at *
  rw [List.all_append, h, h2]
  rfl
theorem short_mem {l m : Spans} (h : shortB l = true) (hs : ∀ x ∈ m, x ∈ l) : shortB m = true := by
  unfold shortB at *
  rw [List.all_eq_true] at *
  exact fun x hx => h x (hs x hx)
end Go.Proofs.YtemepnpfhoidhaaGreatDoor.PAll
