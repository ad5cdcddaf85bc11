/-
  The plain laws: PolicyMore and PolicyOrder compute true.
  Conditions: none.
-/
import Derived.Test.YtemepnpfhoidhaaDoorPolicyHandN
import Derived.Test.YtemepnpfhoidhaaDoorPolicyRunes
import Derived.Test.YtemepnpfhoidhaaDoorPAllx2
import Derived.Test.YtemepnpfhoidhaaDoorPAllx4
import Derived.Test.YtemepnpfhoidhaaDoorPAllx1
import Derived.Test.YtemepnpfhoidhaaDoorPAllx3
import Derived.Test.YtemepnpfhoidhaaDoorPAllx5m
import Derived.Test.YtemepnpfhoidhaaDoorPAllx7m
namespace Go.Proofs.YtemepnpfhoidhaaDoor.PAll
open Go.RowKit Go.Lib Go.Sort Go.Proofs.YtemepnpfhoidhaaDoorW.PrintWords Go.Proofs.YtemepnpfhoidhaaDoorW.PrintLast Go.Proofs.YtemepnpfhoidhaaDoorW.PrintMore
set_option linter.unusedVariables false
set_option linter.unusedSimpArgs false
theorem w64s {i : Nat} (h : i ≤ 1000000) : wrap64 ((i : Int) + 1) = ((i + 1 : Nat) : Int) := by unfold wrap64; omega
theorem rdS (l : List S44) (i : Nat) (h : i < l.length) : rd_T44 l (i : Int) = l[i] := by
  unfold rd_T44
  rw [Int.toNat_natCast, List.getD_eq_getElem?_getD, List.getElem?_eq_getElem h]
  rfl
theorem rdR (l : List S39) (i : Nat) (h : i < l.length) : rd_T39 l (i : Int) = l[i] := by
  unfold rd_T39
  rw [Int.toNat_natCast, List.getD_eq_getElem?_getD, List.getElem?_eq_getElem h]
  rfl
theorem light_l1 (l : List S44) (hl : l.length ≤ 100) (d : Nat) : ∀ (k i : Nat), i ≤ l.length → l.length - i = d → d < k → ∃ b, winnowlaw04_Light.l1 k l (i : Int) = some b ∧ (b = true → ∀ x ∈ l.drop i, x.f6.size ≤ 200) := by
  induction d with
  | zero =>
    intro k i hi hd hk
    obtain ⟨k, rfl⟩ : ∃ j, k = j + 1 := ⟨k - 1, by omega⟩
    refine ⟨true, ?_, fun _ => ?_⟩
    · rw [winnowlaw04_Light.l1, if_neg (by omega)]
    · rw [List.drop_eq_nil_of_le (by omega)]
      intro x hx
      cases hx
  | succ d ih =>
    intro k i hi hd hk
    obtain ⟨k, rfl⟩ : ∃ j, k = j + 1 := ⟨k - 1, by omega⟩
    have hlt : i < l.length := by omega
    rw [winnowlaw04_Light.l1, if_pos (by omega), if_pos (by omega), w64s (by omega), rdS l i hlt]
    by_cases c1 : ((l[i].f6).size : Int) > 200
    · exact ⟨false, by rw [if_pos c1], fun h => by cases h⟩
    by_cases c2 : ((l[i].f5).size : Int) > 200
    · exact ⟨false, by rw [if_neg c1, if_pos c2], fun h => by cases h⟩
    obtain ⟨b, hb, hx⟩ := ih k (i + 1) (by omega) (by omega) (by omega)
    refine ⟨b, by rw [if_neg c1, if_neg c2]; exact hb, fun h x hm => ?_⟩
    rw [List.drop_eq_getElem_cons hlt] at hm
    rcases List.mem_cons.1 hm with rfl | hm
    · omega
    · exact hx h x hm
theorem light_l0 (rs : List S39) (hr : rs.length ≤ 100) (l : List S44) (hl : l.length ≤ 100) (d : Nat) : ∀ (k i : Nat), i ≤ rs.length → rs.length - i = d → d + 200 < k → ∃ b, winnowlaw04_Light.l0 k rs l (i : Int) = some b ∧ (b = true → ∀ x ∈ l, x.f6.size ≤ 200) := by
  induction d with
  | zero =>
    intro k i hi hd hk
    obtain ⟨k, rfl⟩ : ∃ j, k = j + 1 := ⟨k - 1, by omega⟩
    rw [winnowlaw04_Light.l0, if_neg (by omega)]
    obtain ⟨b, hb, hx⟩ := light_l1 l hl l.length k 0 (by omega) (by omega) (by omega)
    exact ⟨b, hb, fun h => by have := hx h; rwa [List.drop_zero] at this⟩
  | succ d ih =>
    intro k i hi hd hk
    obtain ⟨k, rfl⟩ : ∃ j, k = j + 1 := ⟨k - 1, by omega⟩
    have hlt : i < rs.length := by omega
    rw [winnowlaw04_Light.l0, if_pos (by omega), if_pos (by omega), w64s (by omega), rdR rs i hlt]
    by_cases c1 : ((rs[i].f3).size : Int) > 200
    · exact ⟨false, by rw [if_pos c1], fun h => by cases h⟩
    by_cases c2 : ((rs[i].f1).size : Int) > 200
    · exact ⟨false, by rw [if_neg c1, if_pos c2], fun h => by cases h⟩
    obtain ⟨b, hb, hx⟩ := ih k (i + 1) (by omega) (by omega) (by omega)
    exact ⟨b, by rw [if_neg c1, if_neg c2]; exact hb, hx⟩
/-- What Light tells. -/
theorem light_tells (rs : List S39) (l : List S44) : ∃ b, winnowlaw04_Light.f 1000 rs l = some b ∧ (b = true → rs.length ≤ 100 ∧ l.length ≤ 100 ∧ ∀ x ∈ l, x.f6.size ≤ 200) := by
  unfold winnowlaw04_Light.f
  by_cases h1 : (rs.length : Int) > 100
  · exact ⟨false, by rw [if_pos h1, winnowlaw04_Light.j0, if_pos rfl], fun h => by cases h⟩
  by_cases h2 : (l.length : Int) > 100
  · exact ⟨false, by rw [if_neg h1, decide_eq_true h2, winnowlaw04_Light.j0, if_pos rfl], fun h => by cases h⟩
  obtain ⟨b, hb, hx⟩ := light_l0 rs (by omega) l (by omega) rs.length 999 0 (by omega) (by omega) (by omega)
  refine ⟨b, ?_, fun h => ⟨by omega, by omega, hx h⟩⟩
  rw [if_neg h1, decide_eq_false h2, winnowlaw04_Light.j0, if_neg (by decide)]
  exact hb
theorem name_some (s : ByteArray) {k : Nat} (hk : 100 ≤ k) : ∃ r, winnowref03_Name.f k s = some r := ⟨_, name_eq s hk⟩
theorem right03_some (a0 a1 a2 a3 a4 : Int) (a5 a6 : ByteArray) (a7 : Bool) {k : Nat} (hk : 102 ≤ k) : ∃ r, winnowref03_Right.f k a0 a1 a2 a3 a4 a5 a6 a7 = some r := by
  obtain ⟨k, rfl⟩ : ∃ j, k = j + 1 := ⟨k - 1, by omega⟩
  obtain ⟨r5, h5⟩ := name_some a5 (k := k) (by omega)
  obtain ⟨r6, h6⟩ := name_some a6 (k := k) (by omega)
  have hj : ∀ b, ∃ r, winnowref03_Right.j0 (k + 1) b a0 a1 a2 a3 a4 a5 a6 a7 = some r := by
    intro b
    rw [winnowref03_Right.j0, h5, h6]
    simp only [Option.bind_some]
    repeat' split
    all_goals exact ⟨_, rfl⟩
  unfold winnowref03_Right.f
  repeat' split
  all_goals exact hj _
theorem right_l0 (l : List S44) (hl : l.length ≤ 100) (d : Nat) : ∀ (k i : Nat), i ≤ l.length → l.length - i = d → d + 200 < k → ∃ b, winnowlaw04_right.l0 k l (i : Int) = some b := by
  induction d with
  | zero =>
    intro k i hi hd hk
    obtain ⟨k, rfl⟩ : ∃ j, k = j + 1 := ⟨k - 1, by omega⟩
    rw [winnowlaw04_right.l0, if_neg (by omega)]
    exact ⟨_, rfl⟩
  | succ d ih =>
    intro k i hi hd hk
    obtain ⟨k, rfl⟩ : ∃ j, k = j + 1 := ⟨k - 1, by omega⟩
    have hlt : i < l.length := by omega
    obtain ⟨r, hr⟩ := right03_some (rd_T44 l (i : Int)).f0 (rd_T44 l (i : Int)).f1 (rd_T44 l (i : Int)).f2 (rd_T44 l (i : Int)).f3 (rd_T44 l (i : Int)).f4 (rd_T44 l (i : Int)).f5 (rd_T44 l (i : Int)).f6 (rd_T44 l (i : Int)).f7 (k := k) (by omega)
    rw [winnowlaw04_right.l0, if_pos (by omega), if_pos (by omega), w64s (by omega), hr]
    simp only [Option.bind_some]
    split
    · exact ih k (i + 1) (by omega) (by omega) (by omega)
    · exact ⟨_, rfl⟩
theorem right_tells (l : List S44) (hl : l.length ≤ 100) : ∃ b, winnowlaw04_right.f 1000 l = some b := right_l0 l hl l.length 1000 0 (by omega) (by omega) (by omega)
def ownR (r : S39) : S37 := ⟨r.f0, r.f1, r.f2, r.f3⟩
theorem own_l0 (rs : List S39) (hr : rs.length ≤ 100) (d : Nat) : ∀ (k i : Nat) (acc : List S37), i ≤ rs.length → rs.length - i = d → d < k → acc.length ≤ i → winnowlaw04_Own.l0 k rs acc (i : Int) = some (acc ++ (rs.drop i).map ownR) := by
  induction d with
  | zero =>
    intro k i acc hi hd hk ha
    obtain ⟨k, rfl⟩ : ∃ j, k = j + 1 := ⟨k - 1, by omega⟩
    rw [winnowlaw04_Own.l0, if_neg (by omega), List.drop_eq_nil_of_le (by omega)]
    simp
  | succ d ih =>
    intro k i acc hi hd hk ha
    obtain ⟨k, rfl⟩ : ∃ j, k = j + 1 := ⟨k - 1, by omega⟩
    have hlt : i < rs.length := by omega
    rw [winnowlaw04_Own.l0, if_pos (by omega), if_pos (by omega), if_pos (by omega), w64s (by omega), rdR rs i hlt, ih k (i + 1) _ (by omega) (by omega) (by omega) (by simp; omega), List.drop_eq_getElem_cons hlt, List.map_cons, List.append_assoc]
    rfl
theorem own_tells (rs : List S39) (hr : rs.length ≤ 100) {k : Nat} (hk : 200 ≤ k) : winnowlaw04_Own.f k rs = some (rs.map ownR) := by
  have h := own_l0 rs hr rs.length k 0 [] (by omega) (by omega) (by omega) (by simp)
  rw [List.drop_zero, List.nil_append] at h
  exact h
/-! ### what Holds tells of more -/
abbrev Spans := List S44
theorem holds_sub (MB : ByteArray → ByteArray → Bool) (r : S37) (l m : Spans) (hs : ∀ x ∈ l, x ∈ m) (hlen : l.length ≤ m.length) (h : holdsB MB r l = true) : holdsB MB r m = true := by
  unfold holdsB at h ⊢
  by_cases c1 : rightB r.f1 r.f2 r.f3 = true
  · rw [if_pos c1] at h ⊢
    by_cases c2 : l.length = 0
    · rw [if_pos c2] at h; cases h
    · rw [if_neg c2] at h
      rw [if_neg (by omega)]
      by_cases c3 : r.f1.toList = [109, 97, 110, 121]
      · rw [if_pos c3] at h ⊢
        exact decide_eq_true (by have := of_decide_eq_true h; omega)
      · rw [if_neg c3] at h ⊢
        obtain ⟨x, hx, hp⟩ := List.any_eq_true.1 h
        exact List.any_eq_true.2 ⟨x, hs x hx, hp⟩
  · rw [if_neg c1] at h; cases h
theorem holds_same (MB : ByteArray → ByteArray → Bool) (r : S37) (l m : Spans) (hs : ∀ x, x ∈ l ↔ x ∈ m) (hlen : l.length = m.length) : holdsB MB r l = holdsB MB r m := by
  rw [Bool.eq_iff_iff]
  exact ⟨holds_sub MB r l m (fun x => (hs x).1) (by omega), holds_sub MB r m l (fun x => (hs x).2) (by omega)⟩
theorem holds_often (MB : ByteArray → ByteArray → Bool) (r : S37) (hm : ¬ r.f1.toList = [109, 97, 110, 121]) (l m : Spans) (hs : ∀ x, x ∈ l ↔ x ∈ m) : holdsB MB r l = holdsB MB r m := by
  have key : ∀ l m : Spans, (∀ x, x ∈ l → x ∈ m) → holdsB MB r l = true → holdsB MB r m = true := by
    intro l m hs h
    unfold holdsB at h ⊢
    by_cases c1 : rightB r.f1 r.f2 r.f3 = true
    · rw [if_pos c1] at h ⊢
      by_cases c2 : l.length = 0
      · rw [if_pos c2] at h; cases h
      · rw [if_neg c2, if_neg hm] at h
        obtain ⟨x, hx, hp⟩ := List.any_eq_true.1 h
        rw [if_neg (by have := List.length_pos_of_mem (hs x hx); omega), if_neg hm]
        exact List.any_eq_true.2 ⟨x, hs x hx, hp⟩
    · rw [if_neg c1] at h; cases h
  rw [Bool.eq_iff_iff]
  exact ⟨key l m (fun x => (hs x).1), key m l (fun x => (hs x).2)⟩
theorem find_congr {α : Type} (p q : α → Bool) : ∀ l : List α, (∀ x ∈ l, p x = q x) → l.find? p = l.find? q
  | [], _ => rfl
  | a :: l, h => by
    rw [List.find?_cons, List.find?_cons, h a (by simp), find_congr p q l (fun x hx => h x (by simp [hx]))]
theorem eval_same (MB : ByteArray → ByteArray → Bool) (rs : List S37) (l m : Spans) (h0 : l.length = 0 ↔ m.length = 0) (h : ∀ r ∈ rs, holdsB MB r l = holdsB MB r m) : evalB MB rs l = evalB MB rs m := by
  unfold evalB
  by_cases c : l.length = 0
  · rw [if_pos c, if_pos (h0.1 c)]
  · rw [if_neg c, if_neg (fun e => c (h0.2 e)), find_congr _ _ rs h]
theorem swap_mem {α : Type} (l : List α) (a b : Nat) (ha : a < l.length) (hb : b < l.length) (x : α) : x ∈ l ↔ x ∈ (l.set a l[b]).set b l[a] := by
  constructor
  · intro h
    obtain ⟨i, hi, rfl⟩ := List.mem_iff_getElem.1 h
    rw [List.mem_iff_getElem]
    by_cases h1 : i = b
    · by_cases h2 : a = b
      · refine ⟨b, by simpa using hb, ?_⟩
        rw [List.getElem_set_self]
        subst h2; subst h1; rfl
      · refine ⟨a, by simpa using ha, ?_⟩
        rw [List.getElem_set_ne (by omega), List.getElem_set_self]
        subst h1; rfl
    · by_cases h2 : i = a
      · refine ⟨b, by simpa using hb, ?_⟩
        rw [List.getElem_set_self]
        subst h2; rfl
      · refine ⟨i, by simpa using hi, ?_⟩
        rw [List.getElem_set_ne (by omega), List.getElem_set_ne (by omega)]
  · intro h
    obtain ⟨i, hi, rfl⟩ := List.mem_iff_getElem.1 h
    by_cases h1 : i = b
    · subst h1
      rw [List.getElem_set_self]
      exact List.getElem_mem _
    · rw [List.getElem_set_ne (by omega)]
      by_cases h2 : i = a
      · subst h2
        rw [List.getElem_set_self]
        exact List.getElem_mem _
      · rw [List.getElem_set_ne (by omega)]
        exact List.getElem_mem _
theorem short_of {l : Spans} (h : ∀ x ∈ l, x.f6.size ≤ 200) : shortB l = true := by
  unfold shortB
  rw [List.all_eq_true]
  exact fun x hx => decide_eq_true (by have := h x hx; omega)
theorem short_app {l m : Spans} (h : shortB l = true) (h2 : shortB m = true) : shortB (l ++ m) = true := by
  unfold shortB at *
  rw [List.all_append, h, h2]
  rfl
theorem short_mem {l m : Spans} (h : shortB l = true) (hs : ∀ x ∈ m, x ∈ l) : shortB m = true := by
  unfold shortB at *
  rw [List.all_eq_true] at *
  exact fun x hx => h x (hs x hx)
end Go.Proofs.YtemepnpfhoidhaaDoor.PAll

namespace Go.Proofs.YtemepnpfhoidhaaDoor.PAll
open Go.RowKit Go.Lib Go.Sort Go.Proofs.YtemepnpfhoidhaaDoorW.PrintWords Go.Proofs.YtemepnpfhoidhaaDoorW.PrintLast Go.Proofs.YtemepnpfhoidhaaDoorW.PrintMore
open MatchCore
set_option linter.unusedVariables false
set_option linter.unusedSimpArgs false
/-- A row of the table: right from u on, false below. -/
def midL (ps ss : List Int) (i u : Nat) : List Bool := (List.range (ss.length + 1)).map (fun k => if u ≤ k then M (ps.drop i) (ss.drop k) else false)
theorem mid_len (ps ss : List Int) (i u : Nat) : (midL ps ss i u).length = ss.length + 1 := by simp [midL]
theorem mid_get (ps ss : List Int) (i u k : Nat) (hk : k ≤ ss.length) (hu : u ≤ k) : rdOf false (midL ps ss i u) (k : Int) = M (ps.drop i) (ss.drop k) := by
  unfold rdOf midL
  rw [Int.toNat_natCast, List.getD_eq_getElem?_getD, List.getElem?_map, List.getElem?_range (by omega)]
  simp [hu]
theorem mid_set (ps ss : List Int) (i u : Nat) (b : Bool) (hb : M (ps.drop i) (ss.drop u) = b) : (midL ps ss i (u + 1)).set u b = midL ps ss i u := by
  subst hb
  apply List.ext_getElem
  · simp [midL]
  intro j h1 h2
  have hj : j < ss.length + 1 := by simpa [midL] using h2
  rw [List.getElem_set]
  simp only [midL, List.getElem_map, List.getElem_range]
  by_cases e : u = j
  · subst e
    simp
  · rw [if_neg e]
    by_cases h : u ≤ j
    · rw [if_pos h, if_pos (by omega)]
    · rw [if_neg h, if_neg (by omega)]
theorem mid_skip (ps ss : List Int) (i u : Nat) (hb : M (ps.drop i) (ss.drop u) = false) : midL ps ss i (u + 1) = midL ps ss i u := by
  apply List.ext_getElem
  · simp [midL]
  intro j h1 h2
  simp only [midL, List.getElem_map, List.getElem_range]
  by_cases h : u ≤ j
  · by_cases e : u = j
    · subst e
      rw [if_neg (by omega), if_pos h, hb]
    · rw [if_pos h, if_pos (by omega)]
  · rw [if_neg h, if_neg (by omega)]
theorem mid_new (ps ss : List Int) (i : Nat) : List.replicate (ss.length + 1) false = midL ps ss i (ss.length + 1) := by
  apply List.ext_getElem
  · simp [midL]
  intro j h1 h2
  have hj : j < ss.length + 1 := by simpa [midL] using h2
  simp only [midL, List.getElem_map, List.getElem_range, List.getElem_replicate]
  rw [if_neg (by omega)]
theorem drop_cons {xs : List Int} {i : Nat} (h : i < xs.length) : xs.drop i = xs[i] :: xs.drop (i + 1) := (List.getElem_cons_drop h).symm
theorem w64a {i : Nat} (h : i ≤ 1000000) : wrap64 ((i : Int) + 1) = ((i + 1 : Nat) : Int) := by unfold wrap64; omega
theorem w64b {i : Nat} (h : i ≤ 1000000) : wrap64 ((i : Int) - 1) = (i : Int) - 1 := by unfold wrap64; omega
theorem star_here (q s : List Int) (h : M q s = true) : M (42 :: q) s = true := (M_star_iff _ _).2 ⟨0, by simp, by simpa using h⟩
theorem star_nil (q : List Int) (h : M q [] = false) : M (42 :: q) [] = false := by rw [M_star]; exact h
theorem star_cons (q : List Int) (d : Int) (t : List Int) (h : M q (d :: t) = false) : M (42 :: q) (d :: t) = M (42 :: q) t := by rw [M_star, anySuf, h, Bool.false_or]; rfl
theorem rd_at {xs : List Int} {i : Nat} (h : i < xs.length) : rd xs (i : Int) = xs[i] := by
  unfold rd
  rw [Int.toNat_natCast, List.getD_eq_getElem?_getD, List.getElem?_eq_getElem h]
  rfl
theorem table_l1 (ps ss : List Int) (hn : ss.length ≤ 1000) (i : Nat) (hi : i < ps.length) (hp : ps.length ≤ 1000) : ∀ (u k : Nat), u ≤ ss.length + 1 → winnowref04_match.l1 (k + u + 1) ps ss (midL ps ss (i + 1) 0) (i : Int) (midL ps ss i u) ((u : Int) - 1) = winnowref04_match.l0 k ps ss (midL ps ss i 0) ((i : Int) - 1) := by
  intro u
  induction u with
  | zero =>
    intro k _
    rw [winnowref04_match.l1, if_neg (by omega), w64b (by omega)]
  | succ u ih =>
    intro k hu
    have e8 : ((u + 1 : Nat) : Int) - 1 = (u : Int) := by omega
    have hdi := drop_cons hi
    rw [e8, winnowref04_match.l1, if_pos (by omega), if_pos (by omega), if_pos (by omega), rd_at hi, show k + (u + 1) = k + u + 1 by omega, w64b (show u ≤ 1000000 by omega)]
    have hl1 := mid_len ps ss (i + 1) 0
    have hl2 := mid_len ps ss i (u + 1)
    have h0 := mid_get ps ss (i + 1) 0 u (by omega) (by omega)
    by_cases h42 : ps[i] = 42
    · rw [if_pos h42, if_pos (by omega), if_pos (by omega)]
      rw [h42] at hdi
      by_cases hm : M (ps.drop (i + 1)) (ss.drop u) = true
      · rw [h0, if_pos hm, if_pos (by omega), Int.toNat_natCast, mid_set ps ss i u true (by rw [hdi]; exact star_here _ _ hm), ih k (by omega)]
      · have hm' : M (ps.drop (i + 1)) (ss.drop u) = false := by simpa using hm
        rw [h0, if_neg hm]
        by_cases hlt : u < ss.length
        · have hds := drop_cons hlt
          rw [if_pos (by omega), w64a (by omega), if_pos (by omega), if_pos (by omega), if_pos (by omega), mid_get ps ss i (u + 1) (u + 1) (by omega) (Nat.le_refl _), Int.toNat_natCast, mid_set ps ss i u _ ?_, ih k (by omega)]
          rw [hdi, hds]
          rw [hds] at hm'
          exact star_cons _ _ _ hm'
        · have hu2 : ss.drop u = [] := List.drop_eq_nil_of_le (by omega)
          rw [if_neg (by omega), if_pos (by omega), Int.toNat_natCast, mid_set ps ss i u false (by rw [hdi, hu2]; rw [hu2] at hm'; exact star_nil _ hm'), ih k (by omega)]
    · rw [if_neg h42]
      by_cases hlt : u < ss.length
      · have hds := drop_cons hlt
        have h1 := mid_get ps ss (i + 1) 0 (u + 1) (by omega) (by omega)
        have hM : M (ps.drop i) (ss.drop u) = ((decide (ps[i] = 63) || decide (ps[i] = ss[u])) && M (ps.drop (i + 1)) (ss.drop (u + 1))) := by rw [hdi, hds]; exact M_plain_cons _ _ _ h42
        rw [if_pos (by omega), w64a (by omega), rd_at hlt]
        by_cases h63 : ps[i] = 63
        · rw [if_pos h63, if_pos (by omega), if_pos (by omega), if_pos (by omega), if_pos (by omega), h1, Int.toNat_natCast, mid_set ps ss i u _ ?_, ih k (by omega)]
          rw [hM, decide_eq_true h63]
          rfl
        · rw [if_neg h63, if_pos (by omega)]
          by_cases he : ps[i] = ss[u]
          · rw [if_pos he, if_pos (by omega), if_pos (by omega), if_pos (by omega), h1, Int.toNat_natCast, mid_set ps ss i u _ ?_, ih k (by omega)]
            rw [hM, decide_eq_true he, Bool.or_true, Bool.true_and]
          · rw [if_neg he, mid_skip ps ss i u ?_, ih k (by omega)]
            rw [hM, decide_eq_false h63, decide_eq_false he]
            rfl
      · have hu2 : ss.drop u = [] := List.drop_eq_nil_of_le (by omega)
        rw [if_neg (by omega), mid_skip ps ss i u (by rw [hdi, hu2]; exact M_plain_nil _ h42), ih k (by omega)]
theorem table_l0 (ps ss : List Int) (hn : ss.length ≤ 1000) (hp : ps.length ≤ 1000) : ∀ (i k : Nat), i ≤ ps.length → winnowref04_match.l0 (k + i * (ss.length + 4) + 1) ps ss (midL ps ss i 0) ((i : Int) - 1) = some (M ps ss) := by
  intro i
  induction i with
  | zero =>
    intro k _
    have hl := mid_len ps ss 0 0
    have h0 := mid_get ps ss 0 0 0 (Nat.zero_le _) (Nat.le_refl _)
    rw [winnowref04_match.l0, if_neg (by omega), if_pos (by omega)]
    rw [List.drop_zero, List.drop_zero] at h0
    exact congrArg some h0
  | succ i ih =>
    intro k hi
    have e6 : ((i + 1 : Nat) : Int) - 1 = (i : Int) := by omega
    have hK : k + (i + 1) * (ss.length + 4) = (k + 1 + i * (ss.length + 4) + 1) + (ss.length + 1) + 1 := by rw [Nat.succ_mul]; omega
    have e8 : ((ss.length : Nat) : Int) = ((ss.length + 1 : Nat) : Int) - 1 := by omega
    rw [e6, winnowref04_match.l0, if_pos (by omega), w64a (by omega), if_pos (by omega), Int.toNat_natCast, if_pos (by omega), mid_new ps ss i, hK]
    have h := table_l1 ps ss hn i (by omega) hp (ss.length + 1) (k + 1 + i * (ss.length + 4) + 1) (Nat.le_refl _)
    rw [← e8] at h
    rw [h]
    exact ih (k + 1) (by omega)
theorem table_eq (ps ss : List Int) (hn : ss.length ≤ 1000) (hp : ps.length ≤ 1000) (k : Nat) : winnowref04_match.f (k + ps.length * (ss.length + 4) + 1) ps ss = some (M ps ss) := by
  have h0 : (List.replicate (ss.length + 1) false).set ss.length true = midL ps ss ps.length 0 := by
    apply List.ext_getElem
    · simp [midL]
    intro j h1 h2
    have hj : j < ss.length + 1 := by simpa [midL] using h2
    rw [List.getElem_set]
    simp only [midL, List.getElem_map, List.getElem_range, List.getElem_replicate, List.drop_length, M_nil]
    by_cases e : ss.length = j
    · subst e
      simp
    · rw [if_neg e, if_pos (Nat.zero_le _)]
      cases hd : ss.drop j with
      | nil => have := List.drop_eq_nil_iff.1 hd; omega
      | cons x y => rfl
  unfold winnowref04_match.f
  rw [w64a (by omega), if_pos (by omega), Int.toNat_natCast, if_pos (by omega)]
  simp only [Option.bind_some]
  rw [if_pos (by omega), if_pos (by rw [List.length_replicate]; omega), Int.toNat_natCast, w64b (by omega), h0]
  exact table_l0 ps ss hn hp ps.length k (Nat.le_refl _)
end Go.Proofs.YtemepnpfhoidhaaDoor.PAll

namespace Go.Proofs.YtemepnpfhoidhaaDoor.PAll
open Go.RowKit Go.Lib Go.Sort Go.Proofs.YtemepnpfhoidhaaDoorW.PrintWords Go.Proofs.YtemepnpfhoidhaaDoorW.PrintLast Go.Proofs.YtemepnpfhoidhaaDoorW.PrintMore
open MatchCore
set_option linter.unusedVariables false
set_option linter.unusedSimpArgs false
theorem ref_runes {s : ByteArray} {rs : List Int} (hs : s.size ≤ 1000) (h : scan s s.size 0 = some rs) {k : Nat} (hk : 2000 ≤ k) : winnowref03_Runes.f k s = some (rs, true) := by
  have hr := runes_tells s (by omega) s.size k 0 [] (by omega) (by omega) (by omega) (by simp)
  have hx : s.extract 0 s.size = s := ByteArray.extract_zero_size
  rw [hx, h] at hr
  unfold winnowref03_Runes.f
  rw [hr]
  rfl
theorem match_f_of {k : Nat} {p n : ByteArray} {rp rn : List Int} {b : Bool} (h1 : winnowref03_Runes.f k p = some (rp, true)) (h2 : winnowref03_Runes.f k n = some (rn, true)) (h3 : winnowref04_match.f k rp rn = some b) : winnowref04_Match.f k p n = some b := by
  unfold winnowref04_Match.f
  rw [h1, Option.bind_some, h2, Option.bind_some, if_pos rfl, if_pos rfl, h3, Option.bind_some]
/-- The document's Match of names is the program's. -/
theorem ref_match {p n : ByteArray} (hp : span_Name.f p = some 0) (hn : span_Name.f n = some 0) {k : Nat} (hk : 2000 ≤ k) : winnowref04_Match.f k p n = some (matchB p n) := by
  obtain ⟨rp, hRp, h1, h2, hs⟩ := name_rs hp
  obtain ⟨rn, hRn, g1, g2, gs⟩ := name_rs hn
  have lp := scan_len p _ _ rp hs
  have ln := scan_len n _ _ rn gs
  have hm : rp.length * (rn.length + 4) ≤ 32 * 36 := Nat.mul_le_mul (by omega) (by omega)
  obtain ⟨j, hj⟩ : ∃ j, k = j + rp.length * (rn.length + 4) + 1 := ⟨k - (rp.length * (rn.length + 4) + 1), by omega⟩
  have ht := table_eq rp rn (by omega) (by omega) j
  rw [← hj] at ht
  rw [match_rs hRp hRn]
  exact match_f_of (ref_runes (by omega) hs hk) (ref_runes (by omega) gs hk) ht
theorem up {α : Type} {f : Nat → Option α} (hm : ∀ k, LeO (f k) (f (k + 1))) {r : α} {a b : Nat} (h : f a = some r) (hab : a ≤ b) : f b = some r := by
  induction hab with
  | refl => exact h
  | step _ ih => exact hm _ _ ih
/-! ### right spans -/
theorem right03_ok (a0 a1 a2 a3 a4 : Int) (a5 a6 : ByteArray) (a7 : Bool) {k : Nat} (hk : 102 ≤ k) (h : winnowref03_Right.f k a0 a1 a2 a3 a4 a5 a6 a7 = some 0) : span_Name.f a6 = some 0 := by
  obtain ⟨k, rfl⟩ : ∃ j, k = j + 1 := ⟨k - 1, by omega⟩
  obtain ⟨t5, e5⟩ : ∃ t, span_Name.f a5 = some t := ⟨_, rfl⟩
  obtain ⟨t6, e6⟩ : ∃ t, span_Name.f a6 = some t := ⟨_, rfl⟩
  have hj : ∀ b, winnowref03_Right.j0 (k + 1) b a0 a1 a2 a3 a4 a5 a6 a7 = some 0 → span_Name.f a6 = some 0 := by
    intro b hb
    rw [winnowref03_Right.j0, name_eq a5 (by omega), name_eq a6 (by omega), e5, e6] at hb
    simp only [Option.bind_some] at hb
    rw [e6]
    by_cases c0 : b = true
    · rw [if_pos c0] at hb; cases hb
    rw [if_neg c0] at hb
    by_cases c1 : t5 = 0
    · rw [if_pos c1] at hb
      by_cases c2 : t6 = 0
      · rw [c2]
      · rw [if_neg c2] at hb; cases hb
    · rw [if_neg c1] at hb; cases hb
  unfold winnowref03_Right.f at h
  by_cases d0 : a0 = 0
  · rw [if_pos d0] at h; exact hj _ h
  rw [if_neg d0] at h
  by_cases d1 : a1 = 0
  · rw [if_pos d1] at h; exact hj _ h
  rw [if_neg d1] at h
  by_cases d2 : a3 > 1099511627776
  · rw [if_pos d2] at h; exact hj _ h
  rw [if_neg d2] at h
  exact hj _ h
theorem right_l0' (l : List S44) (hl : l.length ≤ 100) (d : Nat) : ∀ (k i : Nat), i ≤ l.length → l.length - i = d → d + 200 < k → winnowlaw04_right.l0 k l (i : Int) = some true → ∀ x ∈ l.drop i, span_Name.f x.f6 = some 0 := by
  induction d with
  | zero =>
    intro k i hi hd hk h x hx
    rw [List.drop_eq_nil_of_le (by omega)] at hx
    cases hx
  | succ d ih =>
    intro k i hi hd hk h x hx
    obtain ⟨k, rfl⟩ : ∃ j, k = j + 1 := ⟨k - 1, by omega⟩
    have hlt : i < l.length := by omega
    obtain ⟨r, hr⟩ := right03_some l[i].f0 l[i].f1 l[i].f2 l[i].f3 l[i].f4 l[i].f5 l[i].f6 l[i].f7 (k := k) (by omega)
    rw [winnowlaw04_right.l0, if_pos (by omega), if_pos (by omega), w64s (by omega), rdS l i hlt, hr] at h
    simp only [Option.bind_some] at h
    by_cases c : r = 0
    · rw [if_pos c] at h
      rw [List.drop_eq_getElem_cons hlt] at hx
      rcases List.mem_cons.1 hx with rfl | hx
      · rw [c] at hr
        exact right03_ok _ _ _ _ _ _ _ _ (by omega) hr
      · exact ih k (i + 1) (by omega) (by omega) (by omega) h x hx
    · rw [if_neg c] at h; cases h
/-! ### a rule -/
theorem idx_mem (c : UInt8) (l : List UInt8) : decide (0 ≤ indexByte l c) = decide (c ∈ l) := by
  by_cases h : c ∈ l
  · obtain ⟨a, b, rfl, hn⟩ := List.eq_append_cons_of_mem h
    rw [idx_hit c b a hn, decide_eq_true h, decide_eq_true (by omega)]
  · rw [idx_miss c l h, decide_eq_false h]
    rfl
theorem blank_l0 (s : ByteArray) (hs : s.size ≤ 1000) (d : Nat) : ∀ (k i : Nat), i ≤ s.size → s.size - i = d → d < k → winnowref04_blank.l0 k s (i : Int) = some (decide ((32 : UInt8) ∈ s.data.toList.drop i)) := by
  induction d with
  | zero =>
    intro k i hi hd hk
    obtain ⟨k, rfl⟩ : ∃ j, k = j + 1 := ⟨k - 1, by omega⟩
    rw [winnowref04_blank.l0, if_neg (by omega), List.drop_eq_nil_of_le (by rw [data_length]; omega)]
    rfl
  | succ d ih =>
    intro k i hi hd hk
    obtain ⟨k, rfl⟩ : ∃ j, k = j + 1 := ⟨k - 1, by omega⟩
    have hlt : i < s.data.toList.length := by rw [data_length]; omega
    have hg : s.get! i = s.data.toList[i] := by
      rw [← getD_get!', List.getD_eq_getElem?_getD, List.getElem?_eq_getElem hlt]
      rfl
    have hdr := List.drop_eq_getElem_cons hlt
    rw [winnowref04_blank.l0, if_pos (by omega), if_pos (by omega), w64s (by omega), ih k (i + 1) (by omega) (by omega) (by omega), bt_get, hg, hdr]
    by_cases c : s.data.toList[i] = 32
    · rw [if_pos (by rw [c]; rfl), c, decide_eq_true (by simp)]
    · have c2 : ¬ ((s.data.toList[i].toNat : Int) = 32) := by
        intro h
        apply c
        apply UInt8.toNat.inj
        show _ = 32
        omega
      rw [if_neg c2]
      congr 1
      rw [decide_eq_decide, List.mem_cons]
      exact ⟨.inr, fun h => h.elim (fun e => absurd e.symm c) id⟩
theorem blank_eq (s : ByteArray) (hs : s.size ≤ 1000) {k : Nat} (hk : 1100 ≤ k) : winnowref04_blank.f k s = some (decide (0 ≤ indexByte s.data.toList 32)) := by
  unfold winnowref04_blank.f
  have h := blank_l0 s hs s.size k 0 (by omega) (by omega) (by omega)
  rw [idx_mem]
  exact h
theorem tl_eq (s : ByteArray) : (s.toList == ([] : List UInt8)) = s.toList.isEmpty := by cases s.toList <;> rfl
/-- The document's test of a rule is the program's. -/
theorem one_right (b : Bool) (what : ByteArray) (num : Int) (h0 : 0 ≤ num) (text : ByteArray) {k : Nat} (hk : 1200 ≤ k) : winnowref04_One.f k b what num text = some (rightB what num text) := by
  obtain ⟨k, rfl⟩ : ∃ j, k = j + 1 := ⟨k - 1, by omega⟩
  obtain ⟨k, rfl⟩ : ∃ j, k = j + 1 := ⟨k - 1, by omega⟩
  have hb : ∀ x5 : Bool, x5 = true → winnowref04_One.j0 (k + 1 + 1) what x5 b what num text = some ((text.toList.isEmpty && decide (0 ≤ num)) && decide (num ≤ 0)) := by
    intro x5 h5
    rw [winnowref04_One.j0, if_pos h5, tl_eq]
    by_cases c : num = 0
    · rw [if_pos c, decide_eq_true (by omega), decide_eq_true (by omega), Bool.and_true, Bool.and_true]
    · rw [if_neg c, decide_eq_false (show ¬ num ≤ 0 by omega), Bool.and_false]
  have h1 : ∀ x5 : Bool, x5 = true → winnowref04_One.j1 (k + 1) x5 b what num text = some ((decide (num = 0) && decide (span_Name.f text = some 0)) && !decide (0 ≤ indexByte text.data.toList 32)) := by
    intro x5 h5
    obtain ⟨t, et⟩ : ∃ t, span_Name.f text = some t := ⟨_, rfl⟩
    rw [winnowref04_One.j1, if_pos h5, name_eq text (by omega), et]
    simp only [Option.bind_some, Option.some.injEq]
    by_cases c : num = 0
    · rw [if_pos c, decide_eq_true c, Bool.true_and]
      by_cases c2 : t = 0
      · rw [c2] at et
        obtain ⟨_, _, _, g2, _⟩ := name_rs et
        rw [if_pos c2, decide_eq_true c2, Bool.true_and, blank_eq text (by omega) (by omega)]
        rfl
      · rw [if_neg c2, decide_eq_false c2, Bool.false_and]
    · rw [if_neg c, decide_eq_false c, Bool.false_and, Bool.false_and]
  unfold rightB winnowref04_One.f
  simp only [policy_form.f, policy_form.j0]
  by_cases c1 : what.toList = ([97, 108, 119, 97, 121, 115] : List UInt8)
  · rw [if_pos c1, if_pos c1, if_pos (by rw [c1]; rfl), hb _ (by rw [c1]; rfl)]
    rfl
  rw [if_neg c1, if_neg c1]
  by_cases c2 : what.toList = ([102, 97, 105, 108] : List UInt8)
  · rw [if_pos c2, if_pos c2, if_pos (by rw [c2]; rfl), hb _ (by rw [c2]; rfl)]
    rfl
  rw [if_neg c2, if_neg c2]
  by_cases c3 : what.toList = ([114, 111, 111, 116] : List UInt8)
  · rw [if_pos (by rw [c3]; rfl), hb _ (by rw [c3]; rfl)]
    rfl
  have c3b : ¬ (what.toList == ([114, 111, 111, 116] : List UInt8)) = true := by simpa using c3
  rw [if_neg c3b, winnowref04_One.j0, if_neg c3b]
  by_cases c4 : what.toList = ([115, 108, 111, 119] : List UInt8)
  · rw [if_pos c4, if_pos c4, tl_eq]
    show _ = some ((text.toList.isEmpty && decide (0 ≤ num)) && decide (num ≤ 1099511627776))
    by_cases c : num ≤ 1099511627776
    · rw [if_pos c, decide_eq_true h0, decide_eq_true c, Bool.and_true, Bool.and_true]
    · rw [if_neg c, decide_eq_false c, Bool.and_false]
  rw [if_neg c4, if_neg c4]
  by_cases c5 : what.toList = ([109, 97, 110, 121] : List UInt8)
  · rw [if_pos c5, if_pos c5, tl_eq]
    show _ = some ((text.toList.isEmpty && decide (1 ≤ num)) && decide (num ≤ 16))
    by_cases c : num ≥ 1
    · rw [if_pos c, decide_eq_true (show 1 ≤ num from c), Bool.and_true]
      by_cases d : num ≤ 16
      · rw [if_pos d, decide_eq_true d, Bool.and_true]
      · rw [if_neg d, decide_eq_false d, Bool.and_false]
    · rw [if_neg c, decide_eq_false (show ¬ 1 ≤ num from c), Bool.and_false, Bool.false_and]
  rw [if_neg c5, if_neg c5]
  by_cases c6 : what.toList = ([104, 97, 115, 104] : List UInt8)
  · rw [if_pos c6, if_pos c6, tl_eq]
    show _ = some ((text.toList.isEmpty && decide (0 ≤ num)) && decide (num ≤ 1000))
    by_cases c : num ≤ 1000
    · rw [if_pos c, decide_eq_true h0, decide_eq_true c, Bool.and_true, Bool.and_true]
    · rw [if_neg c, decide_eq_false c, Bool.and_false]
  rw [if_neg c6, if_neg c6]
  by_cases c7 : what.toList = ([115, 101, 114, 118, 105, 99, 101] : List UInt8)
  · rw [if_pos c7, if_pos c7, h1 _ (by rw [c7]; rfl)]
    rfl
  rw [if_neg c7, if_neg c7]
  by_cases c8 : what.toList = ([110, 97, 109, 101] : List UInt8)
  · rw [if_pos c8, h1 _ (by rw [c8]; rfl)]
    rfl
  have c8b : ¬ (what.toList == ([110, 97, 109, 101] : List UInt8)) = true := by simpa using c8
  rw [if_neg c8, winnowref04_One.j1, if_neg c8b]
  rfl
/-- A right rule's text of the kind 'name' is a name. -/
theorem right_pattern {what : ByteArray} {num : Int} {text : ByteArray} (hn : what.toList = [110, 97, 109, 101]) (h : rightB what num text = true) : span_Name.f text = some 0 := by
  have hf : policy_form.f 1 what = some (3, 0, 0) := by
    simp only [policy_form.f, policy_form.j0, hn]
    rfl
  unfold rightB at h
  rw [hf] at h
  simp only [if_true, Bool.and_eq_true, decide_eq_true_eq] at h
  exact h.1.2
/-- What a right rule that does not count says of one span. -/
theorem one_tells (r : S39) (x : S44) (hr : rightB r.f1 r.f2 r.f3 = true) (hm : ¬ r.f1.toList = ([109, 97, 110, 121] : List UInt8)) (hx : span_Name.f x.f6 = some 0) {k : Nat} (hk : 2000 ≤ k) : winnowref04_one.f k r.f0 r.f1 r.f2 r.f3 x.f0 x.f1 x.f2 x.f3 x.f4 x.f5 x.f6 x.f7 = some (oneB matchB (ownR r) x) := by
  have hmx : winnowref04_Mix.f x.f0 = some (mixI x.f0) := mix_some x.f0
  have hrg := mix_range x.f0
  have htm : Int.tmod (mixI x.f0) 1000 = mixI x.f0 % 1000 := Int.tmod_eq_emod_of_nonneg hrg.1
  unfold winnowref04_one.f oneB
  simp only [show (ownR r).f1 = r.f1 from rfl, show (ownR r).f2 = r.f2 from rfl, show (ownR r).f3 = r.f3 from rfl]
  by_cases c1 : r.f1.toList = ([97, 108, 119, 97, 121, 115] : List UInt8)
  · rw [if_pos c1, c1]
    rfl
  rw [if_neg c1]
  by_cases c2 : r.f1.toList = ([102, 97, 105, 108] : List UInt8)
  · rw [if_pos c2, if_pos c2]
  rw [if_neg c2, if_neg c2]
  by_cases c3 : r.f1.toList = ([114, 111, 111, 116] : List UInt8)
  · rw [if_pos c3, if_pos c3]
  rw [if_neg c3, if_neg c3]
  by_cases c4 : r.f1.toList = ([115, 108, 111, 119] : List UInt8)
  · rw [if_pos c4, if_pos c4]
  rw [if_neg c4, if_neg c4]
  by_cases c7 : r.f1.toList = ([115, 101, 114, 118, 105, 99, 101] : List UInt8)
  · rw [if_pos c7, if_pos c7]
  rw [if_neg c7, if_neg c7]
  by_cases c8 : r.f1.toList = ([110, 97, 109, 101] : List UInt8)
  · rw [if_pos c8, if_pos c8, ref_match (right_pattern c8 hr) hx hk]
    rfl
  rw [if_neg c8, if_neg c8]
  by_cases c6 : r.f1.toList = ([104, 97, 115, 104] : List UInt8)
  · rw [if_pos c6, if_pos c6, hmx]
    simp only [Option.bind_some]
    rw [htm]
  exfalso
  unfold rightB at hr
  simp only [policy_form.f, policy_form.j0] at hr
  have c3b : ¬ (r.f1.toList == ([114, 111, 111, 116] : List UInt8)) = true := by simpa using c3
  rw [if_neg c1, if_neg c2, if_neg c3b, if_neg c4, if_neg hm, if_neg c6, if_neg c7, if_neg c8] at hr
  cases hr
theorem holds_l0 (r : S39) (hr : rightB r.f1 r.f2 r.f3 = true) (hm : ¬ r.f1.toList = ([109, 97, 110, 121] : List UInt8)) (l : List S44) (hl : l.length ≤ 100) (hx : ∀ x ∈ l, span_Name.f x.f6 = some 0) (d : Nat) : ∀ (k i : Nat), i ≤ l.length → l.length - i = d → d + 2000 < k → winnowref04_Holds.l0 k l (i : Int) r.f0 r.f1 r.f2 r.f3 = some ((l.drop i).any (oneB matchB (ownR r))) := by
  induction d with
  | zero =>
    intro k i hi hd hk
    obtain ⟨k, rfl⟩ : ∃ j, k = j + 1 := ⟨k - 1, by omega⟩
    rw [winnowref04_Holds.l0, if_neg (by omega), List.drop_eq_nil_of_le (by omega)]
    rfl
  | succ d ih =>
    intro k i hi hd hk
    obtain ⟨k, rfl⟩ : ∃ j, k = j + 1 := ⟨k - 1, by omega⟩
    have hlt : i < l.length := by omega
    rw [winnowref04_Holds.l0, if_pos (by omega), if_pos (by omega), w64s (by omega), rdS l i hlt, one_tells r l[i] hr hm (hx _ (List.getElem_mem _)) (by omega), List.drop_eq_getElem_cons hlt, List.any_cons, ih k (i + 1) (by omega) (by omega) (by omega)]
    simp only [Option.bind_some]
    cases oneB matchB (ownR r) l[i] <;> rfl
/-- The document's Holds is the program's. -/
theorem holds_eq (r : S39) (h0 : 0 ≤ r.f2) (l : List S44) (hl : l.length ≤ 100) (hx : ∀ x ∈ l, span_Name.f x.f6 = some 0) {k : Nat} (hk : 2200 ≤ k) : winnowref04_Holds.f k r.f0 r.f1 r.f2 r.f3 l = some (holdsB matchB (ownR r) l) := by
  unfold winnowref04_Holds.f holdsB
  simp only [show (ownR r).f1 = r.f1 from rfl, show (ownR r).f2 = r.f2 from rfl, show (ownR r).f3 = r.f3 from rfl]
  rw [one_right _ _ _ h0 _ (by omega)]
  simp only [Option.bind_some]
  by_cases hr : rightB r.f1 r.f2 r.f3 = true
  · rw [if_pos hr, if_pos hr]
    by_cases hm : r.f1.toList = ([109, 97, 110, 121] : List UInt8)
    · have hw : IntKind.u64.wrap (l.length : Int) = (l.length : Int) := by rw [IntKind.wrap_u64]; omega
      rw [if_pos hm, if_pos hm, hw]
      by_cases hz : l.length = 0
      · rw [if_neg (by omega), if_pos hz]
      · rw [if_pos (by omega), if_neg hz]
    · rw [if_neg hm, if_neg hm]
      have h := holds_l0 r hr hm l hl hx l.length k 0 (by omega) (by omega) (by omega)
      rw [List.drop_zero] at h
      by_cases hz : l.length = 0
      · rw [if_pos hz]
        rw [List.length_eq_zero_iff.1 hz] at h ⊢
        exact h
      · rw [if_neg hz]
        exact h
  · rw [if_neg hr, if_neg hr]
theorem eval_l0 (rs : List S39) (h0 : ∀ r ∈ rs, 0 ≤ r.f2) (hrl : rs.length ≤ 100) (l : List S44) (hl : l.length ≤ 100) (hx : ∀ x ∈ l, span_Name.f x.f6 = some 0) (d : Nat) : ∀ (k i : Nat), i ≤ rs.length → rs.length - i = d → d + 2200 < k → winnowref04_Eval.l0 k rs l (i : Int) = some (match ((rs.drop i).map ownR).find? (fun r => holdsB matchB r l) with | some r => if r.f0 = true then 1 else 2 | none => 2) := by
  induction d with
  | zero =>
    intro k i hi hd hk
    obtain ⟨k, rfl⟩ : ∃ j, k = j + 1 := ⟨k - 1, by omega⟩
    rw [winnowref04_Eval.l0, if_neg (by omega), List.drop_eq_nil_of_le (by omega)]
    rfl
  | succ d ih =>
    intro k i hi hd hk
    obtain ⟨k, rfl⟩ : ∃ j, k = j + 1 := ⟨k - 1, by omega⟩
    have hlt : i < rs.length := by omega
    rw [winnowref04_Eval.l0, if_pos (by omega), if_pos (by omega), w64s (by omega), rdR rs i hlt, holds_eq rs[i] (h0 _ (List.getElem_mem _)) l hl hx (by omega), List.drop_eq_getElem_cons hlt, List.map_cons, List.find?_cons, ih k (i + 1) (by omega) (by omega) (by omega)]
    simp only [Option.bind_some]
    cases holdsB matchB (ownR rs[i]) l with
    | true =>
      simp only [if_true]
      show _ = some (if (rs[i]).f0 = true then 1 else 2)
      cases (rs[i]).f0 <;> rfl
    | false => rfl
/-- The document's Eval is the program's. -/
theorem eval_eq (rs : List S39) (h0 : ∀ r ∈ rs, 0 ≤ r.f2) (hrl : rs.length ≤ 100) (l : List S44) (hl : l.length ≤ 100) (hx : ∀ x ∈ l, span_Name.f x.f6 = some 0) {k : Nat} (hk : 2400 ≤ k) : winnowref04_Eval.f k rs l = some (evalB matchB (rs.map ownR) l) := by
  unfold winnowref04_Eval.f evalB
  by_cases hz : l.length = 0
  · rw [if_pos (by omega), if_pos hz]
  · rw [if_neg (by omega), if_neg hz]
    have h := eval_l0 rs h0 hrl l hl hx rs.length k 0 (by omega) (by omega) (by omega)
    rw [List.drop_zero] at h
    exact h
end Go.Proofs.YtemepnpfhoidhaaDoor.PAll
