/-
  The plain law of the ring: what ring.Make and ring.Owner come to, told of lists.
  Conditions: none.
-/
import Derived.Test.YtijeeghilogjdaaPAllx1
import Derived.Test.YtijeeghilogjdaaPAllx2
namespace Go.Proofs.Ytijeeghilogjdaa.PAll
open Go.RowKit Go.Proofs.YtijeeghilogjdaaW.PrintWords Go.Proofs.YtijeeghilogjdaaW.PrintLast Go.Proofs.YtijeeghilogjdaaW.PrintMore
set_option linter.unusedVariables false
set_option linter.unusedSimpArgs false
theorem wsm {a : Int} (h0 : -100000000 ≤ a) (h1 : a ≤ 70368744177664) : wrap64 a = a := by unfold wrap64; omega
theorem wadd1 {a : Nat} (ha : a ≤ 1099511627776) : wrap64 ((a : Int) + 1) = ((a + 1 : Nat) : Int) := by rw [wsm (by omega) (by omega)]; omega
theorem rd_nat (L : List S43) (i : Nat) : rd_T43 L (i : Int) = L.getD i z43 := rfl
theorem rdi_nat (L : List Int) (i : Nat) : rd L (i : Int) = L.getD i 0 := rfl
theorem drop_at {α : Type} (l : List α) (z : α) {i : Nat} (h : i < l.length) : l.drop i = l.getD i z :: l.drop (i + 1) := by
  rw [List.drop_eq_getElem_cons h]
  simp [List.getD_eq_getElem?_getD, List.getElem?_eq_getElem h]
/-! ### the points -/
def mixv (n : Int) : Int := (policy_Mix.f n).getD 0
def atv (id : Int) (i : Int) : Int := mixv (IntKind.u64.wrap (mixv id + IntKind.u64.wrap i))
theorem at_eq (id i : Int) : ring_At.f id i = some (atv id i) := rfl
def ptv (id : Int) (i : Nat) : S43 := ⟨atv id i, id⟩
def pts (ids : List Int) (n : Nat) : List S43 := ids.flatMap fun id => (List.range' 0 n).map (ptv id)
theorem pts_len (ids : List Int) (n : Nat) : (pts ids n).length = ids.length * n := by
  unfold pts
  induction ids with
  | nil => simp
  | cons a t ih => rw [List.flatMap_cons, List.length_append, ih, List.length_map, List.length_range', List.length_cons, Nat.succ_mul]; omega
theorem mem_pts {ids : List Int} {n : Nat} {p : S43} (h : p ∈ pts ids n) : p.f1 ∈ ids := by
  obtain ⟨a, ha, hp⟩ := List.mem_flatMap.1 h
  obtain ⟨i, _, rfl⟩ := List.mem_map.1 hp
  exact ha
theorem pts_app (a b : List Int) (n : Nat) : pts (a ++ b) n = pts a n ++ pts b n := List.flatMap_append
/-! ### the sort -/
def sortP (l : List S43) : List S43 := l.mergeSort fun x y => !ltP y x
def SrtP (l : List S43) : Prop := l.Pairwise fun a b => ltP b a = false
theorem ltP_irr (a : S43) : ltP a a = false := by simp [ltP]
theorem ltP_asy {a b : S43} (h : ltP a b = true) : ltP b a = false := by simp only [ltP, decide_eq_true_eq, decide_eq_false_iff_not] at *; omega
theorem ltP_neg {a b c : S43} (h1 : ltP a b = false) (h2 : ltP b c = false) : ltP a c = false := by simp only [ltP, decide_eq_false_iff_not] at *; omega
theorem sortP_srt (l : List S43) : SrtP (sortP l) := by
  have h := List.pairwise_mergeSort (le := fun x y : S43 => !ltP y x) (fun a b c h1 h2 => by
    simp only [Bool.not_eq_true'] at *
    exact ltP_neg h2 h1) (fun a b => by
    cases h : ltP b a
    · rfl
    · simp [ltP_asy h]) l
  exact h.imp (fun {a b} h => by simpa using h)
theorem sortP_perm (l : List S43) : (sortP l).Perm l := List.mergeSort_perm _ _
theorem sortP_len (l : List S43) : (sortP l).length = l.length := List.length_mergeSort _
theorem sortP_one {l z : List S43} (h : SrtP z) (hp : z.Perm l) : z = sortP l :=
  List.Perm.eq_of_pairwise (le := fun a b => ltP b a = false) (fun a b _ _ h1 h2 => tot_P a b h2 h1) h (sortP_srt l) (hp.trans (sortP_perm l).symm)
theorem srt_f0 {l : List S43} (h : SrtP l) : l.Pairwise fun a b => a.f0 ≤ b.f0 := h.imp fun {a b} h => by
  simp only [ltP, decide_eq_false_iff_not] at h
  omega
/-! ### ring.Make -/
def riseB : Int → List Int → Bool
  | _, [] => true
  | x, y :: l => decide (x < y) && riseB y l
def makeV (ids : List Int) (a : Int) : List S43 × Int :=
  if riseB 0 ids = true then (if a < 1 then ([], 1) else if a > 64 then ([], 1) else if (ids.length : Int) > 16 then ([], 4) else (sortP (pts ids a.toNat), 0)) else ([], 1)
theorem make_l2 (x1 id x34 : Int) (x32 : List Int) (x33 : Int) (n : Nat) (hn : n ≤ 64) (d : Nat) : ∀ (k j : Nat) (x4 : List S43), j + d = n → d + 1 ≤ k → x4.length + d ≤ 100000 →
    ∃ k', k ≤ k' + d + 1 ∧ ring_Make.l2 k x1 x4 id x32 x33 x34 n j = ring_Make.l1 k' x1 (x4 ++ (List.range' j d).map (ptv id)) x32 x33 (wrap64 (x34 + 1)) := by
  induction d with
  | zero =>
    intro k j x4 hj hk hl
    obtain ⟨k, rfl⟩ : ∃ m, k = m + 1 := ⟨k - 1, by omega⟩
    exact ⟨k, by omega, by rw [ring_Make.l2, if_neg (by omega)]; simp⟩
  | succ d ih =>
    intro k j x4 hj hk hl
    obtain ⟨k, rfl⟩ : ∃ m, k = m + 1 := ⟨k - 1, by omega⟩
    obtain ⟨k', h1, h2⟩ := ih k (j + 1) (x4 ++ [ptv id j]) (by omega) (by omega) (by simp; omega)
    refine ⟨k', by omega, ?_⟩
    rw [ring_Make.l2, if_pos (by omega), at_eq]
    simp only [Option.bind_some]
    rw [if_pos (by omega), wadd1 (by omega), List.range'_succ]
    refine Eq.trans h2 ?_
    simp
theorem make_l1 (n : Nat) (hn : n ≤ 64) (ids : List Int) (hi : ids.length ≤ 16) (d : Nat) : ∀ (k i : Nat) (x4 : List S43), i + d = ids.length → d * 70 + 1 ≤ k → x4.length + d * 64 ≤ 10000 →
    ring_Make.l1 k n x4 ids (ids.length : Int) i = some (sortP (x4 ++ pts (ids.drop i) n), 0) := by
  induction d with
  | zero =>
    intro k i x4 hj hk hl
    obtain ⟨k, rfl⟩ : ∃ m, k = m + 1 := ⟨k - 1, by omega⟩
    rw [ring_Make.l1, if_neg (by omega), List.drop_of_length_le (by omega)]
    unfold ring_Point_23.f
    rw [if_pos (by omega)]
    simp only [Option.bind_some, pts, List.flatMap_nil, List.append_nil]
    rfl
  | succ d ih =>
    intro k i x4 hj hk hl
    obtain ⟨k, rfl⟩ : ∃ m, k = m + 1 := ⟨k - 1, by omega⟩
    obtain ⟨k', h1, h2⟩ := make_l2 n (ids.getD i 0) i ids ids.length n hn n k 0 x4 (by omega) (by omega) (by omega)
    rw [ring_Make.l1, if_pos (by omega), if_pos (by omega), if_pos (by omega), rdi_nat]
    refine Eq.trans h2 ?_
    rw [wadd1 (by omega)]
    rw [ih k' (i + 1) _ (by omega) (by omega) (by rw [List.length_append, List.length_map, List.length_range']; omega), drop_at ids 0 (show i < ids.length by omega)]
    congr 2
    rw [List.append_assoc]
    rfl
theorem make_l0 (ids : List Int) (a : Int) (hl : ids.length ≤ 100000) (d : Nat) : ∀ (k i : Nat) (last : Int), i + d = ids.length → d + 2000 ≤ k →
    ring_Make.l0 k ids a [] last ids (ids.length : Int) i = some (if riseB last (ids.drop i) = true then (if a < 1 then ([], 1) else if a > 64 then ([], 1) else if (ids.length : Int) > 16 then ([], 4) else (sortP (pts ids a.toNat), 0)) else ([], 1)) := by
  induction d with
  | zero =>
    intro k i last hi hk
    obtain ⟨k, rfl⟩ : ∃ m, k = m + 1 + 1 := ⟨k - 2, by omega⟩
    rw [ring_Make.l0, if_neg (by omega), List.drop_of_length_le (by omega)]
    simp only [riseB, if_true]
    by_cases h1 : a < 1
    · rw [if_pos h1, if_pos h1, ring_Make.j1, if_pos (by simpa using h1)]
    · rw [if_neg h1, if_neg h1]
      by_cases h2 : a > 64
      · rw [if_pos h2, ring_Make.j1, if_pos (by simpa using h2)]
      · rw [if_neg h2, ring_Make.j1, if_neg (by simpa using h2)]
        by_cases h3 : (ids.length : Int) > 16
        · rw [if_pos h3, if_pos h3]
        · rw [if_neg h3, if_neg h3]
          obtain ⟨n, rfl⟩ := Int.eq_ofNat_of_zero_le (show 0 ≤ a by omega)
          exact make_l1 n (by omega) ids (by omega) ids.length k 0 [] (by omega) (by omega) (by simp; omega)
  | succ d ih =>
    intro k i last hi hk
    obtain ⟨k, rfl⟩ : ∃ m, k = m + 1 := ⟨k - 1, by omega⟩
    rw [ring_Make.l0, if_pos (by omega), if_pos (by omega), if_pos (by omega), rdi_nat, drop_at ids 0 (show i < ids.length by omega), riseB]
    by_cases h : ids.getD i 0 ≤ last
    · have e : decide (last < ids.getD i 0) = false := decide_eq_false (by omega)
      rw [if_pos h, e, Bool.false_and, if_neg (by decide)]
    · rw [if_neg h, wadd1 (by omega), ih k (i + 1) _ (by omega) (by omega)]
      have e : decide (last < ids.getD i 0) = true := decide_eq_true (by omega)
      rw [e, Bool.true_and]
theorem make_eq (ids : List Int) (a : Int) (hl : ids.length ≤ 100000) {k : Nat} (hk : ids.length + 2000 ≤ k) : ring_Make.f k ids a = some (makeV ids a) := by
  unfold ring_Make.f
  exact make_l0 ids a hl ids.length k 0 0 (by omega) hk
/-! ### ring.Owner -/
def firstGe (r : List S43) (n : Int) : Nat := (r.takeWhile fun p => decide (p.f0 < n)).length
def ofV (r : List S43) (n : Int) : Int := if r = [] then 0 else (r.getD (if firstGe r n = r.length then 0 else firstGe r n) z43).f1
theorem firstGe_le (r : List S43) (n : Int) : firstGe r n ≤ r.length := by
  unfold firstGe
  have := (List.takeWhile_prefix (l := r) fun p => decide (p.f0 < n)).length_le
  exact this
theorem firstGe_one : ∀ (r : List S43) (n : Int) (c : Nat), c ≤ r.length → (∀ j, j < c → (r.getD j z43).f0 < n) → (c < r.length → ¬ (r.getD c z43).f0 < n) → firstGe r n = c
  | [], n, c, h, _, _ => by simp at h; subst h; rfl
  | a :: t, n, 0, h, _, h2 => by
    have := h2 (by simp)
    simp only [List.getD_cons_zero] at this
    unfold firstGe
    rw [List.takeWhile_cons_of_neg (by simpa using this)]
    rfl
  | a :: t, n, c + 1, h, h1, h2 => by
    have h0 := h1 0 (by omega)
    simp only [List.getD_cons_zero] at h0
    have ih := firstGe_one t n c (by simpa using h) (fun j hj => by simpa using h1 (j + 1) (by omega)) (fun hc => by simpa using h2 (by simpa using hc))
    unfold firstGe at ih ⊢
    rw [List.takeWhile_cons_of_pos (by simpa using h0), List.length_cons, ih]
theorem of1_eq (p0 p1 n : Int) : ring_of_1.f p0 p1 n = some (cmpU p0 n) := by
  unfold ring_of_1.f
  rw [cmpU_eq]
  rfl
theorem cmpU_lt (a b : Int) : cmpU a b < 0 ↔ a < b := by
  unfold cmpU
  (repeat' split) <;> omega
theorem mid_eq {a b : Nat} (ha : a ≤ 100000) (hb : b ≤ 100000) : wrap64 ((IntKind.u64.wrap (wrap64 ((a : Int) + b))) / 2) = (((a + b) / 2 : Nat) : Int) := by
  have e : IntKind.u64.wrap (wrap64 ((a : Int) + b)) = (a : Int) + b := by
    rw [wsm (by omega) (by omega)]
    show ((a : Int) + b) % 18446744073709551616 = _
    omega
  rw [e, wsm (by omega) (by omega)]
  omega
theorem search_l0 (r : List S43) (hl : r.length ≤ 100000) (hs : r.Pairwise fun a b => a.f0 ≤ b.f0) (n : Int) (d : Nat) : ∀ (k i j : Nat), i ≤ j → j ≤ r.length → j - i ≤ d → d + 1 ≤ k →
    (∀ q, q < i → (r.getD q z43).f0 < n) → (j < r.length → ¬ (r.getD j z43).f0 < n) → ∃ b, ring_Point_uint64.l0 k r n (r.length : Int) i j = some ((firstGe r n : Int), b) := by
  induction d with
  | zero =>
    intro k i j h1 h2 h3 h4 h5 h6
    obtain ⟨k, rfl⟩ : ∃ m, k = m + 1 := ⟨k - 1, by omega⟩
    obtain rfl : i = j := by omega
    rw [firstGe_one r n i h2 h5 h6, ring_Point_uint64.l0, if_neg (by omega)]
    by_cases h : (i : Int) < (r.length : Int)
    · rw [if_pos h, if_pos (by omega), if_pos h, of1_eq]
      exact ⟨_, rfl⟩
    · rw [if_neg h]
      exact ⟨_, rfl⟩
  | succ d ih =>
    intro k i j h1 h2 h3 h4 h5 h6
    obtain ⟨k, rfl⟩ : ∃ m, k = m + 1 := ⟨k - 1, by omega⟩
    by_cases hij : i = j
    · exact ih (k + 1) i j h1 h2 (by omega) (by omega) h5 h6
    · have hm : (i + j) / 2 < r.length := by omega
      rw [ring_Point_uint64.l0, if_pos (by omega), mid_eq (by omega) (by omega), if_pos (by omega), if_pos (by omega), rd_nat, of1_eq]
      simp only [Option.bind_some]
      have mono : ∀ p q, p ≤ q → q < r.length → (r.getD p z43).f0 ≤ (r.getD q z43).f0 := by
        intro p q hpq hq
        rw [List.getD_eq_getElem?_getD, List.getD_eq_getElem?_getD, List.getElem?_eq_getElem hq, List.getElem?_eq_getElem (show p < r.length by omega), Option.getD_some, Option.getD_some]
        by_cases e : p = q
        · subst e; exact Int.le_refl _
        · exact List.pairwise_iff_getElem.1 hs p q (by omega) hq (by omega)
      by_cases hc : (r.getD ((i + j) / 2) z43).f0 < n
      · rw [if_pos ((cmpU_lt _ _).2 hc), wadd1 (by omega)]
        exact ih k ((i + j) / 2 + 1) j (by omega) h2 (by omega) (by omega) (fun q hq => Int.lt_of_le_of_lt (mono q _ (by omega) hm) hc) h6
      · rw [if_neg (fun h => hc ((cmpU_lt _ _).1 h))]
        exact ih k i ((i + j) / 2) (by omega) (by omega) (by omega) (by omega) h5 (fun _ => hc)
theorem of_eq (r : List S43) (hl : r.length ≤ 100000) (hs : r.Pairwise fun a b => a.f0 ≤ b.f0) (n : Int) {k : Nat} (hk : r.length + 1 ≤ k) : ring_of.f k r n = some (ofV r n) := by
  unfold ring_of.f ofV
  by_cases h : r = []
  · subst h; rfl
  · have hpos : 0 < r.length := List.length_pos_iff.2 h
    rw [if_neg (by omega), if_neg h]
    obtain ⟨b, hb⟩ := search_l0 r hl hs n r.length k 0 r.length (by omega) (by omega) (by omega) (by omega) (fun q hq => by omega) (fun hc => by omega)
    unfold ring_Point_uint64.f
    rw [show ring_Point_uint64.l0 k r n (r.length : Int) 0 (r.length : Int) = _ from hb]
    simp only [Option.bind_some]
    have hle := firstGe_le r n
    have e : Int.tmod (firstGe r n : Int) (r.length : Int) = ((if firstGe r n = r.length then 0 else firstGe r n : Nat) : Int) := by
      rw [Int.tmod_eq_emod_of_nonneg (by omega), ← Int.natCast_emod]
      split
      · rename_i e; rw [e, Nat.mod_self]
      · rw [Nat.mod_eq_of_lt (by omega)]
    rw [e, if_pos (by omega), if_pos (by split <;> omega), rd_nat]
theorem owner_eq (r : List S43) (hl : r.length ≤ 100000) (hs : r.Pairwise fun a b => a.f0 ≤ b.f0) (t : Int) {k : Nat} (hk : r.length + 1 ≤ k) : ring_Owner.f k r t = some (ofV r (mixv t)) := by
  unfold ring_Owner.f
  show (some (mixv t)).bind _ = _
  simp only [Option.bind_some]
  rw [of_eq r hl hs _ hk]
  rfl
theorem ofV_mem (r : List S43) (n : Int) (h : r ≠ []) : ∃ p ∈ r, p.f1 = ofV r n := by
  have hpos : 0 < r.length := List.length_pos_iff.2 h
  have hle := firstGe_le r n
  have hi : (if firstGe r n = r.length then 0 else firstGe r n) < r.length := by split <;> omega
  refine ⟨r.getD (if firstGe r n = r.length then 0 else firstGe r n) z43, ?_, by unfold ofV; rw [if_neg h]⟩
  rw [List.getD_eq_getElem?_getD, List.getElem?_eq_getElem hi, Option.getD_some]
  exact List.getElem_mem _
theorem makeV_ok {ids : List Int} {a : Int} (h : riseB 0 ids = true) (h1 : 1 ≤ a) (h2 : a ≤ 64) (h3 : ids.length ≤ 16) : makeV ids a = (sortP (pts ids a.toNat), 0) := by
  unfold makeV
  rw [if_pos h, if_neg (by omega), if_neg (by omega), if_neg (by omega)]
theorem alive_ok {k : Nat} (hk : 3000 ≤ k) : winnowlaw08_alive.f k = some true := by
  unfold winnowlaw08_alive.f
  rw [make_eq [7] 3 (by simp) (by simp; omega), makeV_ok (by decide) (by decide) (by decide) (by simp)]
  simp only [Option.bind_some]
  have hl : (sortP (pts [7] (3 : Int).toNat)).length = 3 := by rw [sortP_len, pts_len]; rfl
  rw [if_pos trivial, if_pos (by rw [hl]; rfl), owner_eq _ (by omega) (srt_f0 (sortP_srt _)) 5 (by omega)]
  simp only [Option.bind_some]
  obtain ⟨p, hp, e⟩ := ofV_mem (sortP (pts [7] (3 : Int).toNat)) (mixv 5) (fun h => by rw [h] at hl; cases hl)
  have := mem_pts ((sortP_perm _).mem_iff.1 hp)
  rw [List.mem_singleton] at this
  rw [if_pos (by rw [← e, this]), owner_eq [] (by simp) List.Pairwise.nil 5 (by simp; omega)]
  rfl
end Go.Proofs.Ytijeeghilogjdaa.PAll
