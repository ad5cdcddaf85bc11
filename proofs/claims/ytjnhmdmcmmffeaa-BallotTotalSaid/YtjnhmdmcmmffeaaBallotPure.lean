/-
  The plain law of ballots: what ballot's functions and the document's compute, and that the laws of chapter 11 hold of them.
  Conditions: none beyond the ranges of Go's own kinds.
-/
import Derived.Test.YtjnhmdmcmmffeaaPAllx10
import Derived.Test.YtjnhmdmcmmffeaaPAllx11
import Derived.Test.YtjnhmdmcmmffeaaPAllx12
import Derived.Test.YtjnhmdmcmmffeaaPAllx8
import Derived.Test.YtjnhmdmcmmffeaaPAllx9
import Derived.Test.YtjnhmdmcmmffeaaOpsAll
namespace Go.Proofs.Ytjnhmdmcmmffeaa.PAll
open Go.RowKit Go.Proofs.YtjnhmdmcmmffeaaW.PrintWords Go.Proofs.YtjnhmdmcmmffeaaW.PrintLast Go.Proofs.YtjnhmdmcmmffeaaW.PrintMore
set_option linter.unusedVariables false
set_option linter.unusedSimpArgs false

theorem arr_of {cs : Array Value} {l : List Value} (h : cs.toList = l) : cs = l.toArray := by rw [← h]
theorem wf_u64 {x : Int} (h : (Lit.int .u64 x).wf = true) : 0 ≤ x ∧ x ≤ 18446744073709551615 := by
  simpa [Lit.wf, IntKind.min, IntKind.max, IntKind.signed, IntKind.bits] using h
theorem wf_i64 {x : Int} (h : (Lit.int .i64 x).wf = true) : -9223372036854775808 ≤ x ∧ x ≤ 9223372036854775807 := by
  simpa [Lit.wf, IntKind.min, IntKind.max, IntKind.signed, IntKind.bits] using h

/-- A ballot below another one. -/
def lt2 (a0 a1 b0 b1 : Int) : Prop := a0 < b0 ∨ a0 = b0 ∧ a1 < b1
instance (a0 a1 b0 b1 : Int) : Decidable (lt2 a0 a1 b0 b1) := by unfold lt2; infer_instance

theorem compare_eq (a b : Int) : cmp_Compare_uint64.f a b = some (if a < b then -1 else if a > b then 1 else 0) := by
  unfold cmp_Compare_uint64.f cmp_isNaN_uint64.f
  simp
  split <;> first | rfl | (split <;> rfl)
theorem or_eq (k : Nat) (a b : Int) : cmp_Or_int.f (k + 3) [a, b] = some (if a = 0 then b else a) := by
  unfold cmp_Or_int.f
  by_cases ha : a = 0
  · by_cases hb : b = 0
    · subst ha hb
      simp [cmp_Or_int.l0, rd, wrap64]
    · subst ha
      simp [cmp_Or_int.l0, rd, wrap64, hb]
  · simp [cmp_Or_int.l0, rd, ha]
theorem order_eq (k : Nat) (a0 a1 b0 b1 : Int) :
    ballot_order.f (k + 3) a0 a1 b0 b1 = some (if a0 < b0 then -1 else if a0 > b0 then 1 else if a1 < b1 then -1 else if a1 > b1 then 1 else 0) := by
  unfold ballot_order.f
  rw [compare_eq, compare_eq]
  simp only [Option.bind_some]
  rw [or_eq]
  simp only [Option.bind_some]
  by_cases h1 : a0 < b0
  · simp [h1]
  · by_cases h2 : a0 > b0
    · simp [h1, h2]
    · simp [h1, h2]
theorem less_eq (k : Nat) (a0 a1 b0 b1 : Int) : ballot_Less.f (k + 3) a0 a1 b0 b1 = some (decide (lt2 a0 a1 b0 b1)) := by
  unfold ballot_Less.f
  rw [order_eq]
  simp only [Option.bind_some, Option.some.injEq, decide_eq_decide, lt2]
  by_cases h1 : a0 < b0
  · simp [h1]
  · by_cases h2 : a0 > b0
    · simp [h1, h2]; omega
    · have h3 : a0 = b0 := by omega
      subst h3
      by_cases h4 : a1 < b1
      · simp [h4]
      · by_cases h5 : a1 > b1
        · simp [h4, h5]
        · simp [h4, h5]
theorem order_ge {k : Nat} (hk : 3 ≤ k) (a0 a1 b0 b1 : Int) : ballot_order.f k a0 a1 b0 b1 = some (if a0 < b0 then -1 else if a0 > b0 then 1 else if a1 < b1 then -1 else if a1 > b1 then 1 else 0) := by
  obtain ⟨j, rfl⟩ : ∃ j, k = j + 3 := ⟨k - 3, by omega⟩
  exact order_eq j a0 a1 b0 b1
theorem order_sign {k : Nat} (hk : 3 ≤ k) (a0 a1 b0 b1 : Int) : ∃ v, ballot_order.f k a0 a1 b0 b1 = some v ∧ (v < 0 ↔ lt2 a0 a1 b0 b1) := by
  refine ⟨_, order_ge hk a0 a1 b0 b1, ?_⟩
  unfold lt2
  (repeat' split) <;> omega
theorem less_ge {k : Nat} (hk : 3 ≤ k) (a0 a1 b0 b1 : Int) : ballot_Less.f k a0 a1 b0 b1 = some (decide (lt2 a0 a1 b0 b1)) := by
  obtain ⟨j, rfl⟩ : ∃ j, k = j + 3 := ⟨k - 3, by omega⟩
  exact less_eq j a0 a1 b0 b1
theorem rless_eq (a0 a1 b0 b1 : Int) : winnowref11_Less.f a0 a1 b0 b1 = some (decide (lt2 a0 a1 b0 b1)) := by
  unfold winnowref11_Less.f lt2
  by_cases h1 : a0 < b0
  · simp [h1]
  · by_cases h2 : a0 = b0 <;> simp [h1, h2]
theorem next_eq (s0 s1 v n : Int) : ballot_Next.f s0 s1 v n = if n = 0 then some (0, 0, 1) else if (mx s0 v) = 18446744073709551615 then some (0, 0, 12) else some (mx (IntKind.u64.wrap (s0 + 1)) v, n, 0) := rfl
theorem wrap_u64 {x : Int} (h0 : 0 ≤ x) (h1 : x ≤ 18446744073709551615) : IntKind.u64.wrap x = x := by
  simp [IntKind.wrap, IntKind.signed, IntKind.bits]; omega
theorem rnext_eq {s0 s1 v n : Int} (h0 : s0 ≤ 18446744073709551615) (h1 : v ≤ 18446744073709551615) : winnowref11_Next.f s0 s1 v n = ballot_Next.f s0 s1 v n := by
  unfold winnowref11_Next.f ballot_Next.f
  by_cases hn : n = 0
  · rw [if_pos hn, if_pos hn]
  · rw [if_neg hn, if_neg hn]
    by_cases h2 : s0 = 18446744073709551615
    · rw [if_pos h2, if_pos (by unfold mx; omega)]
    · rw [if_neg h2]
      by_cases h3 : v = 18446744073709551615
      · rw [if_pos h3, if_pos (by unfold mx; omega)]
      · rw [if_neg h3, if_neg (by unfold mx; omega)]
theorem alive11 (k : Nat) : winnowlaw11_alive.f (k + 3) = some true := by
  unfold winnowlaw11_alive.f
  have h : ballot_Next.f 5 9 3 2 = some (6, 2, 0) := by decide
  rw [h]
  simp only [Option.bind_some]
  rw [less_eq]
  simp [lt2]

theorem alive11_ge {k : Nat} (hk : 3 ≤ k) : winnowlaw11_alive.f k = some true := by
  obtain ⟨j, rfl⟩ : ∃ j, k = j + 3 := ⟨k - 3, by omega⟩
  exact alive11 j

theorem bnext (s v : Int) (s1 n : Int) (h0 : 0 ≤ s ∧ s ≤ 18446744073709551615) (h1 : 0 ≤ v ∧ v ≤ 18446744073709551615) :
    (n = 0 ∧ ballot_Next.f s s1 v n = some (0, 0, 1)) ∨ (n ≠ 0 ∧ (s = 18446744073709551615 ∨ v = 18446744073709551615) ∧ ballot_Next.f s s1 v n = some (0, 0, 12)) ∨
    ∃ m, n ≠ 0 ∧ s < 18446744073709551615 ∧ v < 18446744073709551615 ∧ s < m ∧ v ≤ m ∧ (m = s + 1 ∨ m = v) ∧ ballot_Next.f s s1 v n = some (m, n, 0) := by
  rw [next_eq]
  by_cases hn : n = 0
  · exact .inl ⟨hn, by rw [if_pos hn]⟩
  · by_cases hm : mx s v = 18446744073709551615
    · refine .inr (.inl ⟨hn, ?_, by rw [if_neg hn, if_pos hm]⟩)
      unfold mx at hm
      split at hm <;> omega
    · refine .inr (.inr ⟨mx (IntKind.u64.wrap (s + 1)) v, hn, ?_, ?_, ?_, ?_, ?_, by rw [if_neg hn, if_neg hm]⟩)
      all_goals (unfold mx at hm; split at hm <;> (try (rw [wrap_u64 (by omega) (by omega)])) <;> (try unfold mx) <;> (try split) <;> omega)

theorem BallotNext (x : S24) (v n : Int) (hx : ok24 x) (hv : (Lit.int .u64 v).wf = true) (hn : (Lit.int .u64 n).wf = true) : winnowlaw11_BallotNext.f 3 x.f0 x.f1 v n = some true := by
  unfold winnowlaw11_BallotNext.f
  have h0 := wf_u64 hx.1
  have h1 := wf_u64 hv
  rw [rnext_eq (by omega) (by omega)]
  have ha := alive11 0
  rcases bnext x.f0 v x.f1 n h0 h1 with ⟨_, h⟩ | ⟨_, _, h⟩ | ⟨m, _, _, _, _, _, _, h⟩
  all_goals (rw [h]; simp only [Option.bind_some]; simp only [Nat.zero_add] at ha; simp [ha])

theorem BallotAbove (x y : S24) (v n m : Int) (hx : ok24 x) (hy : ok24 y) (hv : (Lit.int .u64 v).wf = true) (hn : (Lit.int .u64 n).wf = true) (hm : (Lit.int .u64 m).wf = true) :
    winnowlaw11_BallotAbove.f 3 x.f0 x.f1 y.f0 y.f1 v n m = some true := by
  unfold winnowlaw11_BallotAbove.f
  have h0 := wf_u64 hx.1
  have h1 := wf_u64 hy.1
  have h2 := wf_u64 hv
  have h3 := wf_u64 hn
  have ha := alive11 0
  have hl := less_eq 0
  simp only [Nat.zero_add] at ha hl
  rcases bnext x.f0 v x.f1 n h0 h2 with ⟨_, h⟩ | ⟨_, _, h⟩ | ⟨a, hn0, _, _, hsa, hva, _, h⟩
  · rcases bnext y.f0 v y.f1 m h1 h2 with ⟨_, g⟩ | ⟨_, _, g⟩ | ⟨b, _, _, _, _, _, _, g⟩ <;> (rw [h, g]; simp only [Option.bind_some]; rw [if_neg (by decide), if_pos (by decide), ha]; rfl)
  · rcases bnext y.f0 v y.f1 m h1 h2 with ⟨_, g⟩ | ⟨_, _, g⟩ | ⟨b, _, _, _, _, _, _, g⟩ <;> (rw [h, g]; simp only [Option.bind_some]; rw [if_neg (by decide), if_pos (by decide), ha]; rfl)
  · have hlt : lt2 x.f0 x.f1 a n := .inl hsa
    rcases bnext y.f0 v y.f1 m h1 h2 with ⟨_, g⟩ | ⟨_, _, g⟩ | ⟨b, _, _, _, _, _, _, g⟩
    · rw [h, g]; simp only [Option.bind_some, hl, ha]
      rw [if_pos trivial, if_pos (by simpa using hlt), if_neg (by omega), if_neg (by omega), if_neg (by decide)]
    · rw [h, g]; simp only [Option.bind_some, hl, ha]
      rw [if_pos trivial, if_pos (by simpa using hlt), if_neg (by omega), if_neg (by omega), if_neg (by decide)]
    · rw [h, g]; simp only [Option.bind_some, hl, ha]
      rw [if_pos trivial, if_pos (by simpa using hlt), if_neg (by omega), if_neg (by omega), if_pos trivial]
      by_cases e : n = m
      · rw [if_pos e]
      · rw [if_neg e, if_pos (by simp [e])]

/-- The greater one. -/
def up (m x : S24) : S24 := if lt2 m.f0 m.f1 x.f0 x.f1 then x else m
theorem wrap_up {i : Int} {n : Nat} (h0 : 0 ≤ i) (h : i < (n : Int)) (hn : n ≤ 1000000) : wrap64 (i + 1) = i + 1 := by unfold wrap64; omega
theorem drop_rd (xs : List S24) (i : Int) (h0 : 0 ≤ i) (h : i < (xs.length : Int)) : xs.drop i.toNat = rd_T24 xs i :: xs.drop (i + 1).toNat := by
  have hi : i.toNat < xs.length := by omega
  rw [List.drop_eq_getElem_cons hi, show (i + 1).toNat = i.toNat + 1 by omega]
  simp [rd_T24, List.getD_eq_getElem?_getD, List.getElem?_eq_getElem hi]
theorem greatest_tells (xs : List S24) (hn : xs.length ≤ 1000000) (d : Nat) : ∀ (k : Nat) (i : Int) (m : S24), 0 ≤ i → i ≤ xs.length → (xs.length : Int) - i = d → d + 3 < k →
    ballot_greatest.l0 k xs (xs.length : Int) i m.f0 m.f1 = some (((xs.drop i.toNat).foldl up m).f0, ((xs.drop i.toNat).foldl up m).f1) := by
  induction d with
  | zero =>
    intro k i m h0 h1 hd hk
    obtain ⟨k, rfl⟩ : ∃ j, k = j + 1 := ⟨k - 1, by omega⟩
    simp only [ballot_greatest.l0]
    rw [if_neg (by omega), List.drop_eq_nil_of_le (by omega)]
    rfl
  | succ d ih =>
    intro k i m h0 h1 hd hk
    obtain ⟨k, rfl⟩ : ∃ j, k = j + 1 := ⟨k - 1, by omega⟩
    have hlt : i < (xs.length : Int) := by omega
    simp only [ballot_greatest.l0]
    obtain ⟨v, hv, hs⟩ := order_sign (k := k) (by omega) m.f0 m.f1 (rd_T24 xs i).f0 (rd_T24 xs i).f1
    rw [if_pos hlt, if_pos h0, hv, drop_rd xs i h0 hlt, List.foldl_cons, wrap_up h0 hlt hn]
    simp only [Option.bind_some]
    have hi := fun m => ih k (i + 1) m (by omega) (by omega) (by omega) (by omega)
    by_cases hc : lt2 m.f0 m.f1 (rd_T24 xs i).f0 (rd_T24 xs i).f1
    · have e : up m (rd_T24 xs i) = rd_T24 xs i := by unfold up; rw [if_pos hc]
      rw [if_pos hlt, if_pos (hs.2 hc), hi, e]
    · have e : up m (rd_T24 xs i) = m := by unfold up; rw [if_neg hc]
      rw [if_pos hlt, if_neg (fun h => hc (hs.1 h)), hi, e]
theorem max_eq (xs : List S24) (hn : xs.length ≤ 1000000) (k : Nat) (hk : xs.length + 3 < k) : ballot_Max.f k xs = some ((xs.foldl up z24).f0, (xs.foldl up z24).f1) := by
  unfold ballot_Max.f ballot_greatest.f
  have h := greatest_tells xs hn xs.length k 0 z24 (by omega) (by omega) (by omega) hk
  have e : z24.f0 = 0 ∧ z24.f1 = 0 := ⟨rfl, rfl⟩
  rw [e.1, e.2] at h
  rw [h]
  rfl
theorem rmax_tells (xs : List S24) (hn : xs.length ≤ 1000000) (d : Nat) : ∀ (k : Nat) (i : Int) (m : S24), 0 ≤ i → i ≤ xs.length → (xs.length : Int) - i = d → d < k →
    winnowref11_Max.l0 k xs i m.f0 m.f1 = some (((xs.drop i.toNat).foldl up m).f0, ((xs.drop i.toNat).foldl up m).f1) := by
  induction d with
  | zero =>
    intro k i m h0 h1 hd hk
    obtain ⟨k, rfl⟩ : ∃ j, k = j + 1 := ⟨k - 1, by omega⟩
    simp only [winnowref11_Max.l0]
    rw [if_neg (by omega), List.drop_eq_nil_of_le (by omega)]
    rfl
  | succ d ih =>
    intro k i m h0 h1 hd hk
    obtain ⟨k, rfl⟩ : ∃ j, k = j + 1 := ⟨k - 1, by omega⟩
    have hlt : i < (xs.length : Int) := by omega
    simp only [winnowref11_Max.l0]
    rw [if_pos hlt, if_pos h0, rless_eq, drop_rd xs i h0 hlt, List.foldl_cons, wrap_up h0 hlt hn]
    simp only [Option.bind_some]
    have hi := fun m => ih k (i + 1) m (by omega) (by omega) (by omega) (by omega)
    by_cases hc : lt2 m.f0 m.f1 (rd_T24 xs i).f0 (rd_T24 xs i).f1
    · have e : up m (rd_T24 xs i) = rd_T24 xs i := by unfold up; rw [if_pos hc]
      rw [e, if_pos (by simpa using hc), hi]
    · have e : up m (rd_T24 xs i) = m := by unfold up; rw [if_neg hc]
      rw [e, if_neg (by simpa using hc), hi]
theorem rmax_eq (xs : List S24) (hn : xs.length ≤ 1000000) (k : Nat) (hk : xs.length < k) : winnowref11_Max.f k xs = some ((xs.foldl up z24).f0, (xs.foldl up z24).f1) := by
  unfold winnowref11_Max.f
  exact rmax_tells xs hn xs.length k 0 z24 (by omega) (by omega) (by omega) hk
theorem BallotOrder (x y : S24) (l : List S24) : ∃ k, winnowlaw11_BallotOrder.f k x.f0 x.f1 y.f0 y.f1 l = some true := by
  refine ⟨l.length + 4, ?_⟩
  unfold winnowlaw11_BallotOrder.f
  have ha : winnowlaw11_alive.f (l.length + 4) = some true := alive11 (l.length + 1)
  by_cases hl : (l.length : Int) > 1000
  · rw [if_pos hl, ha]; rfl
  · rw [if_neg hl, show l.length + 4 = (l.length + 1) + 3 from rfl, less_eq, rless_eq]
    simp only [Option.bind_some]
    rw [if_pos (by simp), max_eq l (by omega) _ (by omega), rmax_eq l (by omega) _ (by omega)]
    simp only [Option.bind_some]
    rw [if_pos (by simp), show l.length + 1 + 3 = l.length + 4 from rfl, ha]
    rfl

/-! The greatest of some is one of them, and above none. -/
theorem lt2_trans {a b c : S24} (h : lt2 a.f0 a.f1 b.f0 b.f1) (g : lt2 b.f0 b.f1 c.f0 c.f1) : lt2 a.f0 a.f1 c.f0 c.f1 := by
  unfold lt2 at *; omega
theorem up_above (m x y : S24) (h : ¬ lt2 m.f0 m.f1 y.f0 y.f1) : ¬ lt2 (up m x).f0 (up m x).f1 y.f0 y.f1 := by
  unfold up
  split
  · rename_i hc; unfold lt2 at *; omega
  · exact h
theorem up_new (m x : S24) : ¬ lt2 (up m x).f0 (up m x).f1 x.f0 x.f1 := by
  unfold up
  split
  · unfold lt2; omega
  · assumption
theorem fold_above (xs : List S24) : ∀ m : S24, (∀ y : S24, ¬ lt2 m.f0 m.f1 y.f0 y.f1 → ¬ lt2 (xs.foldl up m).f0 (xs.foldl up m).f1 y.f0 y.f1) ∧ ∀ y ∈ xs, ¬ lt2 (xs.foldl up m).f0 (xs.foldl up m).f1 y.f0 y.f1 := by
  induction xs with
  | nil => exact fun m => ⟨fun y h => h, fun y h => by cases h⟩
  | cons x xs ih =>
    intro m
    rw [List.foldl_cons]
    obtain ⟨h1, h2⟩ := ih (up m x)
    refine ⟨fun y hy => h1 y (up_above m x y hy), fun y hy => ?_⟩
    rcases List.mem_cons.1 hy with rfl | hy
    · exact h1 _ (up_new m _)
    · exact h2 y hy
theorem fold_one (xs : List S24) : ∀ m : S24, xs.foldl up m = m ∨ xs.foldl up m ∈ xs := by
  induction xs with
  | nil => exact fun m => .inl rfl
  | cons x xs ih =>
    intro m
    rw [List.foldl_cons]
    rcases ih (up m x) with h | h
    · rw [h]
      unfold up
      split
      · exact .inr (List.mem_cons_self ..)
      · exact .inl rfl
    · exact .inr (List.mem_cons_of_mem _ h)
/-- Of numbers from 0 on the greatest one is one of them. -/
theorem fold_in (xs : List S24) (h : ∀ x ∈ xs, 0 ≤ x.f0 ∧ 0 ≤ x.f1) (hne : xs ≠ []) : ∃ x ∈ xs, x.f0 = (xs.foldl up z24).f0 ∧ x.f1 = (xs.foldl up z24).f1 := by
  rcases fold_one xs z24 with e | e
  · cases xs with
    | nil => exact absurd rfl hne
    | cons x xs =>
      have ha := (fold_above (x :: xs) z24).2 x (List.mem_cons_self ..)
      have hx := h x (List.mem_cons_self ..)
      rw [e] at ha ⊢
      refine ⟨x, List.mem_cons_self .., ?_⟩
      have e0 : z24.f0 = 0 ∧ z24.f1 = 0 := ⟨rfl, rfl⟩
      rw [e0.1, e0.2] at ha ⊢
      unfold lt2 at ha
      omega
  · exact ⟨_, e, rfl, rfl⟩
end Go.Proofs.Ytjnhmdmcmmffeaa.PAll
