/-
  The plain law of the ring, further: which members are right, and whose a point is.
  Conditions: none.
-/
import Derived.Test.YtijeeghilogjdaaRingPure
import Derived.Test.YtijeeghilogjdaaPAllx3
namespace Go.Proofs.Ytijeeghilogjdaa.PAll
open Go.RowKit Go.Proofs.YtijeeghilogjdaaW.PrintWords Go.Proofs.YtijeeghilogjdaaW.PrintLast Go.Proofs.YtijeeghilogjdaaW.PrintMore
set_option linter.unusedVariables false
set_option linter.unusedSimpArgs false
theorem wsub1 {a : Nat} (h : 1 ≤ a) (ha : a ≤ 1099511627776) : wrap64 ((a : Int) - 1) = ((a - 1 : Nat) : Int) := by rw [wsm (by omega) (by omega)]; omega
theorem wfu {l : List Int} (h : ∀ x ∈ l, (Lit.int .u64 x).wf = true) : ∀ x ∈ l, 0 ≤ x := fun x hx => by
  have := h x hx
  have h2 : IntKind.u64.min ≤ x ∧ x ≤ IntKind.u64.max := by simpa [Lit.wf] using this
  have h3 : IntKind.u64.min = 0 := by decide
  omega
theorem right_l0 (ids : List Int) (h0 : ∀ x ∈ ids, 0 ≤ x) (hl : ids.length ≤ 140737488351232) (d : Nat) : ∀ (k i : Nat), i + d = ids.length → d + 1 ≤ k →
    winnowref08_Right.l0 k ids i = some (riseB (if i = 0 then 0 else ids.getD (i - 1) 0) (ids.drop i)) := by
  induction d with
  | zero =>
    intro k i hi hk
    obtain ⟨k, rfl⟩ : ∃ m, k = m + 1 := ⟨k - 1, by omega⟩
    rw [winnowref08_Right.l0, if_neg (by omega), List.drop_of_length_le (by omega), riseB]
  | succ d ih =>
    intro k i hi hk
    obtain ⟨k, rfl⟩ : ∃ m, k = m + 1 := ⟨k - 1, by omega⟩
    have hp : ∀ j, j < ids.length → 0 ≤ ids.getD j 0 := fun j hj => by
      rw [List.getD_eq_getElem?_getD, List.getElem?_eq_getElem hj, Option.getD_some]
      exact h0 _ (List.getElem_mem _)
    have hpi := hp i (by omega)
    have w1 : wrap64 ((i : Int) + 1) = ((i + 1 : Nat) : Int) := by unfold wrap64; omega
    have hn := ih k (i + 1) (by omega) (by omega)
    rw [if_neg (by omega), Nat.add_sub_cancel] at hn
    rw [winnowref08_Right.l0, if_pos (by omega), if_pos (by omega), rdi_nat, drop_at ids 0 (show i < ids.length by omega), riseB]
    by_cases hi0 : i = 0
    · subst hi0
      rw [if_pos rfl]
      by_cases hz : ids.getD 0 0 = 0
      · rw [if_pos hz, decide_eq_false (by omega), Bool.false_and]
      · rw [if_neg hz, if_neg (by omega), w1, hn, decide_eq_true (by omega), Bool.true_and]
    · have hq := hp (i - 1) (by omega)
      have w2 : wrap64 ((i : Int) - 1) = ((i - 1 : Nat) : Int) := by unfold wrap64; omega
      rw [if_neg hi0]
      by_cases hz : ids.getD i 0 = 0
      · rw [if_pos hz, decide_eq_false (by omega), Bool.false_and]
      · rw [if_neg hz, if_pos (by omega), w2, if_pos (by omega), if_pos (by omega), rdi_nat]
        by_cases hc : ids.getD (i - 1) 0 ≥ ids.getD i 0
        · rw [if_pos hc, decide_eq_false (by omega), Bool.false_and]
        · rw [if_neg hc, w1, hn, decide_eq_true (by omega), Bool.true_and]
theorem right_eq (ids : List Int) (h0 : ∀ x ∈ ids, 0 ≤ x) (hl : ids.length ≤ 140737488351232) {k : Nat} (hk : ids.length + 1 ≤ k) : winnowref08_Right.f k ids = some (riseB 0 ids) := by
  unfold winnowref08_Right.f
  have := right_l0 ids h0 hl ids.length k 0 (by omega) hk
  rw [if_pos rfl, List.drop_zero] at this
  exact this
theorem rise_above : ∀ {ids : List Int} {a : Int}, riseB a ids = true → ∀ x ∈ ids, a < x
  | [], _, _, x, hx => absurd hx (by simp)
  | y :: l, a, h, x, hx => by
    rw [riseB, Bool.and_eq_true, decide_eq_true_eq] at h
    rcases List.mem_cons.1 hx with e | e
    · rw [e]; exact h.1
    · exact Int.lt_trans h.1 (rise_above h.2 x e)
theorem rise_weak {ids : List Int} {a b : Int} (h : riseB a ids = true) (hb : b ≤ a) : riseB b ids = true := by
  cases ids with
  | nil => rfl
  | cons y l =>
    rw [riseB, Bool.and_eq_true, decide_eq_true_eq] at h ⊢
    exact ⟨by omega, h.2⟩
theorem rise_take : ∀ {ids : List Int} {a : Int} (n : Nat), riseB a ids = true → riseB a (ids.take n) = true
  | _, _, 0, _ => rfl
  | [], _, n + 1, _ => rfl
  | y :: l, a, n + 1, h => by
    rw [riseB, Bool.and_eq_true] at h
    rw [List.take_succ_cons, riseB, Bool.and_eq_true]
    exact ⟨h.1, rise_take n h.2⟩
theorem rise_drop : ∀ {ids : List Int} {a : Int} (n : Nat), riseB a ids = true → riseB a (ids.drop n) = true
  | _, _, 0, h => h
  | [], _, n + 1, _ => rfl
  | y :: l, a, n + 1, h => by
    rw [riseB, Bool.and_eq_true, decide_eq_true_eq] at h
    rw [List.drop_succ_cons]
    exact rise_drop n (rise_weak h.2 (by omega))
/-! ### whose a number is: the least point that is not below it, or the least of all -/
def Own1 (r : List S43) (n : Int) (p : S43) : Prop := p ∈ r ∧ ((n ≤ p.f0 ∧ ∀ q ∈ r, n ≤ q.f0 → ltP q p = false) ∨ ((∀ q ∈ r, q.f0 < n) ∧ ∀ q ∈ r, ltP q p = false))
theorem own_perm {r s : List S43} {n : Int} {p : S43} (h : Own1 r n p) (hp : r.Perm s) : Own1 s n p :=
  ⟨hp.mem_iff.1 h.1, h.2.imp (fun ⟨a, b⟩ => ⟨a, fun q hq => b q (hp.mem_iff.2 hq)⟩) (fun ⟨a, b⟩ => ⟨fun q hq => a q (hp.mem_iff.2 hq), fun q hq => b q (hp.mem_iff.2 hq)⟩)⟩
theorem own_at {r : List S43} (hs : SrtP r) (n : Int) (h : r ≠ []) : ∃ p, Own1 r n p ∧ p.f1 = ofV r n := by
  have hpos : 0 < r.length := List.length_pos_iff.2 h
  have hle := firstGe_le r n
  have hsp : r = r.takeWhile (fun p => decide (p.f0 < n)) ++ r.dropWhile (fun p => decide (p.f0 < n)) := List.takeWhile_append_dropWhile.symm
  have htl : (r.takeWhile fun p => decide (p.f0 < n)).length = firstGe r n := rfl
  have hall : ∀ q ∈ r.takeWhile (fun p => decide (p.f0 < n)), q.f0 < n := fun q hq => by
    have := List.all_takeWhile (p := fun p : S43 => decide (p.f0 < n)) (l := r)
    exact of_decide_eq_true (List.all_eq_true.1 this q hq)
  rcases hd : r.dropWhile (fun p => decide (p.f0 < n)) with _ | ⟨p, t⟩
  · rw [hd, List.append_nil] at hsp
    have e : firstGe r n = r.length := by rw [← htl, ← hsp]
    rcases hr : r with _ | ⟨p, t⟩
    · exact absurd hr h
    · refine ⟨p, ⟨List.mem_cons_self .., .inr ⟨fun q hq => hall q (by rw [← hsp, hr]; exact hq), fun q hq => ?_⟩⟩, ?_⟩
      · rcases List.mem_cons.1 hq with e2 | e2
        · rw [e2]; exact ltP_irr p
        · unfold SrtP at hs
          rw [hr] at hs
          exact (List.pairwise_cons.1 hs).1 q e2
      · unfold ofV
        rw [if_neg (by simp), ← hr, if_pos e, hr]
        rfl
  · have hpn : ¬ p.f0 < n := by
      have h2 := List.head?_dropWhile_not (fun p : S43 => decide (p.f0 < n)) r
      rw [hd] at h2
      simpa using h2
    rw [hd] at hsp
    have e : firstGe r n ≠ r.length := by
      intro e
      have := congrArg List.length hsp
      rw [List.length_append, htl, List.length_cons] at this
      omega
    refine ⟨p, ⟨by rw [hsp]; simp, .inl ⟨by omega, fun q hq hqn => ?_⟩⟩, ?_⟩
    · rw [hsp] at hq
      rcases List.mem_append.1 hq with e2 | e2
      · have := hall q e2; omega
      · rcases List.mem_cons.1 e2 with e3 | e3
        · rw [e3]; exact ltP_irr p
        · unfold SrtP at hs
          rw [hsp] at hs
          exact (List.pairwise_cons.1 (List.pairwise_append.1 hs).2.1).1 q e3
    · unfold ofV
      rw [if_neg h, if_neg e, ← htl]
      generalize r.takeWhile (fun p => decide (p.f0 < n)) = A at hsp
      subst hsp
      simp [List.getD_eq_getElem?_getD]
theorem own_sub {r s : List S43} {n : Int} {p q : S43} (hr : Own1 r n p) (hs : ∀ x ∈ s, x ∈ r) (hp : p ∈ s) (hq : Own1 s n q) : p = q := by
  obtain ⟨hpr, h1⟩ := hr
  obtain ⟨hqs, h2⟩ := hq
  rcases h1 with ⟨a, b⟩ | ⟨a, b⟩ <;> rcases h2 with ⟨c, d⟩ | ⟨c, d⟩
  · exact tot_P p q (d p hp a) (b q (hs q hqs) c)
  · have := c p hp; omega
  · have := a q (hs q hqs); omega
  · exact tot_P p q (d p hp) (b q (hs q hqs))
end Go.Proofs.Ytijeeghilogjdaa.PAll
