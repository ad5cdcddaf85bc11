/-
  The plain law SpanOrder: the reference's sort puts each element where it belongs, and there is but one such row.
  Conditions: none.
-/
import Derived.KernelRfl
import Derived.Test.YtigcdbeaachkoaaSpanSymPure
import Derived.Test.YtigcdbeaachkoaaPAllx20
import Derived.Test.YtigcdbeaachkoaaPAllx21
import Derived.Test.YtigcdbeaachkoaaPAllx3
import Derived.Test.YtigcdbeaachkoaaPAllx4
import Derived.Test.YtigcdbeaachkoaaPAllx8
namespace Go.Proofs.Ytigcdbeaachkoaa.PAll
open Go.RowKit Go.Proofs.YtigcdbeaachkoaaW.PrintWords Go.Proofs.YtigcdbeaachkoaaW.PrintLast Go.Proofs.YtigcdbeaachkoaaW.PrintMore
open Go.Proofs.Ytigcdbeaachkoaa.Stable
set_option linter.unusedVariables false
set_option linter.unusedSimpArgs false
theorem alive_or : winnowlaw03_alive.f = some true := by kernel_rfl
theorem oless_eq (a b : S28) {k : Nat} (hk : 3 ≤ k) : span_Less.f k a.f0 a.f1 a.f2 a.f3 a.f4 a.f5 a.f6 a.f7 b.f0 b.f1 b.f2 b.f3 b.f4 b.f5 b.f6 b.f7 = some (ltS a b) := by
  unfold span_Less.f
  rw [sord_eq a b hk]
  simp only [Option.bind_some, Option.some.injEq]
  rw [Bool.eq_iff_iff, decide_eq_true_eq]
  exact ord_lt a b
theorem rless_eq (a b : S28) : winnowref03_Less.f a.f0 a.f1 a.f2 a.f3 a.f4 a.f5 a.f6 a.f7 b.f0 b.f1 b.f2 b.f3 b.f4 b.f5 b.f6 b.f7 = some (ltS a b) := by
  unfold winnowref03_Less.f ltS
  by_cases h : a.f3 < b.f3
  · simp [h]
  · by_cases h1 : a.f3 = b.f3
    · simp [h1]
    · simp [h, h1]
theorem ref_in (l : List S28) (i : Nat) (hi : i < l.length) (hl : l.length ≤ 100) (n : Nat) : ∀ (x1 x2 : List S28) (k : Nat), x1.length = n → Srt ltS (x1 ++ x2) → (∀ c ∈ x2, ltS (l.getD i z28) c = true) → x1.length + x2.length ≤ 100 → n + 1 ≤ k →
    ∃ z k', Srt ltS z ∧ Same ltS (x1 ++ x2 ++ [l.getD i z28]) z ∧ k ≤ k' + n + 1 ∧ winnowref03_Sort.l1 k l (x1 ++ x2) i n = winnowref03_Sort.l0 k' l z ((i + 1 : Nat) : Int) := by
  induction n with
  | zero =>
    intro x1 x2 k h1 hs hx hlen hk
    obtain ⟨k, rfl⟩ : ∃ q, k = q + 1 := ⟨k - 1, by omega⟩
    obtain rfl : x1 = [] := List.length_eq_zero_iff.1 h1
    obtain ⟨g1, g2⟩ := insert_ok swS hs (e := l.getD i z28) (fun a ha => absurd ha (by simp)) hx
    simp only [List.length_nil] at hlen
    refine ⟨_, k, g1, g2, by omega, ?_⟩
    rw [winnowref03_Sort.l1, if_neg (by omega)]
    simp only [Option.bind_some, List.nil_append, Int.toNat_natCast, List.take_zero, List.drop_zero, List.length_nil]
    repeat rw [if_pos (by first | omega | (simp only [List.length_append, List.length_nil, List.length_cons]; omega))]
    rw [wadd1 (by omega)]
    rfl
  | succ n ih =>
    intro x1 x2 k h1 hs hx hlen hk
    obtain ⟨k, rfl⟩ : ∃ q, k = q + 1 := ⟨k - 1, by omega⟩
    obtain ⟨y, a, rfl⟩ : ∃ y a, x1 = y ++ [a] := ⟨x1.dropLast, x1.getLast (fun e => by rw [e] at h1; cases h1), (List.dropLast_concat_getLast _).symm⟩
    have hy : y.length = n := by simpa using h1
    have e3 : y ++ [a] ++ x2 = y ++ a :: x2 := by simp
    have ht : (y ++ a :: x2).take (n + 1) = y ++ [a] := by rw [← e3]; exact List.take_left' h1
    have hd : (y ++ a :: x2).drop (n + 1) = x2 := by rw [← e3]; exact List.drop_left' h1
    have hl3 : (y ++ a :: x2).length = n + 1 + x2.length := by simp [hy]; omega
    have hlen' : n + 1 + x2.length ≤ 100 := by rw [← h1]; exact hlen
    have hgt : ((n + 1 : Nat) : Int) > 0 := by omega
    have hw : wrap64 (((n + 1 : Nat) : Int) - 1) = (n : Int) := by rw [wsub1 (by omega) (by omega)]; rfl
    rw [e3] at hs ⊢
    have hstep : ∀ B : Option (List S28), (winnowref03_Less.f ((rd_T28 l i).f0) ((rd_T28 l i).f1) ((rd_T28 l i).f2) ((rd_T28 l i).f3) ((rd_T28 l i).f4) ((rd_T28 l i).f5) ((rd_T28 l i).f6) ((rd_T28 l i).f7) ((rd_T28 (y ++ a :: x2) n).f0) ((rd_T28 (y ++ a :: x2) n).f1) ((rd_T28 (y ++ a :: x2) n).f2) ((rd_T28 (y ++ a :: x2) n).f3) ((rd_T28 (y ++ a :: x2) n).f4) ((rd_T28 (y ++ a :: x2) n).f5) ((rd_T28 (y ++ a :: x2) n).f6) ((rd_T28 (y ++ a :: x2) n).f7)) = some (ltS (l.getD i z28) a) := fun _ => by
      rw [rless_eq, rd_nat, rd_nat, getD_at y a x2 z28 hy.symm]
    by_cases c : ltS (l.getD i z28) a = true
    · obtain ⟨z, k', g1, g2, g3, g4⟩ := ih y (a :: x2) k hy hs (fun b hb => by
        rcases List.mem_cons.1 hb with e | e
        · rw [e]; exact c
        · exact hx b e) (by simp only [List.length_cons]; omega) (by omega)
      refine ⟨z, k', g1, g2, by omega, ?_⟩
      rw [winnowref03_Sort.l1, if_pos hgt, if_pos (by omega), if_pos (by omega), hw, if_pos (by omega), if_pos (by rw [hl3]; omega), hstep none]
      simp only [Option.bind_some]
      rw [if_pos c]
      exact g4
    · obtain ⟨g1, g2⟩ := insert_ok swS (x1 := y ++ [a]) (x2 := x2) (by rw [e3]; exact hs) (e := l.getD i z28) (fun b hb => by
        have hc : ltS (l.getD i z28) a = false := Bool.eq_false_iff.2 c
        rcases List.mem_append.1 hb with e | e
        · exact swS.neg _ a _ hc (hs.cross b e a (List.mem_cons_self ..))
        · rw [List.mem_singleton.1 e]; exact hc) hx
      rw [e3] at g2
      refine ⟨_, k, g1, g2, by omega, ?_⟩
      rw [winnowref03_Sort.l1, if_pos hgt, if_pos (by omega), if_pos (by omega), hw, if_pos (by omega), if_pos (by rw [hl3]; omega), hstep none]
      simp only [Option.bind_some]
      rw [if_neg c]
      simp only [List.nil_append, Int.toNat_natCast, ht, hd]
      repeat rw [if_pos (by first | omega | (simp only [hl3, List.length_append, List.length_nil, List.length_cons, hy]; omega))]
      rw [wadd1 (by omega), List.append_assoc (y ++ [a])]
      rfl
theorem ref_out (l : List S28) (hl : l.length ≤ 100) (d : Nat) : ∀ (k i : Nat) (x : List S28), i + d = l.length → Srt ltS x → Same ltS (l.take i) x → d * 102 + 1 ≤ k → ∃ z, Srt ltS z ∧ Same ltS l z ∧ winnowref03_Sort.l0 k l x i = some z := by
  induction d with
  | zero =>
    intro k i x hi h1 h2 hk
    obtain ⟨k, rfl⟩ : ∃ q, k = q + 1 := ⟨k - 1, by omega⟩
    rw [List.take_of_length_le (by omega)] at h2
    refine ⟨x, h1, h2, ?_⟩
    rw [winnowref03_Sort.l0, if_neg (by omega)]
  | succ d ih =>
    intro k i x hi h1 h2 hk
    obtain ⟨k, rfl⟩ : ∃ q, k = q + 1 := ⟨k - 1, by omega⟩
    have hlx : x.length = i := by
      have := h2.1
      rw [List.length_take] at this
      omega
    obtain ⟨z, k', g1, g2, g3, g4⟩ := ref_in l i (by omega) hl x.length x [] k rfl (by rw [List.append_nil]; exact h1) (fun c hc => absurd hc (by simp)) (by simp only [List.length_nil]; omega) (by omega)
    rw [List.append_nil] at g2 g4
    have ht : l.take (i + 1) = l.take i ++ [l.getD i z28] := by
      rw [List.take_succ_eq_append_getElem (show i < l.length by omega)]
      congr 2
      simp [List.getD_eq_getElem?_getD, List.getElem?_eq_getElem (show i < l.length by omega)]
    obtain ⟨z2, f1, f2, f3⟩ := ih k' (i + 1) z (by omega) g1 (by rw [ht]; exact (h2.app (Same.refl _)).trans g2) (by omega)
    refine ⟨z2, f1, f2, ?_⟩
    rw [winnowref03_Sort.l0, if_pos (by omega), g4, f3]
theorem spans_refl (z : List S28) (hl : z.length ≤ 1000) (d : Nat) : ∀ (k i : Nat), i + d = z.length → d + 1 ≤ k → winnowref03_Spans.l0 k z z i = some true := by
  induction d with
  | zero =>
    intro k i hi hk
    obtain ⟨k, rfl⟩ : ∃ q, k = q + 1 := ⟨k - 1, by omega⟩
    rw [winnowref03_Spans.l0, if_neg (by omega)]
  | succ d ih =>
    intro k i hi hk
    obtain ⟨k, rfl⟩ : ∃ q, k = q + 1 := ⟨k - 1, by omega⟩
    rw [winnowref03_Spans.l0, if_pos (by omega), if_pos (by omega), if_pos (by omega), if_neg (by simp), wadd1 (by omega)]
    exact ih k (i + 1) (by omega) (by omega)
theorem SpanOrder (a0 a1 a2 a3 a4 : Int) (a5 a6 : ByteArray) (a7 : Bool) (b0 b1 b2 b3 b4 : Int) (b5 b6 : ByteArray) (b7 : Bool) (l : List S28) : ∃ k, winnowlaw03_SpanOrder.f k a0 a1 a2 a3 a4 a5 a6 a7 b0 b1 b2 b3 b4 b5 b6 b7 l = some true := by
  by_cases hl : l.length ≤ 100
  · refine ⟨KS l.length + 20000, ?_⟩
    obtain ⟨z, h1, h2, h3⟩ := stable_ok l (by omega) (k := KS l.length + 20000) (Nat.le_add_right _ _)
    obtain ⟨y, g1, g2, g3⟩ := ref_out l hl l.length (KS l.length + 20000) 0 [] (by omega) List.Pairwise.nil (Same.refl _) (by omega)
    have hz := h2.1
    obtain rfl : z = y := unique swS z y h1 g1 (h2.symm.trans g2)
    have e1 := oless_eq ⟨a0, a1, a2, a3, a4, a5, a6, a7⟩ ⟨b0, b1, b2, b3, b4, b5, b6, b7⟩ (k := KS l.length + 20000) (by omega)
    have e2 := rless_eq ⟨a0, a1, a2, a3, a4, a5, a6, a7⟩ ⟨b0, b1, b2, b3, b4, b5, b6, b7⟩
    simp only at e1 e2
    unfold winnowlaw03_SpanOrder.f
    rw [if_neg (by omega), e1, e2]
    simp only [Option.bind_some]
    rw [if_pos (beq_self_eq_true _)]
    unfold span_Same.f
    simp only [Option.bind_some]
    rw [if_pos (beq_self_eq_true _)]
    unfold span_Sort.f api_Span_41.f
    rw [if_pos (by omega)]
    simp only [Option.bind_some]
    rw [h3]
    simp only [Option.bind_some]
    unfold winnowref03_Sort.f
    rw [show winnowref03_Sort.l0 (KS l.length + 20000) l [] 0 = some z from g3]
    simp only [Option.bind_some]
    unfold winnowref03_Spans.f
    rw [if_pos rfl, show winnowref03_Spans.l0 (KS l.length + 20000) z z 0 = some true from spans_refl z (by omega) z.length _ 0 (by omega) (by omega)]
    simp only [Option.bind_some]
    rw [if_pos trivial, alive_or]
    rfl
  · refine ⟨0, ?_⟩
    unfold winnowlaw03_SpanOrder.f
    rw [if_pos (by omega), alive_or]
    rfl
end Go.Proofs.Ytigcdbeaachkoaa.PAll
