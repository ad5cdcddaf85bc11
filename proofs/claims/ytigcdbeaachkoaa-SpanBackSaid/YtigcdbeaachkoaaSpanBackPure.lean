/-
  What is cut is put as it was: the bytes of what span.Cut told.
  Conditions: bytes are from 0 to 255.
-/
import Derived.Test.YtigcdbeaachkoaaSpanCutsPure
namespace Go.Proofs.Ytigcdbeaachkoaa.PAll
open Go.RowKit Go.Proofs.YtigcdbeaachkoaaW.PrintWords Go.Proofs.YtigcdbeaachkoaaW.PrintLast Go.Proofs.YtigcdbeaachkoaaW.PrintMore
set_option linter.unusedVariables false
set_option linter.unusedSimpArgs false

theorem bytes_str {l : List Int} (hb : Bytes l) : bytesOf (strOfNums l) = l := by
  unfold bytesOf
  rw [strOfNums_data, List.map_map]
  have : ∀ x ∈ l, ((fun b : UInt8 => (b.toNat : Int)) ∘ fun n : Int => UInt8.ofNat n.toNat) x = x := by
    intro x hx
    have := hb x hx
    simp
    omega
  conv => rhs; rw [← List.map_id l]
  exact List.map_congr_left this
theorem ctext_inv {r : List Int} (hb : Bytes r) (hl : r.length ≤ 1000000) {k : Nat} {s : ByteArray} {q : List Int} (h : winnowref03_cutText.f k r = some (s, q, 0)) : r = txt s ++ q := by
  unfold winnowref03_cutText.f at h
  by_cases h0 : (r.length : Int) = 0
  · rw [if_pos h0] at h; simp at h
  rw [if_neg h0, if_pos (by omega)] at h
  obtain ⟨c, t, rfl⟩ : ∃ c t, r = c :: t := by
    cases r with
    | nil => simp at h0
    | cons c t => exact ⟨c, t, rfl⟩
  have hc := hb c (List.mem_cons_self ..)
  have e0 : rd (c :: t) 0 = c := rfl
  have hw : wrap64 c = c := by unfold wrap64; omega
  rw [e0, hw] at h
  cases k with
  | zero => split at h <;> simp [winnowref03_cutText.j0] at h
  | succ k =>
    have h6 : winnowref03_cutText.j0 (k + 1) (c :: t) c true = some (⟨#[]⟩, [], 6) := by rw [winnowref03_cutText.j0, if_pos rfl]
    by_cases g : c < 1
    · rw [if_pos g, h6] at h; simp at h
    rw [if_neg g] at h
    by_cases g1 : c > 32
    · rw [decide_eq_true g1, h6] at h; simp at h
    rw [decide_eq_false g1, winnowref03_cutText.j0, if_neg (by decide)] at h
    have w1 : wrap64 ((((c :: t).length : Nat) : Int) - 1) = (t.length : Int) := by simp [wrap64]; simp at hl; omega
    have w2 : wrap64 (c + 1) = c + 1 := by unfold wrap64; omega
    rw [w1, w2] at h
    by_cases g2 : (t.length : Int) < c
    · rw [if_pos g2] at h; simp at h
    rw [if_neg g2, if_pos (by omega), if_pos (by simp; omega), if_pos (by omega)] at h
    simp only [Option.some.injEq, Prod.mk.injEq] at h
    obtain ⟨rfl, rfl, _⟩ := h
    have e1 : (c + 1).toNat = c.toNat + 1 := by omega
    rw [e1, List.take_succ_cons, List.drop_succ_cons, List.drop_succ_cons, List.drop_zero]
    unfold txt
    rw [bytes_str (fun x hx => hb x (List.mem_cons_of_mem _ (List.mem_of_mem_take hx))), strOfNums_size, List.length_take, Nat.min_eq_left (by omega)]
    rw [show ((c.toNat : Nat) : Int) % 256 = c by omega]
    simp
theorem eight_back {l : List Int} (hb : Bytes l) (h8 : 8 ≤ l.length) : be8 (num_U64.to l 8) ++ l.drop 8 = l ∧ 0 ≤ num_U64.to l 8 ∧ num_U64.to l 8 < 18446744073709551616 := by
  obtain ⟨e, r⟩ := be8_u64 (hb.take 8) (by rw [List.length_take]; omega)
  rw [to_take] at e r
  exact ⟨by rw [e, List.take_append_drop], r⟩
/-- What is cut, put. -/
theorem cut_back {l : List Int} (hb : Bytes l) (hl : l.length ≤ 1000000) {r1 r2 r3 r4 r5 : Int} {r6 r7 : ByteArray} {r8 : Bool} {r9 : List Int} (h : span_Cut.f l = some (r1, r2, r3, r4, r5, r6, r7, r8, r9, 0)) :
    rightN r1 r2 r4 r5 r6 r7 = some 0 ∧ spanL r1 r2 r3 r4 r5 r6 r7 r8 ++ r9 = l ∧ ∀ x ∈ [r1, r2, r3, r4, r5], 0 ≤ x ∧ x < 18446744073709551616 := by
  rw [← cuts_eq hb hl (k := 1000) (by omega)] at h
  unfold winnowref03_Cut.f at h
  by_cases h41 : l.length < 41
  · rw [if_pos (by omega)] at h; simp at h
  rw [if_neg (by omega), rnumber_eq hb (by omega) (by omega)] at h
  simp only [Option.bind_some] at h
  rw [if_pos (by omega), rnumber_eq (hb.drop 8) (by simp; omega) (by omega)] at h
  simp only [Option.bind_some] at h
  rw [if_pos (by omega), rnumber_eq (hb.drop 16) (by simp; omega) (by omega)] at h
  simp only [Option.bind_some] at h
  rw [if_pos (by omega), rnumber_eq (hb.drop 24) (by simp; omega) (by omega)] at h
  simp only [Option.bind_some] at h
  rw [if_pos (by omega), rnumber_eq (hb.drop 32) (by simp; omega) (by omega)] at h
  simp only [Option.bind_some] at h
  rw [if_pos (by omega)] at h
  by_cases g : rd l 40 > 1
  · rw [if_pos g] at h; simp at h
  rw [if_neg g, if_pos (by omega)] at h
  obtain ⟨⟨s, q, kk⟩, e1, h⟩ := Option.bind_eq_some_iff.1 h
  simp only at h
  by_cases z1 : kk = 0
  · subst z1
    rw [if_pos rfl] at h
    obtain ⟨⟨s2, q2, kk2⟩, e2, h⟩ := Option.bind_eq_some_iff.1 h
    simp only at h
    by_cases z2 : kk2 = 0
    · subst z2
      rw [if_pos rfl] at h
      obtain ⟨v, hv, h⟩ := Option.bind_eq_some_iff.1 h
      by_cases z3 : v = 0
      · subst z3
        rw [if_pos rfl] at h
        simp only [Option.some.injEq, Prod.mk.injEq] at h
        obtain ⟨rfl, rfl, rfl, rfl, rfl, rfl, rfl, rfl, rfl, _⟩ := h
        rw [rright_eq _ _ _ _ _ _ _ _ (by omega)] at hv
        have t1 := ctext_inv (hb.drop 41) (by simp; omega) e1
        have bq : Bytes q := by
          have : q = (l.drop 41).drop (txt s).length := by rw [t1]; simp
          rw [this]
          exact (hb.drop 41).drop _
        have lq : q.length ≤ l.length := by
          have := congrArg List.length t1
          simp at this
          omega
        have t2 := ctext_inv bq (by omega) e2
        have hc : 0 ≤ rd l 40 ∧ rd l 40 ≤ 255 := rd_byte hb 40 (by omega)
        have hd40 : l.drop 40 = rd l 40 :: l.drop 41 := by
          have := drop_rd1 l 40 (by omega) (by omega)
          simpa using this
        obtain ⟨b0, p0⟩ := eight_back hb (by omega)
        obtain ⟨b1, p1⟩ := eight_back (hb.drop 8) (by simp; omega)
        obtain ⟨b2, p2⟩ := eight_back (hb.drop 16) (by simp; omega)
        obtain ⟨b3, p3⟩ := eight_back (hb.drop 24) (by simp; omega)
        obtain ⟨b4, p4⟩ := eight_back (hb.drop 32) (by simp; omega)
        rw [List.drop_drop] at b1 b2 b3 b4
        refine ⟨hv, ?_, ?_⟩
        · rw [spanL_assoc, ← t2, ← t1]
          have ef : (if (rd l 40 == 1) = true then (1 : Int) else 0) = rd l 40 := by
            by_cases e : rd l 40 = 1
            · rw [e]; rfl
            · have e' : rd l 40 = 0 := by omega
              rw [e']; rfl
          rw [ef, ← hd40, show l.drop 40 = l.drop (32 + 8) from rfl, b4, show l.drop 32 = l.drop (24 + 8) from rfl, b3, show l.drop 24 = l.drop (16 + 8) from rfl, b2, show l.drop 16 = l.drop (8 + 8) from rfl, b1, b0]
        · intro x hx
          simp only [List.mem_cons, List.not_mem_nil, or_false] at hx
          rcases hx with rfl | rfl | rfl | rfl | rfl
          · exact p0
          · exact p1
          · exact p2
          · exact p3
          · exact p4
      · rw [if_neg z3] at h
        simp only [Option.some.injEq, Prod.mk.injEq] at h
        exact absurd h.2.2.2.2.2.2.2.2.2 z3
    · rw [if_neg z2] at h
      simp only [Option.some.injEq, Prod.mk.injEq] at h
      exact absurd h.2.2.2.2.2.2.2.2.2 z2
  · rw [if_neg z1] at h
    simp only [Option.some.injEq, Prod.mk.injEq] at h
    exact absurd h.2.2.2.2.2.2.2.2.2 z1
/-- What is not cut is nothing. -/
theorem cut_none {l : List Int} {r1 r2 r3 r4 r5 : Int} {r6 r7 : ByteArray} {r8 : Bool} {r9 : List Int} {r10 : Int} (h : span_Cut.f l = some (r1, r2, r3, r4, r5, r6, r7, r8, r9, r10)) (hk : r10 ≠ 0) :
    r1 = 0 ∧ r2 = 0 ∧ r3 = 0 ∧ r4 = 0 ∧ r5 = 0 ∧ r6 = ⟨#[]⟩ ∧ r7 = ⟨#[]⟩ ∧ r8 = false ∧ r9 = [] := by
  unfold span_Cut.f at h
  obtain ⟨a, _, h⟩ := Option.bind_eq_some_iff.1 h
  obtain ⟨b, _, h⟩ := Option.bind_eq_some_iff.1 h
  obtain ⟨c, _, h⟩ := Option.bind_eq_some_iff.1 h
  obtain ⟨d, _, h⟩ := Option.bind_eq_some_iff.1 h
  obtain ⟨e, _, h⟩ := Option.bind_eq_some_iff.1 h
  obtain ⟨kd, _, h⟩ := Option.bind_eq_some_iff.1 h
  by_cases z : kd = 0
  · rw [if_pos z] at h
    obtain ⟨r, _, h⟩ := Option.bind_eq_some_iff.1 h
    simp only [Option.some.injEq, Prod.mk.injEq] at h
    exact absurd h.2.2.2.2.2.2.2.2.2.symm hk
  · rw [if_neg z] at h
    simp only [Option.some.injEq, Prod.mk.injEq] at h
    obtain ⟨rfl, rfl, rfl, rfl, rfl, rfl, rfl, rfl, rfl, _⟩ := h
    exact ⟨rfl, rfl, rfl, rfl, rfl, rfl, rfl, rfl, rfl⟩
end Go.Proofs.Ytigcdbeaachkoaa.PAll
