/-
  The plain law SpanCuts: what span.Cut computes is what the document's cut computes.
  Conditions: bytes are from 0 to 255.
-/
import Derived.Test.YtigcdbeaachkoaaSpanCutPure
import Derived.Test.YtigcdbeaachkoaaRefDef
import Derived.Test.YtigcdbeaachkoaaPAllx10
import Derived.Test.YtigcdbeaachkoaaPAllx11
import Derived.Test.YtigcdbeaachkoaaPAllx5
namespace Go.Proofs.Ytigcdbeaachkoaa.PAll
open Go.RowKit Go.Proofs.YtigcdbeaachkoaaW.PrintWords Go.Proofs.YtigcdbeaachkoaaW.PrintLast Go.Proofs.YtigcdbeaachkoaaW.PrintMore
set_option linter.unusedVariables false
set_option linter.unusedSimpArgs false

theorem Bytes.drop {l : List Int} (h : Bytes l) (n : Nat) : Bytes (l.drop n) := fun x hx => h x (List.mem_of_mem_drop hx)
theorem Bytes.take {l : List Int} (h : Bytes l) (n : Nat) : Bytes (l.take n) := fun x hx => h x (List.mem_of_mem_take hx)
theorem rd_byte {l : List Int} (h : Bytes l) (i : Nat) (hi : i < l.length) : 0 ≤ rd l i ∧ rd l i ≤ 255 := by
  have e : rd l i = l[i] := by simp [rd, List.getD_eq_getElem?_getD, List.getElem?_eq_getElem hi]
  rw [e]
  exact h _ (List.getElem_mem hi)
theorem wrapu64 {x : Int} (h0 : 0 ≤ x) (h1 : x < 18446744073709551616) : IntKind.u64.wrap x = x := by
  simp [IntKind.wrap, IntKind.signed, IntKind.bits]
  omega
theorem number_tells {l : List Int} (hb : Bytes l) (h8 : 8 ≤ l.length) (d : Nat) : ∀ (k i : Nat), i ≤ 8 → 8 - i = d → d < k → winnowref03_Number.l0 k l (num_U64.to l i) (i : Int) = some (num_U64.to l 8) := by
  induction d with
  | zero =>
    intro k i hi hd hk
    obtain ⟨k, rfl⟩ : ∃ j, k = j + 1 := ⟨k - 1, by omega⟩
    have : i = 8 := by omega
    subst this
    rw [winnowref03_Number.l0, if_neg (by decide)]
  | succ d ih =>
    intro k i hi hd hk
    obtain ⟨k, rfl⟩ : ∃ j, k = j + 1 := ⟨k - 1, by omega⟩
    obtain ⟨t0, t1⟩ := num_U64.to_bd l (fun j hj => rd_byte hb j (by omega)) i (by omega)
    obtain ⟨b0, b1⟩ := rd_byte hb i (by omega)
    have g : (256 : Int) ^ i ≤ 72057594037927936 := by
      have hc : i = 0 ∨ i = 1 ∨ i = 2 ∨ i = 3 ∨ i = 4 ∨ i = 5 ∨ i = 6 ∨ i = 7 := by omega
      rcases hc with rfl | rfl | rfl | rfl | rfl | rfl | rfl | rfl <;> decide
    have hw : wrap64 ((i : Int) + 1) = ((i + 1 : Nat) : Int) := by unfold wrap64; omega
    rw [winnowref03_Number.l0, if_pos (by omega), if_pos (by omega), if_pos (by omega), wrapu64 (x := num_U64.to l i * 256) (by omega) (by omega), wrapu64 (x := rd l i) (by omega) (by omega), wrapu64 (by omega) (by omega), hw]
    exact ih k (i + 1) (by omega) (by omega) (by omega)
theorem rnumber_eq {l : List Int} (hb : Bytes l) (h8 : 8 ≤ l.length) {k : Nat} (hk : 9 ≤ k) : winnowref03_Number.f k l = some (num_U64.to l 8) := number_tells hb h8 8 k 0 (by omega) rfl (by omega)
theorem to_take (l : List Int) : num_U64.to (l.take 8) 8 = num_U64.to l 8 := by
  have g : ∀ j : Nat, j < 8 → rd (l.take 8) j = rd l j := by
    intro j hj
    unfold rd
    simp only [Int.toNat_natCast, List.getD_eq_getElem?_getD]
    rw [List.getElem?_take_of_lt hj]
  simp only [num_U64.to]
  rw [g 0 (by omega), g 1 (by omega), g 2 (by omega), g 3 (by omega), g 4 (by omega), g 5 (by omega), g 6 (by omega), g 7 (by omega)]
theorem nm_long {l : List Int} (hb : Bytes l) (h8 : 8 ≤ l.length) : span_Cut.nm l 0 = some (num_U64.to l 8, l.drop 8, 0) := by
  unfold span_Cut.nm span_Cut.tk
  rw [if_pos rfl, if_neg (by omega)]
  unfold num_U64.f
  rw [if_pos ⟨by simp; omega, fun x hx => hb x (List.mem_of_mem_take (List.mem_of_mem_take hx))⟩, to_take]
  rfl
theorem nm_short {l : List Int} (h8 : l.length < 8) : span_Cut.nm l 0 = some (0, l, 3) := by
  unfold span_Cut.nm span_Cut.tk
  rw [if_pos rfl, if_pos h8, zeros8]
  rfl
theorem tk_k {rest : List Int} {k : Int} (h : k ≠ 0) (n : Nat) : span_Cut.tk rest k n = (List.replicate n 0, rest, k) := by
  unfold span_Cut.tk
  rw [if_neg h]
theorem sm_k {rest : List Int} {k : Int} (h : k ≠ 0) (lo hi : Int) : (span_Cut.sm rest k lo hi).2.2 = k := by
  unfold span_Cut.sm
  rw [tk_k h]
  simp only [h, false_and, if_false]
theorem tx_k {rest : List Int} {k : Int} (h : k ≠ 0) : (span_Cut.tx rest k).2.2 = k := by
  have := sm_k h (rest := rest) 1 32
  unfold span_Cut.tx
  rw [if_neg (by rw [this]; exact h)]
  exact this
/-- A text of what is left. -/
theorem ctext {r : List Int} (hb : Bytes r) (hl : r.length ≤ 1000000) {k : Nat} (hk : 2 ≤ k) : ∃ s q kk, winnowref03_cutText.f k r = some (s, q, kk) ∧ (kk = 0 → span_Cut.tx r 0 = (s, q, 0) ∧ Bytes q ∧ q.length ≤ r.length) ∧ (kk ≠ 0 → (span_Cut.tx r 0).2.2 = kk) := by
  obtain ⟨k, rfl⟩ : ∃ j, k = j + 1 := ⟨k - 1, by omega⟩
  unfold winnowref03_cutText.f
  by_cases h0 : r.length = 0
  · rw [if_pos (by omega)]
    obtain rfl := List.eq_nil_of_length_eq_zero h0
    exact ⟨_, _, _, rfl, fun h => absurd h (by decide), fun _ => rfl⟩
  rw [if_neg (by omega), if_pos (by omega)]
  obtain ⟨c, t, rfl⟩ : ∃ c t, r = c :: t := by
    cases r with
    | nil => exact absurd rfl h0
    | cons c t => exact ⟨c, t, rfl⟩
  have hc := hb c (List.mem_cons_self ..)
  have e0 : rd (c :: t) 0 = c := rfl
  have hw : wrap64 c = c := by unfold wrap64; omega
  have ht : span_Cut.tk (c :: t) 0 1 = ([c], t, 0) := by
    unfold span_Cut.tk
    rw [if_pos rfl, if_neg (by simp)]
    rfl
  have hs : span_Cut.sm (c :: t) 0 1 32 = (c, t, if c < 1 ∨ 32 < c then 6 else 0) := by
    unfold span_Cut.sm
    rw [ht]
    have e : rd [c] 0 = c := rfl
    simp only [e, true_and]
  have h6 : winnowref03_cutText.j0 (k + 1) (c :: t) c true = some (⟨#[]⟩, [], 6) := by rw [winnowref03_cutText.j0, if_pos rfl]
  rw [e0, hw]
  by_cases g : c < 1 ∨ 32 < c
  · have e6 : (if c < 1 then (winnowref03_cutText.j0 (k + 1) (c :: t) c true) else (winnowref03_cutText.j0 (k + 1) (c :: t) c (decide (c > 32)))) = some (⟨#[]⟩, [], 6) := by
      split
      · exact h6
      · rw [decide_eq_true (by omega)]; exact h6
    rw [e6]
    refine ⟨_, _, _, rfl, fun h => absurd h (by decide), fun _ => ?_⟩
    unfold span_Cut.tx
    rw [hs, if_pos g, if_neg (show ¬ ((6 : Int) = 0) by decide)]
  · rw [if_neg (by omega), decide_eq_false (by omega), winnowref03_cutText.j0, if_neg (by decide)]
    have w1 : wrap64 ((((c :: t).length : Nat) : Int) - 1) = (t.length : Int) := by simp [wrap64]; simp at hl; omega
    have w2 : wrap64 (c + 1) = c + 1 := by unfold wrap64; omega
    rw [w1, w2]
    have htx : span_Cut.tx (c :: t) 0 = (strOfNums (span_Cut.tk t 0 c.toNat).1, (span_Cut.tk t 0 c.toNat).2) := by
      unfold span_Cut.tx
      rw [hs, if_neg g]
      simp only [if_true]
    by_cases g2 : (t.length : Int) < c
    · rw [if_pos g2]
      refine ⟨_, _, _, rfl, fun h => absurd h (by decide), fun _ => ?_⟩
      rw [htx]
      unfold span_Cut.tk
      rw [if_pos rfl, if_pos (by omega)]
    · rw [if_neg g2, if_pos (by omega), if_pos (by simp; omega), if_pos (by omega)]
      have e1 : (c + 1).toNat = c.toNat + 1 := by omega
      refine ⟨_, _, _, rfl, fun _ => ⟨?_, hb.drop _, by simp⟩, fun h => absurd rfl h⟩
      rw [htx]
      unfold span_Cut.tk
      rw [if_pos rfl, if_neg (by omega), e1]
      simp
/-- The document's cut is the program's. -/
theorem cuts_eq {l : List Int} (hb : Bytes l) (hl : l.length ≤ 1000000) {k : Nat} (hk : 200 ≤ k) : winnowref03_Cut.f k l = span_Cut.f l := by
  have bad : ¬ ((3 : Int) = 0) := by decide
  unfold winnowref03_Cut.f span_Cut.f
  by_cases h41 : l.length < 41
  · rw [if_pos (by omega)]
    by_cases c0 : l.length < 8
    · rw [nm_short c0]
      simp only [Option.bind_some, nm_bad, sm_bad, tx_bad, bad, if_false]
    rw [nm_long hb (by omega)]
    simp only [Option.bind_some]
    by_cases c1 : (l.drop 8).length < 8
    · rw [nm_short c1]
      simp only [Option.bind_some, nm_bad, sm_bad, tx_bad, bad, if_false]
    rw [nm_long (hb.drop _) (by omega)]
    simp only [Option.bind_some]
    by_cases c2 : ((l.drop 8).drop 8).length < 8
    · rw [nm_short c2]
      simp only [Option.bind_some, nm_bad, sm_bad, tx_bad, bad, if_false]
    rw [nm_long ((hb.drop _).drop _) (by omega)]
    simp only [Option.bind_some]
    by_cases c3 : (((l.drop 8).drop 8).drop 8).length < 8
    · rw [nm_short c3]
      simp only [Option.bind_some, nm_bad, sm_bad, tx_bad, bad, if_false]
    rw [nm_long (((hb.drop _).drop _).drop _) (by omega)]
    simp only [Option.bind_some]
    by_cases c4 : ((((l.drop 8).drop 8).drop 8).drop 8).length < 8
    · rw [nm_short c4]
      simp only [Option.bind_some, sm_bad, tx_bad, bad, if_false]
    rw [nm_long ((((hb.drop _).drop _).drop _).drop _) (by omega)]
    simp only [Option.bind_some]
    have e : ((((l.drop 8).drop 8).drop 8).drop 8).drop 8 = [] := by
      apply List.drop_eq_nil_of_le
      simp at c4 ⊢
      omega
    rw [e]
    have es : span_Cut.sm [] 0 0 1 = (0, [], 3) := rfl
    rw [es]
    simp only [tx_bad, bad, if_false, Option.bind_some]
  rw [if_neg (by omega), rnumber_eq hb (by omega) (by omega), nm_long hb (by omega)]
  simp only [Option.bind_some]
  rw [if_pos (by omega), rnumber_eq (hb.drop 8) (by simp; omega) (by omega), nm_long (hb.drop 8) (by simp; omega)]
  simp only [Option.bind_some, List.drop_drop, Nat.reduceAdd]
  rw [if_pos (by omega), rnumber_eq (hb.drop 16) (by simp; omega) (by omega), nm_long (hb.drop 16) (by simp; omega)]
  simp only [Option.bind_some, List.drop_drop, Nat.reduceAdd]
  rw [if_pos (by omega), rnumber_eq (hb.drop 24) (by simp; omega) (by omega), nm_long (hb.drop 24) (by simp; omega)]
  simp only [Option.bind_some, List.drop_drop, Nat.reduceAdd]
  rw [if_pos (by omega), rnumber_eq (hb.drop 32) (by simp; omega) (by omega), nm_long (hb.drop 32) (by simp; omega)]
  simp only [Option.bind_some, List.drop_drop, Nat.reduceAdd]
  rw [if_pos (by omega)]
  have hc : 0 ≤ rd l 40 ∧ rd l 40 ≤ 255 := rd_byte hb 40 (by omega)
  have hd40 : l.drop 40 = rd l 40 :: l.drop 41 := by
    have := drop_rd1 l 40 (by omega) (by omega)
    simpa using this
  have hs : span_Cut.sm (l.drop 40) 0 0 1 = (rd l 40, l.drop 41, if 1 < rd l 40 then 6 else 0) := by
    rw [hd40]
    unfold span_Cut.sm span_Cut.tk
    rw [if_pos rfl, if_neg (by simp)]
    have e : rd (List.take 1 (rd l 40 :: List.drop 41 l)) 0 = rd l 40 := rfl
    rw [e]
    simp only [true_and]
    have e2 : (rd l 40 < 0 ∨ 1 < rd l 40) ↔ 1 < rd l 40 := ⟨fun h => h.elim (fun h => by omega) id, .inr⟩
    simp only [e2]
    rfl
  rw [hs]
  by_cases g : 1 < rd l 40
  · have h6 : ¬ ((6 : Int) = 0) := by decide
    rw [if_pos g, if_pos g]
    simp only [tx_k h6, h6, if_false, Option.bind_some]
  rw [if_neg g, if_neg g, if_pos (by omega)]
  obtain ⟨s, q, kk, e1, y1, n1⟩ := ctext (r := l.drop 41) (hb.drop 41) (by simp; omega) (k := k) (by omega)
  rw [e1]
  simp only [Option.bind_some]
  by_cases z1 : kk = 0
  · subst z1
    obtain ⟨t1, bq, lq⟩ := y1 rfl
    rw [if_pos rfl, t1]
    obtain ⟨s2, q2, kk2, e2, y2, n2⟩ := ctext (r := q) bq (by simp at lq; omega) (k := k) (by omega)
    rw [e2]
    simp only [Option.bind_some]
    by_cases z2 : kk2 = 0
    · subst z2
      obtain ⟨t2, bq2, lq2⟩ := y2 rfl
      rw [if_pos rfl, t2]
      simp only [if_true]
      rw [rright_eq _ _ _ _ _ _ _ _ (by omega), right_eq _ _ _ _ _ _ _ _ (by omega)]
      obtain ⟨v, hv⟩ := rightN_some (num_U64.to l 8) (num_U64.to (l.drop 8) 8) (num_U64.to (l.drop 24) 8) (num_U64.to (l.drop 32) 8) s s2
      rw [hv]
      simp only [Option.bind_some]
      by_cases z3 : v = 0
      · rw [if_pos z3, if_pos z3]
        unfold slices_Clone_byte_byte.f
        rw [if_pos (by simp at lq; omega)]
        rfl
      · rw [if_neg z3, if_neg z3]
    · rw [if_neg z2]
      have := n2 z2
      simp only [this, z2, if_false, Option.bind_some]
  · rw [if_neg z1]
    have := n1 z1
    simp only [this, tx_k z1, z1, if_false, Option.bind_some]
end Go.Proofs.Ytigcdbeaachkoaa.PAll
