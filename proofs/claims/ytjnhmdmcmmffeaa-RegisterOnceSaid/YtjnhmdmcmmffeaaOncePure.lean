/-
  What the functions that RegisterOnce calls compute, told of registers as Paxos has them.
  Conditions: none beyond the ranges of Go's own kinds.
-/
import Derived.Test.YtjnhmdmcmmffeaaPaxos
import Derived.Test.YtjnhmdmcmmffeaaRegisterOCore
import Derived.Test.YtjnhmdmcmmffeaaPAllx4
import Derived.Test.YtjnhmdmcmmffeaaPAllx5
import Derived.Test.YtjnhmdmcmmffeaaPAllx6
namespace Go.Proofs.Ytjnhmdmcmmffeaa.PAll
open Go.RowKit Go.Proofs.YtjnhmdmcmmffeaaW.PrintWords Go.Proofs.YtjnhmdmcmmffeaaW.PrintLast Go.Proofs.YtjnhmdmcmmffeaaW.PrintMore
open Go.Proofs.Ytjnhmdmcmmffeaa.Paxos (cnt Rg Inv Asks Tells)
set_option linter.unusedVariables false
set_option linter.unusedSimpArgs false
/-- A ballot as one number. -/
def ky (a b : Int) : Int := a * 18446744073709551616 + b
def In64 (x : Int) : Prop := 0 ≤ x ∧ x ≤ 18446744073709551615
theorem ky_lt {a b c d : Int} (hb : In64 b) (hd : In64 d) : lt2 a b c d ↔ ky a b < ky c d := by
  unfold lt2 ky; unfold In64 at *; omega
theorem ky_eq {a b c d : Int} (hb : In64 b) (hd : In64 d) : (a = c ∧ b = d) ↔ ky a b = ky c d := by
  unfold ky; unfold In64 at *; omega
theorem ky_pos {a b : Int} (ha : 0 ≤ a) (hb : In64 b) : 0 ≤ ky a b := by
  unfold ky; unfold In64 at *; omega
def toRg (x : S42) : Rg := ⟨ky x.f0.f0 x.f0.f1, ky x.f1.f0 x.f1.f1, x.f2⟩
def stOf (L : List S42) : Paxos.St := fun k => toRg (L.getD k z42)
theorem stOf_set {L : List S42} {x : Nat} (hx : x < L.length) (y : S42) : stOf (L.set x y) = fun k => if k = x then toRg y else stOf L k := by
  funext k
  unfold stOf
  rw [List.getD_eq_getElem?_getD, List.getElem?_set]
  by_cases h : k = x
  · subst h; simp [hx]
  · rw [if_neg (fun e => h e.symm), if_neg h, List.getD_eq_getElem?_getD]
theorem stOf_same {L : List S42} {x : Nat} (hx : x < L.length) : L.set x (L.getD x z42) = L := by
  apply List.ext_getElem?
  intro k
  rw [List.getElem?_set]
  by_cases h : x = k
  · subst h; simp [hx, List.getD_eq_getElem?_getD]
  · rw [if_neg h]
/-- A register whose promise is not above m. -/
structure OkS (m : Nat) (x : S42) : Prop where
  p0 : 0 ≤ x.f0.f0 ∧ x.f0.f0 ≤ m
  p1 : In64 x.f0.f1
  t0 : In64 x.f1.f0
  t1 : In64 x.f1.f1
theorem OkS.up {m m' : Nat} {x : S42} (h : OkS m x) (hm : m ≤ m') : OkS m' x := ⟨⟨h.p0.1, by have := h.p0.2; omega⟩, h.p1, h.t0, h.t1⟩
theorem z42_ok (m : Nat) : OkS m z42 := by
  refine ⟨⟨by decide, ?_⟩, by unfold In64; decide, by unfold In64; decide, by unfold In64; decide⟩
  show (0 : Int) ≤ m
  omega
theorem getD_ok {m : Nat} {L : List S42} (h : ∀ x ∈ L, OkS m x) (k : Nat) : OkS m (L.getD k z42) := by
  rw [List.getD_eq_getElem?_getD]
  by_cases hk : k < L.length
  · rw [List.getElem?_eq_getElem hk]; exact h _ (List.getElem_mem hk)
  · rw [List.getElem?_eq_none (by omega)]; exact z42_ok m
theorem set_ok {m : Nat} {L : List S42} (h : ∀ x ∈ L, OkS m x) {i : Nat} {y : S42} (hy : OkS m y) : ∀ x ∈ L.set i y, OkS m x := fun x hx => by
  rcases List.mem_or_eq_of_mem_set hx with h1 | h1
  · exact h x h1
  · subst h1; exact hy
theorem wrap_small {x : Int} (h0 : 0 ≤ x) (h1 : x ≤ 1000000) : wrap64 x = x := by unfold wrap64; omega
theorem in_tells (l : List Int) (a : Int) (hl : l.length ≤ 1000) (d : Nat) : ∀ (k : Nat) (i : Nat), i + d = l.length → d < k → winnowlaw12_in.l0 k l a i = some (decide (a ∈ l.drop i)) := by
  induction d with
  | zero =>
    intro k i hi hk
    obtain ⟨k, rfl⟩ : ∃ j, k = j + 1 := ⟨k - 1, by omega⟩
    unfold winnowlaw12_in.l0
    rw [if_neg (by omega), List.drop_eq_nil_of_le (by omega)]
    simp
  | succ d ih =>
    intro k i hi hk
    obtain ⟨k, rfl⟩ : ∃ j, k = j + 1 := ⟨k - 1, by omega⟩
    have hlt : i < l.length := by omega
    have er : rd l (i : Int) = l[i] := by simp [rd, List.getD_eq_getElem?_getD, List.getElem?_eq_getElem hlt]
    unfold winnowlaw12_in.l0
    rw [if_pos (by omega), if_pos (by omega), er, List.drop_eq_getElem_cons hlt]
    by_cases he : l[i] = a
    · rw [if_pos he]; simp [he]
    · rw [if_neg he, wrap_small (by omega) (by omega), show ((i : Int) + 1) = ((i + 1 : Nat) : Int) from rfl, ih k (i + 1) (by omega) (by omega)]
      have : ¬ a = l[i] := fun e => he e.symm
      exact congrArg some (decide_eq_decide.mpr ⟨fun h => List.mem_cons_of_mem _ h, fun h => (List.mem_cons.1 h).resolve_left this⟩)
theorem in_eq (l : List Int) (a : Int) (hl : l.length ≤ 1000) : winnowlaw12_in.f 2000 l a = some (decide (a ∈ l)) := by
  have := in_tells l a hl l.length 2000 0 (by omega) (by omega)
  simpa [winnowlaw12_in.f] using this
theorem used_tells (l0 : List S69) (L : List S42) (b0 b1 : Int) (hl : L.length ≤ 1000) (d : Nat) : ∀ (k : Nat) (i : Nat), i + d = L.length → d < k →
    winnowlaw12_used.l0 k l0 L i b0 b1 = some ((L.drop i).any fun x => x.f1.f0 == b0 && x.f1.f1 == b1) := by
  induction d with
  | zero =>
    intro k i hi hk
    obtain ⟨k, rfl⟩ : ∃ j, k = j + 1 := ⟨k - 1, by omega⟩
    unfold winnowlaw12_used.l0
    rw [if_neg (by omega), List.drop_eq_nil_of_le (by omega), decide_eq_false (by omega)]
    rfl
  | succ d ih =>
    intro k i hi hk
    obtain ⟨k, rfl⟩ : ∃ j, k = j + 1 := ⟨k - 1, by omega⟩
    have hlt : i < L.length := by omega
    have er : rd_T42 L (i : Int) = L[i] := by simp [rd_T42, List.getD_eq_getElem?_getD, List.getElem?_eq_getElem hlt]
    unfold winnowlaw12_used.l0
    rw [if_pos (by omega), if_pos (by omega), er, List.drop_eq_getElem_cons hlt, List.any_cons]
    by_cases he : (L[i].f1.f0 == b0 && L[i].f1.f1 == b1) = true
    · rw [if_pos he, he]; rfl
    · rw [if_neg he, wrap_small (by omega) (by omega), show ((i : Int) + 1) = ((i + 1 : Nat) : Int) from rfl, ih k (i + 1) (by omega) (by omega), Bool.eq_false_iff.mpr he]
      rfl
theorem used_eq {m : Nat} (l0 : List S69) {L : List S42} {b0 b1 : Int} (hL : ∀ x ∈ L, OkS m x) (hb : In64 b1) (hl : L.length ≤ 1000) :
    ∃ r, winnowlaw12_used.f 2000 l0 L b0 b1 = some r ∧ (r = false → ∀ k, k < L.length → (stOf L k).t ≠ ky b0 b1) := by
  refine ⟨_, used_tells l0 L b0 b1 hl L.length 2000 0 (by omega) (by omega), fun hr k hk he => ?_⟩
  have := (ky_eq (getD_ok hL k).t1 hb).2 he
  rw [List.drop_zero, List.any_eq_false] at hr
  have hm : L.getD k z42 ∈ L := by
    rw [List.getD_eq_getElem?_getD, List.getElem?_eq_getElem hk]; exact List.getElem_mem hk
  exact hr _ hm (by simpa using this)
def mq (L : List S42) (i : Nat) (k : Nat) : Bool := !((L.getD k z42).f2 == 0) && ((L.getD k z42).f1.f0 == (L.getD i z42).f1.f0 && (L.getD k z42).f1.f1 == (L.getD i z42).f1.f1) && (L.getD k z42).f2 == (L.getD i z42).f2
theorem most_l1 (L : List S42) (hn : L.length ≤ 1000) (i : Nat) (hi : i < L.length) (d : Nat) : ∀ (F j : Nat), j + d = L.length → d + 1 ≤ F →
    winnowlaw12_most.l1 F L i (cnt j (mq L i)) j = if L.length < 2 * cnt L.length (mq L i) then some (L.getD i z42).f2 else winnowlaw12_most.l0 (F - (d + 1)) L ((i + 1 : Nat) : Int) := by
  induction d with
  | zero =>
    intro F j hj hF
    obtain ⟨F, rfl⟩ : ∃ f, F = f + 1 := ⟨F - 1, by omega⟩
    obtain rfl : j = L.length := by omega
    have hc := Paxos.cnt_le L.length (mq L i)
    unfold winnowlaw12_most.l1
    have er : rd_T42 L (i : Int) = L.getD i z42 := by simp [rd_T42]
    rw [if_neg (by omega), wrap_small (x := 2 * (cnt L.length (mq L i) : Int)) (by omega) (by omega), wrap_small (x := (i : Int) + 1) (by omega) (by omega)]
    by_cases h : L.length < 2 * cnt L.length (mq L i)
    · rw [if_pos h, if_pos (show 2 * (cnt L.length (mq L i) : Int) > (L.length : Int) by omega), if_pos (show 0 ≤ (i : Int) by omega), if_pos (show (i : Int) < (L.length : Int) by omega), er]
    · rw [if_neg h, if_neg (show ¬ 2 * (cnt L.length (mq L i) : Int) > (L.length : Int) by omega)]; rfl
  | succ d ih =>
    intro F j hj hF
    obtain ⟨F, rfl⟩ : ∃ f, F = f + 1 := ⟨F - 1, by omega⟩
    have hlt : j < L.length := by omega
    have hc := Paxos.cnt_le j (mq L i)
    have er : rd_T42 L (i : Int) = L.getD i z42 := by simp [rd_T42]
    have ej : rd_T42 L (j : Int) = L.getD j z42 := by simp [rd_T42]
    have hs : cnt (j + 1) (mq L i) = cnt j (mq L i) + (if mq L i j = true then 1 else 0) := rfl
    have hstep := ih F (j + 1) (by omega) (by omega)
    unfold winnowlaw12_most.l1
    rw [show F + 1 - (d + 1 + 1) = F - (d + 1) by omega, ← hstep]
    have hz : ((cnt j (mq L i) + 1 : Nat) : Int) = (cnt j (mq L i) : Int) + 1 := by omega
    rw [if_pos (by omega), if_pos (by omega), er, ej, wrap_small (x := (j : Int) + 1) (by omega) (by omega), wrap_small (x := (cnt j (mq L i) : Int) + 1) (by omega) (by omega), if_pos (show 0 ≤ (i : Int) by omega), if_pos (show (i : Int) < (L.length : Int) by omega)]
    have hmq : mq L i j = (!((L.getD j z42).f2 == 0) && ((L.getD j z42).f1.f0 == (L.getD i z42).f1.f0 && (L.getD j z42).f1.f1 == (L.getD i z42).f1.f1) && (L.getD j z42).f2 == (L.getD i z42).f2) := rfl
    clear hstep ih er ej
    generalize L.getD j z42 = y at *
    generalize L.getD i z42 = z at *
    rw [show ((j + 1 : Nat) : Int) = (j : Int) + 1 from rfl]
    by_cases h0 : y.f2 = 0
    · rw [if_pos h0, hs, hmq, if_neg (by simp [h0]), Nat.add_zero]
    · rw [if_neg h0]
      by_cases h1 : y.f1.f0 = z.f1.f0 ∧ y.f1.f1 = z.f1.f1
      · rw [if_pos (by simpa using h1)]
        by_cases h2 : y.f2 = z.f2
        · rw [if_pos h2, hs, hmq, if_pos (by simp [h1.1, h1.2, h2]; rw [← h2]; exact h0), hz]
        · rw [if_neg h2, hs, hmq, if_neg (by simp [h2]), Nat.add_zero]
      · rw [if_neg (by simpa using h1), hs, hmq, if_neg (by simp; intro _ a b; exact absurd ⟨a, b⟩ h1), Nat.add_zero]
theorem most_l0 (L : List S42) (hn : L.length ≤ 1000) (d : Nat) : ∀ (F i : Nat), i + d = L.length → d * (L.length + 2) + 1 ≤ F →
    ∃ m, winnowlaw12_most.l0 F L (i : Int) = some m ∧ ((∃ j, j < L.length ∧ L.length < 2 * cnt L.length (mq L j) ∧ m = (L.getD j z42).f2) ∨ (m = 0 ∧ ∀ j, i ≤ j → j < L.length → ¬ L.length < 2 * cnt L.length (mq L j))) := by
  induction d with
  | zero =>
    intro F i hi hF
    obtain ⟨F, rfl⟩ : ∃ f, F = f + 1 := ⟨F - 1, by omega⟩
    unfold winnowlaw12_most.l0
    rw [if_neg (by omega)]
    exact ⟨0, rfl, .inr ⟨rfl, fun j h1 h2 => by omega⟩⟩
  | succ d ih =>
    intro F i hi hF
    rw [Nat.succ_mul] at hF
    obtain ⟨F, rfl⟩ : ∃ f, F = f + 1 := ⟨F - 1, by omega⟩
    unfold winnowlaw12_most.l0
    rw [if_pos (by omega)]
    have h1 := most_l1 L hn i (by omega) L.length F 0 (by omega) (by omega)
    rw [show ((cnt 0 (mq L i) : Nat) : Int) = 0 from rfl] at h1
    rw [show winnowlaw12_most.l1 F L (i : Int) 0 0 = _ from h1]
    by_cases hc : L.length < 2 * cnt L.length (mq L i)
    · rw [if_pos hc]
      exact ⟨_, rfl, .inl ⟨i, by omega, hc, rfl⟩⟩
    · rw [if_neg hc]
      obtain ⟨m, e, h⟩ := ih (F - (L.length + 1)) (i + 1) (by omega) (by omega)
      refine ⟨m, e, h.imp id fun ⟨h2, h3⟩ => ⟨h2, fun j h4 h5 => ?_⟩⟩
      rcases Nat.eq_or_lt_of_le h4 with e | e
      · subst e; exact hc
      · exact h3 j e h5
theorem most_eq {m : Nat} {L : List S42} (hL : ∀ x ∈ L, OkS m x) (hl : L.length ≤ 10) :
    ∃ r, winnowlaw12_most.f 200 L = some r ∧ ((r = 0 ∧ ∀ t x, x ≠ 0 → 2 * cnt L.length (fun k => decide ((stOf L k).t = t ∧ (stOf L k).v = x)) ≤ L.length) ∨
      (r ≠ 0 ∧ ∃ t, L.length < 2 * cnt L.length (fun k => decide ((stOf L k).t = t ∧ (stOf L k).v = r)))) := by
  have hf : L.length * (L.length + 2) + 1 ≤ 200 := by
    have := Nat.mul_le_mul hl (show L.length + 2 ≤ 12 by omega)
    omega
  obtain ⟨r, e, h⟩ := most_l0 L (by omega) L.length 200 0 (by omega) hf
  have hq : ∀ i k, mq L i k = true ↔ (L.getD k z42).f2 ≠ 0 ∧ (stOf L k).t = (stOf L i).t ∧ (stOf L k).v = (stOf L i).v := fun i k => by
    have := ky_eq (a := (L.getD k z42).f1.f0) (c := (L.getD i z42).f1.f0) (getD_ok hL k).t1 (getD_ok hL i).t1
    show _ ↔ _ ∧ ky _ _ = ky _ _ ∧ _
    rw [← this]
    simp [mq, stOf, toRg, and_assoc]
  refine ⟨r, e, ?_⟩
  rcases h with ⟨j, h1, h2, h3⟩ | ⟨h1, h2⟩
  · refine .inr ⟨?_, (stOf L j).t, ?_⟩
    · obtain ⟨k, hk, a, _⟩ := Paxos.meet h2 h2
      have := (hq j k).1 a
      rw [h3]
      have e2 : (L.getD j z42).f2 = (L.getD k z42).f2 := this.2.2.symm
      rw [e2]; exact this.1
    · refine Nat.lt_of_lt_of_le h2 (Nat.mul_le_mul_left 2 (Paxos.cnt_mono fun k hk a => ?_))
      have := (hq j k).1 a
      rw [decide_eq_true_eq, h3]
      exact ⟨this.2.1, this.2.2⟩
  · refine .inl ⟨h1, fun t x hx => ?_⟩
    apply Classical.byContradiction
    intro hc
    have hc := Nat.lt_of_not_le hc
    obtain ⟨j, hj, a, _⟩ := Paxos.meet (n := L.length) (q := fun k => decide ((stOf L k).t = t ∧ (stOf L k).v = x)) (q' := fun k => decide ((stOf L k).t = t ∧ (stOf L k).v = x)) hc hc
    rw [decide_eq_true_eq] at a
    have := h2 j (Nat.zero_le _) hj
    have h3 := Paxos.cnt_mono (n := L.length) (q := fun k => decide ((stOf L k).t = t ∧ (stOf L k).v = x)) (q' := mq L j) (fun k hk b => by
      rw [decide_eq_true_eq] at b
      rw [hq]
      refine ⟨?_, b.1.trans a.1.symm, b.2.trans a.2.symm⟩
      have : (stOf L k).v = (L.getD k z42).f2 := rfl
      rw [← this, b.2]; exact hx)
    omega
theorem max_two2 (a0 a1 b0 b1 : Int) : ∃ m0 m1, winnowref11_Max.f 5 [(⟨a0, a1⟩ : S24), ⟨b0, b1⟩] = some (m0, m1) ∧ ((m0 = 0 ∧ m1 = 0) ∨ (m0 = a0 ∧ m1 = a1) ∨ (m0 = b0 ∧ m1 = b1)) := by
  have w1 : wrap64 (0 + 1) = 1 := wrap_small (by omega) (by omega)
  have w2 : wrap64 (1 + 1) = 2 := wrap_small (by omega) (by omega)
  have r0 : rd_T24 [(⟨a0, a1⟩ : S24), ⟨b0, b1⟩] 0 = ⟨a0, a1⟩ := rfl
  have r1 : rd_T24 [(⟨a0, a1⟩ : S24), ⟨b0, b1⟩] 1 = ⟨b0, b1⟩ := rfl
  unfold winnowref11_Max.f winnowref11_Max.l0
  rw [if_pos (by simp), if_pos (by decide), rless_eq, r0, w1]
  simp only [Option.bind_some]
  by_cases h1 : lt2 0 0 a0 a1
  · rw [if_pos (by simpa using h1)]
    unfold winnowref11_Max.l0
    rw [if_pos (by simp), if_pos (by decide), rless_eq, r1, w2]
    simp only [Option.bind_some]
    by_cases h2 : lt2 a0 a1 b0 b1
    · rw [if_pos (by simpa using h2)]
      exact ⟨b0, b1, by unfold winnowref11_Max.l0; rw [if_neg (by simp)], .inr (.inr ⟨rfl, rfl⟩)⟩
    · rw [if_neg (by simpa using h2)]
      exact ⟨a0, a1, by unfold winnowref11_Max.l0; rw [if_neg (by simp)], .inr (.inl ⟨rfl, rfl⟩)⟩
  · rw [if_neg (by simpa using h1)]
    unfold winnowref11_Max.l0
    rw [if_pos (by simp), if_pos (by decide), rless_eq, r1, w2]
    simp only [Option.bind_some]
    by_cases h2 : lt2 0 0 b0 b1
    · rw [if_pos (by simpa using h2)]
      exact ⟨b0, b1, by unfold winnowref11_Max.l0; rw [if_neg (by simp)], .inr (.inr ⟨rfl, rfl⟩)⟩
    · rw [if_neg (by simpa using h2)]
      exact ⟨0, 0, by unfold winnowref11_Max.l0; rw [if_neg (by simp)], .inl ⟨rfl, rfl⟩⟩
theorem next_once {s0 s1 n : Int} {m : Nat} (h0 : 0 ≤ s0 ∧ s0 ≤ m) (hm : m ≤ 100) (hn : n ≠ 0) : ballot_Next.f s0 s1 0 n = some (s0 + 1, n, 0) := by
  have hw : IntKind.u64.wrap (s0 + 1) = s0 + 1 := by simp [IntKind.wrap, IntKind.bits, IntKind.signed]; omega
  have hx : mx s0 0 = s0 := by unfold mx; split <;> omega
  have hy : mx (s0 + 1) 0 = s0 + 1 := by unfold mx; split <;> omega
  unfold ballot_Next.f
  rw [if_neg hn, hx, if_neg (by omega), hw, hy]
theorem answer_yes (p0 p1 t0 t1 v b0 b1 : Int) : register_Answer.f p0 p1 t0 t1 v 1 b0 b1 true false = some (5, 1, b0, b1, t0, t1, v, true, [], [], []) := by
  unfold register_Answer.f; simp
theorem answer_no (p0 p1 t0 t1 v b0 b1 : Int) : register_Answer.f p0 p1 t0 t1 v 1 b0 b1 false false = some (5, 1, b0, b1, p0, p1, 0, false, [], [], []) := by
  unfold register_Answer.f; simp
end Go.Proofs.Ytjnhmdmcmmffeaa.PAll
