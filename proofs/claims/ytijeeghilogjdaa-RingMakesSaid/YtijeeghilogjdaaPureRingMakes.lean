/-
  The plain law RingMakes: the reference puts each point where it belongs, and there is but one such row.
  Conditions: none.
-/
import Derived.Test.YtijeeghilogjdaaRingOwnersPure
import Derived.Test.YtijeeghilogjdaaPAllx4
import Derived.Test.YtijeeghilogjdaaPAllx5
import Derived.Test.YtijeeghilogjdaaPAllx6
namespace Go.Proofs.Ytijeeghilogjdaa.Pure
open Go.RowKit Go.Proofs.Ytijeeghilogjdaa.PAll Go.Proofs.YtijeeghilogjdaaW.PrintWords Go.Proofs.YtijeeghilogjdaaW.PrintLast
set_option linter.unusedVariables false
set_option linter.unusedSimpArgs false
theorem refat_eq (id i : Int) : winnowref08_At.f id i = some (atv id i) := rfl
def Srt58 (l : List S58) : Prop := l.Pairwise fun a b => ltP (cv b) (cv a) = false
theorem ins_ok {y x2 : List S58} {p : S58} (h : Srt58 (y ++ x2)) (h1 : ∀ a ∈ y, ltP (cv p) (cv a) = false) (h2 : ∀ a ∈ x2, ltP (cv p) (cv a) = true) : Srt58 (y ++ p :: x2) := by
  unfold Srt58 at *
  obtain ⟨a, b, c⟩ := List.pairwise_append.1 h
  refine List.pairwise_append.2 ⟨a, List.pairwise_cons.2 ⟨fun q hq => ltP_asy (h2 q hq), b⟩, fun q hq r hr => ?_⟩
  rcases List.mem_cons.1 hr with e | e
  · rw [e]; exact h1 q hq
  · exact c q hq r e
/-- One point is put where it belongs. -/
theorem ref_l2 (ids : List Int) (a x7 x8 : Int) (p0 p1 : Int) (n : Nat) : ∀ (x1 x2 : List S58) (k : Nat), x1.length = n → Srt58 (x1 ++ x2) → (∀ c ∈ x2, ltP ⟨p0, p1⟩ (cv c) = true) → x1.length + x2.length ≤ 10000 → n + 1 ≤ k →
    ∃ z k', Srt58 z ∧ z.Perm (x1 ++ x2 ++ [⟨p0, p1⟩]) ∧ k ≤ k' + n + 1 ∧ winnowref08_Make.l2 k ids a (x1 ++ x2) x7 x8 n p0 p1 = winnowref08_Make.l1 k' ids a z x7 (wrap64 (x8 + 1)) := by
  induction n with
  | zero =>
    intro x1 x2 k h1 hs hx hlen hk
    obtain ⟨k, rfl⟩ : ∃ q, k = q + 1 := ⟨k - 1, by omega⟩
    obtain rfl : x1 = [] := List.length_eq_zero_iff.1 h1
    have g1 := ins_ok (p := ⟨p0, p1⟩) hs (fun a ha => absurd ha (by simp)) hx
    simp only [List.length_nil] at hlen
    refine ⟨_, k, g1, by simpa using (List.perm_append_singleton _ _).symm, by omega, ?_⟩
    rw [winnowref08_Make.l2, if_neg (by omega)]
    simp only [Option.bind_some, List.nil_append, Int.toNat_natCast, List.take_zero, List.drop_zero, List.length_nil]
    repeat rw [if_pos (by first | omega | (simp only [List.length_append, List.length_nil, List.length_cons]; omega))]
    rfl
  | succ n ih =>
    intro x1 x2 k h1 hs hx hlen hk
    obtain ⟨k, rfl⟩ : ∃ q, k = q + 1 := ⟨k - 1, by omega⟩
    obtain ⟨y, b, rfl⟩ : ∃ y a, x1 = y ++ [a] := ⟨x1.dropLast, x1.getLast (fun e => by rw [e] at h1; cases h1), (List.dropLast_concat_getLast _).symm⟩
    have hy : y.length = n := by simpa using h1
    have e3 : y ++ [b] ++ x2 = y ++ b :: x2 := by simp
    have ht : (y ++ b :: x2).take (n + 1) = y ++ [b] := by rw [← e3]; exact List.take_left' h1
    have hd : (y ++ b :: x2).drop (n + 1) = x2 := by rw [← e3]; exact List.drop_left' h1
    have hl3 : (y ++ b :: x2).length = n + 1 + x2.length := by simp [hy]; omega
    have hlen' : n + 1 + x2.length ≤ 10000 := by rw [← h1]; exact hlen
    have hgt : ((n + 1 : Nat) : Int) > 0 := by omega
    have hw : wrap64 (((n + 1 : Nat) : Int) - 1) = (n : Int) := by rw [wsub1 (by omega) (by omega)]; rfl
    have hget : (y ++ b :: x2).getD n z58 = b := by simp [List.getD_eq_getElem?_getD, ← hy]
    rw [e3] at hs ⊢
    have hbel : winnowref08_Below.f p0 p1 (rd_T58 (y ++ b :: x2) (n : Int)).f0 (rd_T58 (y ++ b :: x2) (n : Int)).f1 = some (ltP ⟨p0, p1⟩ (cv b)) := by
      rw [rd58_nat, hget]
      exact below_eq ⟨p0, p1⟩ b
    by_cases c : ltP ⟨p0, p1⟩ (cv b) = true
    · obtain ⟨z, k', g1, g2, g3, g4⟩ := ih y (b :: x2) k hy hs (fun q hq => by
        rcases List.mem_cons.1 hq with e | e
        · rw [e]; exact c
        · exact hx q e) (by simp only [List.length_cons]; omega) (by omega)
      refine ⟨z, k', g1, g2, by omega, ?_⟩
      rw [winnowref08_Make.l2, if_pos hgt, hw, if_pos (by omega), if_pos (by rw [hl3]; omega), hbel]
      simp only [Option.bind_some]
      rw [if_pos c]
      exact g4
    · have hc : ltP ⟨p0, p1⟩ (cv b) = false := Bool.eq_false_iff.2 c
      have g1 := ins_ok (y := y ++ [b]) (x2 := x2) (p := ⟨p0, p1⟩) (by rw [e3]; exact hs) (fun q hq => by
        rcases List.mem_append.1 hq with e | e
        · refine ltP_neg hc ?_
          exact (List.pairwise_append.1 hs).2.2 q e b (List.mem_cons_self ..)
        · rw [List.mem_singleton.1 e]; exact hc) hx
      refine ⟨_, k, g1, ?_, by omega, ?_⟩
      · rw [← e3]
        exact List.perm_middle.trans (List.perm_append_singleton _ _).symm
      · rw [winnowref08_Make.l2, if_pos hgt, hw, if_pos (by omega), if_pos (by rw [hl3]; omega), hbel]
        simp only [Option.bind_some]
        rw [if_neg c]
        simp only [List.nil_append, Int.toNat_natCast, ht, hd]
        repeat rw [if_pos (by first | omega | (simp only [hl3, List.length_append, List.length_nil, List.length_cons, hy]; omega))]
        rw [List.append_assoc (y ++ [b])]
        rfl
def ptr (id : Int) (i : Nat) : S58 := ⟨atv id i, id⟩
theorem ref_l1 (ids : List Int) (n : Nat) (hn : n ≤ 64) (i : Nat) (hi : i < ids.length) (B : Nat) (hB : 6000 ≤ B) (d : Nat) : ∀ (k j : Nat) (x : List S58), j + d = n → d * B + 1 ≤ k → x.length + d ≤ 5000 → Srt58 x →
    ∃ z k', Srt58 z ∧ z.Perm (x ++ (List.range' j d).map (ptr (ids.getD i 0))) ∧ k ≤ k' + d * B + 1 ∧ winnowref08_Make.l1 k ids n x i j = winnowref08_Make.l0 k' ids n z (wrap64 ((i : Int) + 1)) := by
  induction d with
  | zero =>
    intro k j x hj hk hx hs
    obtain ⟨k, rfl⟩ : ∃ m, k = m + 1 := ⟨k - 1, by omega⟩
    exact ⟨x, k, hs, by simp, by rw [Nat.zero_mul]; omega, by rw [winnowref08_Make.l1, if_neg (by omega)]⟩
  | succ d ih =>
    intro k j x hj hk hx hs
    rw [Nat.succ_mul] at hk ⊢
    obtain ⟨k, rfl⟩ : ∃ m, k = m + 1 := ⟨k - 1, by omega⟩
    obtain ⟨z, k', g1, g2, g3, g4⟩ := ref_l2 ids n i j (atv (ids.getD i 0) j) (ids.getD i 0) x.length x [] k rfl (by rw [List.append_nil]; exact hs) (fun c hc => absurd hc (by simp)) (by simp only [List.length_nil]; omega) (by omega)
    rw [List.append_nil] at g2 g4
    have hzl : z.length = x.length + 1 := by rw [g2.length_eq, List.length_append]; rfl
    obtain ⟨z2, k2, f1, f2, f3, f4⟩ := ih k' (j + 1) z (by omega) (by omega) (by omega) g1
    refine ⟨z2, k2, f1, ?_, by omega, ?_⟩
    · rw [List.range'_succ, List.map_cons]
      refine f2.trans ?_
      have h3 := List.Perm.append_right ((List.range' (j + 1) d).map (ptr (ids.getD i 0))) g2
      rw [List.append_assoc] at h3
      exact h3
    · rw [winnowref08_Make.l1, if_pos (by omega), if_pos (by omega), if_pos (by omega), rdi_nat, refat_eq]
      simp only [Option.bind_some]
      refine Eq.trans g4 ?_
      rw [wadd1 (by omega), f4]
def pts58 (ids : List Int) (n : Nat) : List S58 := ids.flatMap fun id => (List.range' 0 n).map (ptr id)
theorem ref_l0 (ids : List Int) (n : Nat) (hn : n ≤ 64) (hl : ids.length ≤ 16) (B C : Nat) (hB : 6000 ≤ B) (hC : n * B + 2 ≤ C) (d : Nat) : ∀ (k i : Nat) (x : List S58), i + d = ids.length → d * C + 1 ≤ k → x.length + d * 64 ≤ 2000 → Srt58 x →
    ∃ z, Srt58 z ∧ z.Perm (x ++ pts58 (ids.drop i) n) ∧ winnowref08_Make.l0 k ids n x i = some (z, 0) := by
  induction d with
  | zero =>
    intro k i x hi hk hx hs
    obtain ⟨k, rfl⟩ : ∃ m, k = m + 1 := ⟨k - 1, by omega⟩
    refine ⟨x, hs, ?_, by rw [winnowref08_Make.l0, if_neg (by omega)]⟩
    rw [List.drop_of_length_le (by omega)]
    simp [pts58]
  | succ d ih =>
    intro k i x hi hk hx hs
    rw [Nat.succ_mul] at hk
    obtain ⟨k, rfl⟩ : ∃ m, k = m + 1 := ⟨k - 1, by omega⟩
    obtain ⟨z, k', g1, g2, g3, g4⟩ := ref_l1 ids n hn i (by omega) B hB n k 0 x (by omega) (by omega) (by omega) hs
    have hzl : z.length = x.length + n := by rw [g2.length_eq, List.length_append, List.length_map, List.length_range']
    obtain ⟨z2, f1, f2, f3⟩ := ih k' (i + 1) z (by omega) (by omega) (by omega) g1
    refine ⟨z2, f1, ?_, ?_⟩
    · rw [drop_at ids 0 (show i < ids.length by omega)]
      have h3 := List.Perm.append_right (pts58 (ids.drop (i + 1)) n) g2
      rw [List.append_assoc] at h3
      exact f2.trans h3
    · rw [winnowref08_Make.l0, if_pos (by omega)]
      refine Eq.trans g4 ?_
      rw [wadd1 (by omega), f3]
theorem pts_cv (ids : List Int) (n : Nat) : (pts58 ids n).map cv = pts ids n := by
  unfold pts58 pts
  rw [List.map_flatMap]
  congr 1
  funext id
  rw [List.map_map]
  rfl
theorem ref_eq (ids : List Int) (a : Int) (h0 : ∀ x ∈ ids, 0 ≤ x) (hl : ids.length ≤ 100000) : ∃ N, ∀ k, N ≤ k → ∃ z, winnowref08_Make.f k ids a = some (z, (makeV ids a).2) ∧ z.map cv = (makeV ids a).1 := by
  refine ⟨ids.length + ids.length * (a.toNat * 6000 + 2) + 10, fun k hk => ?_⟩
  obtain ⟨k, rfl⟩ : ∃ m, k = m + 1 := ⟨k - 1, by omega⟩
  unfold winnowref08_Make.f makeV
  rw [right_eq ids h0 (by omega) (by omega)]
  simp only [Option.bind_some]
  by_cases hr : riseB 0 ids = true
  · rw [if_pos hr, if_pos hr]
    by_cases h1 : a < 1
    · rw [if_pos h1, if_pos h1, winnowref08_Make.j0, if_pos rfl]
      exact ⟨[], rfl, rfl⟩
    · rw [if_neg h1, if_neg h1]
      by_cases h2 : a > 64
      · rw [decide_eq_true h2, if_pos h2, winnowref08_Make.j0, if_pos rfl]
        exact ⟨[], rfl, rfl⟩
      · rw [decide_eq_false h2, if_neg h2, winnowref08_Make.j0, if_neg (by decide)]
        by_cases h3 : (ids.length : Int) > 16
        · rw [if_pos h3, if_pos h3]
          exact ⟨[], rfl, rfl⟩
        · rw [if_neg h3, if_neg h3]
          obtain ⟨n, rfl⟩ := Int.eq_ofNat_of_zero_le (show 0 ≤ a by omega)
          rw [Int.toNat_natCast] at hk
          obtain ⟨z, g1, g2, g3⟩ := ref_l0 ids n (by omega) (by omega) 6000 (n * 6000 + 2) (Nat.le_refl _) (Nat.le_refl _) ids.length k 0 [] (by omega) (by omega) (by simp; omega) List.Pairwise.nil
          refine ⟨z, g3, ?_⟩
          simp only [List.drop_zero, List.nil_append] at g2
          have h5 := g2.map cv
          rw [pts_cv] at h5
          exact sortP_one (List.pairwise_map.2 g1) h5
  · rw [if_neg hr, if_neg hr, winnowref08_Make.j0, if_pos rfl]
    exact ⟨[], rfl, rfl⟩
theorem same_l0 (z : List S58) (hl : z.length ≤ 100000) (d : Nat) : ∀ (k i : Nat), i + d = z.length → d + 1 ≤ k → winnowlaw08_same.l0 k (z.map cv) z i = some true := by
  induction d with
  | zero =>
    intro k i hi hk
    obtain ⟨k, rfl⟩ : ∃ m, k = m + 1 := ⟨k - 1, by omega⟩
    rw [winnowlaw08_same.l0, if_neg (by simp; omega)]
  | succ d ih =>
    intro k i hi hk
    obtain ⟨k, rfl⟩ : ∃ m, k = m + 1 := ⟨k - 1, by omega⟩
    rw [winnowlaw08_same.l0, if_pos (by simp; omega), if_pos (by omega), if_pos (by omega), rd_nat, getD_cv, rd58_nat, if_pos (show (cv (z.getD i z58)).f0 = (z.getD i z58).f0 from rfl), if_pos (show (cv (z.getD i z58)).f1 = (z.getD i z58).f1 from rfl), wadd1 (by omega)]
    exact ih k (i + 1) (by omega) (by omega)
theorem same_eq (z : List S58) (hl : z.length ≤ 100000) {k : Nat} (hk : z.length + 1 ≤ k) : winnowlaw08_same.f k (z.map cv) z = some true := by
  unfold winnowlaw08_same.f
  rw [if_pos (by simp)]
  exact same_l0 z hl z.length k 0 (by omega) hk
theorem makeV_len (ids : List Int) (a : Int) : (makeV ids a).1.length ≤ 1024 := by
  unfold makeV
  (repeat' split) <;> simp only [List.length_nil, Nat.zero_le]
  rw [sortP_len, pts_len]
  exact Nat.mul_le_mul (show ids.length ≤ 16 by omega) (show a.toNat ≤ 64 by omega)
theorem makes_al (K : Nat) (ids : List Int) (a : Int) (hK : 5000 ≤ K) : winnowlaw08_RingMakes.j0 (K + 1) ids a true = some true := by
  rw [winnowlaw08_RingMakes.j0, if_pos rfl, alive_ok (by omega)]
  rfl
theorem makes_go (K : Nat) (ids : List Int) (a : Int) (hK : ids.length + 5000 ≤ K) (hl : ids.length ≤ 100) (z : List S58) (g1 : winnowref08_Make.f K ids a = some (z, (makeV ids a).2)) (g2 : z.map cv = (makeV ids a).1) : winnowlaw08_RingMakes.j0 (K + 1) ids a false = some true := by
  have hlz := makeV_len ids a
  rw [← g2, List.length_map] at hlz
  have hm := make_eq ids a (by omega) (k := K) (by omega)
  have hs := same_eq z (by omega) (k := K) (by omega)
  rw [g2] at hs
  have ha := alive_ok (k := K) (by omega)
  have e1 := at_eq (rd ids 0) 1
  have e2 := refat_eq (rd ids 0) 1
  generalize atv (rd ids 0) 1 = u at e1 e2
  generalize makeV ids a = v at *
  obtain ⟨v1, v2⟩ := v
  rw [winnowlaw08_RingMakes.j0, if_neg (by decide), hm, Option.bind_some, g1, Option.bind_some, hs, Option.bind_some, if_pos rfl, if_pos rfl, ha, e1, e2]
  by_cases h : (ids.length : Int) = 0
  · rw [if_pos h]
    rfl
  · rw [if_neg h, if_pos (by omega), Option.bind_some, Option.bind_some, if_pos rfl]
    rfl
theorem RingMakes : winnowlaw08_RingMakes.Pure := by
  intro ids a _ _ hw _
  have h0 := wfu hw
  obtain ⟨N, hN⟩ : ∃ N, ids.length ≤ 100 → ∀ k, N ≤ k → ∃ z, winnowref08_Make.f k ids a = some (z, (makeV ids a).2) ∧ z.map cv = (makeV ids a).1 := by
    by_cases h : ids.length ≤ 100
    · obtain ⟨N, hN⟩ := ref_eq ids a h0 (by omega)
      exact ⟨N, fun _ => hN⟩
    · exact ⟨0, fun h2 => absurd h2 h⟩
  obtain ⟨K, hK⟩ : ∃ K, K = N + ids.length + 5000 := ⟨_, rfl⟩
  refine ⟨K + 1, ?_⟩
  have hgo : ids.length ≤ 100 → winnowlaw08_RingMakes.j0 (K + 1) ids a false = some true := fun hl => by
    obtain ⟨z, g1, g2⟩ := hN hl K (by omega)
    exact makes_go K ids a (by omega) hl z g1 g2
  unfold winnowlaw08_RingMakes.f
  by_cases h1 : (ids.length : Int) > 100
  · rw [if_pos h1]; exact makes_al K ids a (by omega)
  · rw [if_neg h1]
    by_cases h2 : wrap64 ((ids.length : Int) * a) > 600
    · rw [if_pos h2]
      by_cases h3 : a ≤ 100
      · rw [decide_eq_true h3]; exact makes_al K ids a (by omega)
      · rw [decide_eq_false h3]; exact hgo (by omega)
    · rw [if_neg h2]; exact hgo (by omega)
end Go.Proofs.Ytijeeghilogjdaa.Pure
