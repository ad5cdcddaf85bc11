/-
  The plain laws FrameCuts and FrameAll: the document's cut and all frames are the program's.
  Conditions: bytes are from 0 to 255.
-/
import Derived.Test.YtjamddlclahhjaaAllPure
import Derived.Test.YtjamddlclahhjaaPAllx3
import Derived.Test.YtjamddlclahhjaaPAllx4
import Derived.Test.YtjamddlclahhjaaPAllx5
namespace Go.Proofs.Ytjamddlclahhjaa.PAll
open Go.RowKit Go.Proofs.YtjamddlclahhjaaW.PrintWords Go.Proofs.YtjamddlclahhjaaW.PrintLast Go.Proofs.YtjamddlclahhjaaW.PrintMore
set_option linter.unusedVariables false
set_option linter.unusedSimpArgs false

theorem number_eq {l : List Int} (hb : Bytes l) (h4 : 4 ≤ l.length) : winnowref02_number.f l = some (u32 l) := by
  have g : ∀ j : Int, 0 ≤ j → j < 4 → 0 ≤ rd l j ∧ rd l j ≤ 255 := fun j h0 h1 => hb _ (rd_mem1 h0 (by omega))
  have g0 := g 0 (by omega) (by omega)
  have g1 := g 1 (by omega) (by omega)
  have g2 := g 2 (by omega) (by omega)
  have g3 := g 3 (by omega) (by omega)
  unfold winnowref02_number.f u32
  rw [if_pos (by omega), if_pos (by omega), if_pos (by omega), if_pos (by omega)]
  congr 1
  omega
theorem rcut_eq {l : List Int} (hb : Bytes l) (hl : l.length ≤ 140737488355328) {k : Nat} (hk : 83000 ≤ k) : winnowref02_Cut.f k l = some (cutN l) := by
  unfold winnowref02_Cut.f cutN
  by_cases h4 : l.length < 4
  · rw [if_pos (by omega), if_pos h4]
  rw [if_neg (by omega), if_neg h4, number_eq hb (by omega)]
  have hr := u32_range hb (by omega)
  simp only [Option.bind_some]
  by_cases h5 : u32 l > 8192
  · rw [if_pos h5, if_pos h5]
  rw [if_neg h5, if_neg h5]
  have w1 : wrap64 (4 + wrap64 (u32 l)) = 4 + u32 l := by unfold wrap64; omega
  have w3 : wrap64 (4 + u32 l + 4) = 8 + u32 l := by unfold wrap64; omega
  rw [w1, w3]
  by_cases h6 : l.length < 8 + (u32 l).toNat
  · rw [if_pos (by omega), if_pos h6]
  rw [if_neg (by omega), if_neg h6, if_pos (by omega), if_pos (by omega)]
  have e1 : (4 + u32 l).toNat = 4 + (u32 l).toNat := by omega
  have e2 : (8 + u32 l).toNat = 8 + (u32 l).toNat := by omega
  rw [e1, e2, rsum_eq (hb.take _) (by rw [List.length_take]; omega) (by rw [List.length_take]; omega), number_eq (hb.drop _) (by rw [List.length_drop]; omega)]
  simp only [Option.bind_some]
  by_cases h7 : (sumN (l.take (4 + (u32 l).toNat)) : Int) = u32 (l.drop (4 + (u32 l).toNat))
  · rw [if_pos h7, if_pos h7.symm, if_pos (by omega), if_pos (by omega), if_pos (by omega)]
  · rw [if_neg h7, if_neg (fun e => h7 e.symm)]
theorem cut_len {l : List Int} (hb : Bytes l) : (cutN l).1.length ≤ 8192 ∧ (cutN l).1.length ≤ l.length ∧ (cutN l).2.1.length ≤ l.length := by
  unfold cutN
  repeat' split
  all_goals simp
  all_goals omega
theorem FrameCuts (l : List Int) (hb : Bytes l) : winnowlaw02_FrameCuts.f 200000 l = some true := by
  unfold winnowlaw02_FrameCuts.f
  by_cases h : (l.length : Int) > 20000
  · rw [if_pos h]; rfl
  · rw [if_neg h, cut_eq hb (by omega) (by omega), rcut_eq hb (by omega) (by omega)]
    obtain ⟨c1, c2, c3⟩ := cut_len hb
    simp only [Option.bind_some]
    rw [same_eq _ _ (by omega) (by omega), same_eq _ _ (by omega) (by omega)]
    simp only [Option.bind_some]
    rw [if_pos (by simp), if_pos (by simp), if_pos trivial]
    rfl

/-! ### all -/
theorem all_is (n : Nat) : ∀ l : List Int, l.length ≤ n → Bytes l → ∃ ds u kd, AllR l ds u kd ∧ ds.length * 8 ≤ l.length ∧ (∀ x ∈ ds, x.length ≤ 8192) ∧ u ≤ l.length := by
  induction n with
  | zero =>
    intro l hl _
    obtain rfl : l = [] := List.eq_nil_of_length_eq_zero (by omega)
    exact ⟨[], 0, 0, AllR.nil, by simp, by simp, by simp⟩
  | succ n ih =>
    intro l hl hb
    by_cases hn : l = []
    · subst hn
      exact ⟨[], 0, 0, AllR.nil, by simp, by simp, by simp⟩
    by_cases hc : (cutN l).2.2 = 0
    · obtain ⟨c1, c2, c3⟩ := cut_ok hb hc
      have hbr : Bytes (cutN l).2.1 := by rw [c3]; exact hb.drop _
      have hln : (cutN l).2.1.length = l.length - ((cutN l).1.length + 8) := by rw [c3, List.length_drop]
      obtain ⟨ds, u, kd, h, h1, h2, h3⟩ := ih (cutN l).2.1 (by omega) hbr
      refine ⟨_, _, _, AllR.cut hn hc h, by simp; omega, fun x hx => ?_, by omega⟩
      rcases List.mem_cons.1 hx with rfl | hx
      · exact c2
      · exact h2 x hx
    · exact ⟨_, _, _, AllR.stop hn hc, by simp, by simp, by simp⟩
theorem rall_tells (x0 : List Int) (hl : x0.length ≤ 1000000) {r : List Int} {ds : List (List Int)} {u : Nat} {kd : Int} (h : AllR r ds u kd) : ∀ (k : Nat) (x2 : List (List Int)) (used : Nat), Bytes r → x0.length = used + r.length → x2.length ≤ used → ds.length + 83001 < k →
    winnowref02_All.l0 k x0 x2 r = some (x2 ++ ds, ((used + u : Nat) : Int), kd) := by
  induction h with
  | nil =>
    intro k x2 used hb he hx hk
    obtain ⟨k, rfl⟩ : ∃ j, k = j + 1 := ⟨k - 1, by omega⟩
    rw [winnowref02_All.l0, if_neg (by simp)]
    simp at he
    simp [he]
  | @cut l ds u kd hn hc t ih =>
    intro k x2 used hb he hx hk
    obtain ⟨k, rfl⟩ : ∃ j, k = j + 1 := ⟨k - 1, by omega⟩
    have hp := List.length_pos_iff.2 hn
    obtain ⟨c1, c2, c3⟩ := cut_ok hb hc
    have hbr : Bytes (cutN l).2.1 := by rw [c3]; exact hb.drop _
    have hln : (cutN l).2.1.length = l.length - ((cutN l).1.length + 8) := by rw [c3, List.length_drop]
    rw [winnowref02_All.l0, if_pos (by omega), rcut_eq hb (by omega) (by omega)]
    simp only [Option.bind_some]
    rw [if_pos hc, if_pos (by omega), ih k (x2 ++ [(cutN l).1]) (used + ((cutN l).1.length + 8)) hbr (by omega) (by simp; omega) (by simp at hk; omega)]
    simp
    omega
  | @stop l hn hc =>
    intro k x2 used hb he hx hk
    obtain ⟨k, rfl⟩ : ∃ j, k = j + 1 := ⟨k - 1, by omega⟩
    have hp := List.length_pos_iff.2 hn
    have hw : wrap64 ((x0.length : Int) - (l.length : Int)) = (used : Int) := by unfold wrap64; omega
    rw [winnowref02_All.l0, if_pos (by omega), rcut_eq hb (by omega) (by omega)]
    simp only [Option.bind_some]
    rw [if_neg hc, hw]
    simp
theorem FrameAll (l : List Int) (hb : Bytes l) : winnowlaw02_FrameAll.f 200000 l = some true := by
  unfold winnowlaw02_FrameAll.f
  by_cases h : (l.length : Int) > 20000
  · rw [if_pos h]; rfl
  · obtain ⟨ds, u, kd, hA, h1, h2, h3⟩ := all_is l.length l (Nat.le_refl _) hb
    have hr := rall_tells l (by omega) hA 200000 [] 0 hb (by omega) (by simp) (by omega)
    rw [if_neg h, all_eq hb (by omega) hA (by omega)]
    unfold winnowref02_All.f
    rw [hr]
    simp only [Option.bind_some, List.nil_append]
    rw [sameL_eq _ _ 8192 (by omega) h2 (by omega) (by omega)]
    simp only [Option.bind_some]
    rw [if_pos (by simp), if_pos (by omega), if_pos trivial]
    rfl
end Go.Proofs.Ytjamddlclahhjaa.PAll
