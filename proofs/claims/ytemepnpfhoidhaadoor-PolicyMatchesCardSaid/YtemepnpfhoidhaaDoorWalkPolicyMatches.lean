/-
  The law PolicyMatches returns true.
  Conditions: the tables that the row lists, as the program lays them.
-/
import Derived.Test.YtemepnpfhoidhaaDoorLawPolicyMatches
import Derived.Test.YtemepnpfhoidhaaDoorPolicyEvalsCore
import Derived.Test.YtemepnpfhoidhaaDoorOpsAll
namespace Go.Proofs.YtemepnpfhoidhaaDoor.PAll
open Go.RowKit Go.Lib Go.Sort Go.Proofs.YtemepnpfhoidhaaDoorW.PrintWords Go.Proofs.YtemepnpfhoidhaaDoorW.PrintLast Go.Proofs.YtemepnpfhoidhaaDoorW.PrintMore
open MatchCore
set_option linter.unusedVariables false
set_option linter.unusedSimpArgs false
theorem matches_true (a0 a1 : ByteArray) (k : Nat) (hk : 3000 ≤ k) : winnowlaw04_PolicyMatches.f k a0 a1 = some true := by
  obtain ⟨k, rfl⟩ : ∃ j, k = j + 1 := ⟨k - 1, by omega⟩
  have hj : winnowlaw04_PolicyMatches.j0 (k + 1) a0 a1 true = some true := by
    rw [winnowlaw04_PolicyMatches.j0, if_pos rfl]
    rfl
  unfold winnowlaw04_PolicyMatches.f
  by_cases c0 : (a0.size : Int) > 200
  · rw [if_pos c0, hj]
  by_cases c1 : (a1.size : Int) > 200
  · rw [if_neg c0, if_pos c1, hj]
  rw [if_neg c0, if_neg c1, name_eq a0 (by omega), name_eq a1 (by omega)]
  obtain ⟨t0, e0⟩ : ∃ t, span_Name.f a0 = some t := ⟨_, rfl⟩
  obtain ⟨t1, e1⟩ : ∃ t, span_Name.f a1 = some t := ⟨_, rfl⟩
  rw [e0, e1]
  simp only [Option.bind_some]
  by_cases c2 : t0 = 0
  · rw [if_pos c2]
    by_cases c3 : t1 = 0
    · subst c2 c3
      have hm : policy_Match.f a0 a1 = some (matchB a0 a1) := by
        unfold policy_Match.f
        rw [if_pos ⟨by omega, by omega⟩]
      rw [show ((0 : Int) != 0) = false from rfl, winnowlaw04_PolicyMatches.j0, if_neg (by decide), hm, ref_match e0 e1 (by omega)]
      rw [Option.bind_some, Option.bind_some, if_pos (by simp)]
      rfl
    · rw [show (t1 != 0) = true from by simpa using c3, hj]
  · rw [if_neg c2, hj]
theorem walk_PolicyMatches (W : World) (b0 : ByteArray) (ok_0 : b0.size ≤ maxLen) (b1 : ByteArray) (ok_1 : b1.size ≤ maxLen) (hL : Laid W) :
    Calls Tryd.prog 4 #[.string b0, .string b1] W fun e W' => e = .returned (.bool true) ∧ Below W.heap.size W W' :=
  winnowlaw04_PolicyMatches.calls 3000 b0 b1 true W hL (matches_true b0 b1 3000 (Nat.le_refl _))
end Go.Proofs.YtemepnpfhoidhaaDoor.PAll
