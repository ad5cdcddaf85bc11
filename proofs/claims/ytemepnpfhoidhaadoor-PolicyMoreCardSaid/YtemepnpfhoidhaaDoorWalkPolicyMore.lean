/-
  The law PolicyMore returns true.
  Conditions: the tables that the row lists, as the program lays them.
-/
import Derived.Test.YtemepnpfhoidhaaDoorLawPolicyMore
import Derived.Test.YtemepnpfhoidhaaDoorPolicyLawPure
import Derived.Test.YtemepnpfhoidhaaDoorOpsAll
namespace Go.Proofs.YtemepnpfhoidhaaDoor.PAll
open Go.RowKit Go.Lib Go.Sort Go.Proofs.YtemepnpfhoidhaaDoorW.PrintWords Go.Proofs.YtemepnpfhoidhaaDoorW.PrintLast Go.Proofs.YtemepnpfhoidhaaDoorW.PrintMore
set_option linter.unusedVariables false
set_option linter.unusedSimpArgs false
theorem holds_f (b0 : Bool) (b1 : ByteArray) (b2 : Int) (b3 : ByteArray) {l : Spans} (h : shortB l = true) : policy_Holds.f b0 b1 b2 b3 l = some (holdsB matchB ⟨b0, b1, b2, b3⟩ l) := by
  unfold policy_Holds.f
  rw [if_pos h]
theorem more_true (b0 : Bool) (b1 : ByteArray) (b2 : Int) (b3 : ByteArray) (l m : Spans) : winnowlaw04_PolicyMore.f 1000 b0 b1 b2 b3 l m = some true := by
  have hj : winnowlaw04_PolicyMore.j0 1000 l m true b0 b1 b2 b3 = some true := by
    rw [winnowlaw04_PolicyMore.j0, if_pos rfl]
    rfl
  unfold winnowlaw04_PolicyMore.f
  obtain ⟨t1, h1, x1⟩ := light_tells [⟨b0, b1, b2, b3⟩] l
  obtain ⟨t2, h2, x2⟩ := light_tells [] m
  rw [h1, h2]
  simp only [Option.bind_some]
  cases t1 with
  | false => exact hj
  | true =>
    rw [if_pos rfl]
    cases t2 with
    | false => exact hj
    | true =>
      obtain ⟨_, l1, s1⟩ := x1 rfl
      obtain ⟨_, l2, s2⟩ := x2 rfl
      have s1 := short_of s1
      have s2 := short_of s2
      obtain ⟨t3, h3⟩ := right_tells l l1
      obtain ⟨t4, h4⟩ := right_tells m l2
      rw [if_pos rfl, h3, h4]
      simp only [Option.bind_some]
      cases t3 with
      | false => exact hj
      | true =>
        rw [if_pos rfl]
        cases t4 with
        | false => exact hj
        | true =>
          have e : rd_T37 (List.map ownR [⟨b0, b1, b2, b3⟩]) 0 = ⟨b0, b1, b2, b3⟩ := rfl
          show winnowlaw04_PolicyMore.j0 1000 l m false b0 b1 b2 b3 = some true
          rw [winnowlaw04_PolicyMore.j0, if_neg (by decide), own_tells _ (by simp) (by omega)]
          simp only [Option.bind_some]
          rw [if_pos (by simp), e]
          simp only [List.nil_append]
          rw [holds_f _ _ _ _ s1]
          simp only [Option.bind_some]
          cases hh : holdsB matchB ⟨b0, b1, b2, b3⟩ l with
          | false => rfl
          | true =>
            have g1 := holds_sub matchB ⟨b0, b1, b2, b3⟩ l (l ++ m) (fun x hx => List.mem_append_left _ hx) (by simp) hh
            have g2 := holds_sub matchB ⟨b0, b1, b2, b3⟩ l (m ++ l) (fun x hx => List.mem_append_right _ hx) (by simp) hh
            rw [if_pos rfl, if_pos (by simp; omega), if_pos (by omega), holds_f _ _ _ _ (short_app s1 s2), g1]
            simp only [Option.bind_some]
            rw [if_pos trivial, if_pos (by simp; omega), if_pos (by omega), holds_f _ _ _ _ (short_app s2 s1), g2]
            rfl
theorem walk_PolicyMore (W : World) (cs0 : Array Value) (x0 : S39) (hK0 : k39.K W x0 cs0.toList) (ok_0 : ok39 x0)
    (a1 : Option Addr) (cap1 : Nat) (x1 : (List S44)) (hl1 : x1.length ≤ cap1) (hC1 : Kd.C k44 W a1 x1.length x1) (ok_1 : x1.length ≤ maxLen ∧ ∀ y_x1 ∈ x1, (ok44 y_x1))
    (a2 : Option Addr) (cap2 : Nat) (x2 : (List S44)) (hl2 : x2.length ≤ cap2) (hC2 : Kd.C k44 W a2 x2.length x2) (ok_2 : x2.length ≤ maxLen ∧ ∀ y_x2 ∈ x2, (ok44 y_x2)) (hL : Laid W) :
    Calls Tryd.prog 8 #[.agg cs0, .slice a1 x1.length cap1, .slice a2 x2.length cap2] W fun e W' => e = .returned (.bool true) ∧ Below W.heap.size W W' := by
  have e := k39_open hK0
  obtain rfl : cs0 = #[.bool x0.f0, .string x0.f1, .int .u64 x0.f2, .string x0.f3] := Array.ext' e
  exact winnowlaw04_PolicyMore.calls 1000 x0.f0 x0.f1 x0.f2 x0.f3 a1 cap1 x1 a2 cap2 x2 true W hC1 hl1 hC2 hl2 hL (more_true _ _ _ _ _ _)
end Go.Proofs.YtemepnpfhoidhaaDoor.PAll
