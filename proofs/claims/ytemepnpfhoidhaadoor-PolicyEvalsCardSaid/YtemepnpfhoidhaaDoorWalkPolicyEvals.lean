/-
  The law PolicyEvals returns true.
  Conditions: the tables that the row lists, as the program lays them.
-/
import Derived.Test.YtemepnpfhoidhaaDoorLawPolicyEvals
import Derived.Test.YtemepnpfhoidhaaDoorPolicyEvalsCore
import Derived.Test.YtemepnpfhoidhaaDoorOpsAll
namespace Go.Proofs.YtemepnpfhoidhaaDoor.PAll
open Go.RowKit Go.Lib Go.Sort Go.Proofs.YtemepnpfhoidhaaDoorW.PrintWords Go.Proofs.YtemepnpfhoidhaaDoorW.PrintLast Go.Proofs.YtemepnpfhoidhaaDoorW.PrintMore
set_option linter.unusedVariables false
set_option linter.unusedSimpArgs false
theorem rdO (rs : List S39) (i : Nat) (h : i < rs.length) : rd_T37 (rs.map ownR) (i : Int) = ownR rs[i] := by
  unfold rd_T37
  rw [Int.toNat_natCast, List.getD_eq_getElem?_getD, List.getElem?_map, List.getElem?_eq_getElem h]
  rfl
theorem holds_f (r : S37) {l : Spans} (h : shortB l = true) : policy_Holds.f r.f0 r.f1 r.f2 r.f3 l = some (holdsB matchB r l) := by
  unfold policy_Holds.f
  rw [if_pos h]
theorem eval_f2 (rs : List S37) {l : Spans} (h : shortB l = true) : policy_Eval.f rs l = some (evalB matchB rs l) := by
  unfold policy_Eval.f
  rw [if_pos h]
theorem evals_l0 (rs : List S39) (h0 : ∀ r ∈ rs, 0 ≤ r.f2) (hr : rs.length ≤ 100) (l : Spans) (hl : l.length ≤ 100) (sl : shortB l = true) (hx : ∀ x ∈ l, span_Name.f x.f6 = some 0) (d : Nat) :
    ∀ (k i : Nat), i ≤ rs.length → rs.length - i = d → d + 2500 < k → winnowlaw04_PolicyEvals.l0 k rs l (rs.map ownR) (i : Int) = some true := by
  induction d with
  | zero =>
    intro k i hi hd hk
    obtain ⟨k, rfl⟩ : ∃ j, k = j + 1 := ⟨k - 1, by omega⟩
    rw [winnowlaw04_PolicyEvals.l0, if_neg (by omega), eval_f2 _ sl, eval_eq rs h0 hr l hl hx (by omega), Option.bind_some, Option.bind_some, if_pos rfl]
    rfl
  | succ d ih =>
    intro k i hi hd hk
    obtain ⟨k, rfl⟩ : ∃ j, k = j + 1 := ⟨k - 1, by omega⟩
    have hlt : i < rs.length := by omega
    rw [winnowlaw04_PolicyEvals.l0, if_pos (by omega), if_pos (by omega), if_pos (by rw [List.length_map]; omega), w64s (by omega), rdR rs i hlt, rdO rs i hlt, holds_f (ownR rs[i]) sl, holds_eq rs[i] (h0 _ (List.getElem_mem _)) l hl hx (by omega), Option.bind_some, Option.bind_some, if_neg (by simp)]
    exact ih k (i + 1) (by omega) (by omega) (by omega)
theorem evals_true (rs : List S39) (h0 : ∀ r ∈ rs, 0 ≤ r.f2) (l : Spans) (k : Nat) (hk : 4000 ≤ k) : winnowlaw04_PolicyEvals.f k rs l = some true := by
  obtain ⟨k, rfl⟩ : ∃ j, k = j + 1 := ⟨k - 1, by omega⟩
  have hj : winnowlaw04_PolicyEvals.j0 (k + 1) rs l true = some true := by
    rw [winnowlaw04_PolicyEvals.j0, if_pos rfl]
    rfl
  unfold winnowlaw04_PolicyEvals.f
  obtain ⟨t1, h1, x1⟩ := light_tells rs l
  rw [up (fun k => winnowlaw04_Light.mono rs l k) h1 (by omega), Option.bind_some]
  cases t1 with
  | false => rw [if_neg (by decide)]; exact hj
  | true =>
    obtain ⟨lr, ll, s1⟩ := x1 rfl
    have s1 := short_of s1
    obtain ⟨t2, h2⟩ := right_tells l ll
    rw [if_pos rfl, up (fun k => winnowlaw04_right.mono l k) h2 (by omega), Option.bind_some]
    cases t2 with
    | false => exact hj
    | true =>
      have hx := right_l0' l ll l.length 1000 0 (by omega) (by omega) (by omega) h2
      rw [List.drop_zero] at hx
      rw [show (!true) = false from rfl, winnowlaw04_PolicyEvals.j0, if_neg (by decide), own_tells rs lr (by omega), Option.bind_some]
      exact evals_l0 rs h0 lr l ll s1 hx rs.length k 0 (by omega) (by omega) (by omega)
theorem walk_PolicyEvals (W : World) (a0 : Option Addr) (cap0 : Nat) (x0 : (List S39)) (hl0 : x0.length ≤ cap0) (hC0 : Kd.C k39 W a0 x0.length x0) (ok_0 : x0.length ≤ maxLen ∧ ∀ y_x0 ∈ x0, (ok39 y_x0))
    (a1 : Option Addr) (cap1 : Nat) (x1 : (List S44)) (hl1 : x1.length ≤ cap1) (hC1 : Kd.C k44 W a1 x1.length x1) (ok_1 : x1.length ≤ maxLen ∧ ∀ y_x1 ∈ x1, (ok44 y_x1)) (hL : Laid W) :
    Calls Tryd.prog 5 #[.slice a0 x0.length cap0, .slice a1 x1.length cap1] W fun e W' => e = .returned (.bool true) ∧ Below W.heap.size W W' :=
  winnowlaw04_PolicyEvals.calls 4000 a0 cap0 x0 a1 cap1 x1 true W hC0 hl0 hC1 hl1 hL (evals_true _ (fun r hr => by
    have h := (ok_0.2 r hr).2.2.1
    simp [Lit.wf, IntKind.min, IntKind.max, IntKind.signed, IntKind.bits] at h
    omega) _ _ (Nat.le_refl _))
end Go.Proofs.YtemepnpfhoidhaaDoor.PAll
