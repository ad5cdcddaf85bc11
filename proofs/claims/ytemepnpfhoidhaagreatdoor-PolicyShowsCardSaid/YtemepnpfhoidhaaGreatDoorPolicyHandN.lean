/-
  alive, Holds and Eval as the printed laws call them: what the program lays is found in the context.
  Conditions: the tables that the row lists, as the program lays them.
-/
import Derived.Test.YtemepnpfhoidhaaGreatDoorPolicyAlive
import Derived.Test.YtemepnpfhoidhaaGreatDoorPolicyRunes
import Derived.Test.YtemepnpfhoidhaaGreatDoorPAllx1m
namespace Go.Proofs.YtemepnpfhoidhaaGreatDoor.PAll
open Go.RowKit Go.Lib Go.Sort Go.Proofs.YtemepnpfhoidhaaGreatDoorW.PrintWords Go.Proofs.YtemepnpfhoidhaaGreatDoorW.PrintLast Go.Proofs.YtemepnpfhoidhaaGreatDoorW.PrintMore
set_option linter.unusedVariables false
set_option linter.unusedSimpArgs false
theorem info39 : (Tryz.prog.info? 39).map (fun i => (i.zero, i.size, i.bytes)) = some (some (.agg #[(.int .u64 0), (.int .u64 0), (.int .u64 0), (.int .u64 0), (.int .u64 0), (.string ⟨#[]⟩), (.string ⟨#[]⟩), (.bool false)]), 8, 80) := by kernel_rfl
theorem info37 : (Tryz.prog.info? 37).map (fun i => (i.zero, i.size, i.bytes)) = some (some (.agg #[(.bool false), (.string ⟨#[]⟩), (.int .u64 0), (.string ⟨#[]⟩)]), 4, 48) := by kernel_rfl
def winnowlaw04_alive.f : Option Bool := some true
theorem winnowlaw04_alive.calls (r : Bool) (w : World) (h : winnowlaw04_alive.f = some r) (hL : Laid w := by (exact HLD.out.below (by repeat (first | (with_reducible first | exact HB.out | apply below_alloc | apply pw_below_drewN | apply below_drew1 | refine below_set ?_ (Aside0.out (by assumption))) | exact HB.out)))) : Calls Tryz.prog 5 #[] w fun e w' => e = .returned (.bool r) ∧ Below w.heap.size w w' := by
  obtain rfl := Option.some.inj h
  exact alive_calls w hL
def shortB (l : List S39) : Bool := l.all (fun x => decide (x.f6.size ≤ 1000))
theorem shortB_iff {l : List S39} (h : shortB l = true) : ∀ x ∈ l, x.f6.size ≤ 1000 := by
  unfold shortB at h
  rw [List.all_eq_true] at h
  exact fun x hx => of_decide_eq_true (h x hx)
def policy_Holds.f (a0_0 : Bool) (a0_1 : ByteArray) (a0_2 : Int) (a0_3 : ByteArray) (l1 : List S39) : Option Bool := if shortB l1 = true then some (holdsB matchB ⟨a0_0, a0_1, a0_2, a0_3⟩ l1) else none
theorem policy_Holds.calls (a0_0 : Bool) (a0_1 : ByteArray) (a0_2 : Int) (a0_3 : ByteArray) (A1 : Option Addr) (c1 : Nat) (l1 : List S39) (r : Bool) (w : World) (hr1 : Kd.C k39 w A1 l1.length l1) (hc1 : l1.length ≤ c1) (h : policy_Holds.f a0_0 a0_1 a0_2 a0_3 l1 = some r) (hL : Laid w := by (exact HLD.out.below (by repeat (first | (with_reducible first | exact HB.out | apply below_alloc | apply pw_below_drewN | apply below_drew1 | refine below_set ?_ (Aside0.out (by assumption))) | exact HB.out)))) :
    Calls Tryz.prog 27 #[.agg #[.bool a0_0, .string a0_1, .int .u64 a0_2, .string a0_3], .slice A1 l1.length c1] w fun e w' => e = .returned (.bool r) ∧ Below w.heap.size w w' := by
  unfold policy_Holds.f at h
  split at h
  · rename_i hs
    obtain rfl := Option.some.inj h
    exact holds_calls Laid (fun _ _ h hb => h.below hb) matchB match_tells ⟨a0_0, a0_1, a0_2, a0_3⟩ A1 c1 l1 (shortB_iff hs) w hL hr1
  · cases h
def policy_Eval.f (l0 : List S46) (l1 : List S39) : Option Int := if shortB l1 = true then some (evalB matchB l0 l1) else none
theorem policy_Eval.calls (A0 : Option Addr) (c0 : Nat) (l0 : List S46) (A1 : Option Addr) (c1 : Nat) (l1 : List S39) (r : Int) (w : World) (hr0 : Kd.C k46 w A0 l0.length l0) (hc0 : l0.length ≤ c0) (hr1 : Kd.C k39 w A1 l1.length l1) (hc1 : l1.length ≤ c1) (h : policy_Eval.f l0 l1 = some r) (hL : Laid w := by (exact HLD.out.below (by repeat (first | (with_reducible first | exact HB.out | apply below_alloc | apply pw_below_drewN | apply below_drew1 | refine below_set ?_ (Aside0.out (by assumption))) | exact HB.out)))) :
    Calls Tryz.prog 12 #[.slice A0 l0.length c0, .slice A1 l1.length c1] w fun e w' => e = .returned (.int .i64 r) ∧ Below w.heap.size w w' := by
  unfold policy_Eval.f at h
  split at h
  · rename_i hs
    obtain rfl := Option.some.inj h
    exact policy_eval A0 c0 l0 A1 c1 l1 (shortB_iff hs) w hL hr0 hr1
  · cases h
end Go.Proofs.YtemepnpfhoidhaaGreatDoor.PAll

namespace Go.Proofs.YtemepnpfhoidhaaGreatDoor.PAll
open Go.RowKit Go.Lib Go.Sort Go.Proofs.YtemepnpfhoidhaaGreatDoorW.PrintWords Go.Proofs.YtemepnpfhoidhaaGreatDoorW.PrintLast Go.Proofs.YtemepnpfhoidhaaGreatDoorW.PrintMore
set_option linter.unusedVariables false
set_option linter.unusedSimpArgs false
def policy_Match.f (a0 a1 : ByteArray) : Option Bool := if a0.size ≤ 1000 ∧ a1.size ≤ 1000 then some (matchB a0 a1) else none
theorem policy_Match.calls (a0 a1 : ByteArray) (r : Bool) (w : World) (h : policy_Match.f a0 a1 = some r) (hL : Laid w := by (exact HLD.out.below (by repeat (first | (with_reducible first | exact HB.out | apply below_alloc | apply pw_below_drewN | apply below_drew1 | refine below_set ?_ (Aside0.out (by assumption))) | exact HB.out)))) :
    Calls Tryz.prog 50 #[.string a0, .string a1] w fun e w' => e = .returned (.bool r) ∧ Below w.heap.size w w' := by
  unfold policy_Match.f at h
  split at h
  · rename_i hs
    obtain rfl := Option.some.inj h
    exact match_calls a0 a1 w hs.1 hs.2 hL.2
  · cases h
end Go.Proofs.YtemepnpfhoidhaaGreatDoor.PAll
