/-
  The law MessageMust, called with anything that its parameters' kinds hold, returns true and writes nothing that was there.
  Conditions: none.
-/
import Derived.Test.YtlpnpnjjmpkapaaMsgMustLaw
import Derived.Test.YtlpnpnjjmpkapaaMsgPay
import Derived.Test.YtlpnpnjjmpkapaaOpsAll
import Derived.Test.YtlpnpnjjmpkapaaArrOf
import Derived.Test.YtlpnpnjjmpkapaaPAllx10
import Derived.Test.YtlpnpnjjmpkapaaPAllx15
import Derived.Test.YtlpnpnjjmpkapaaPAllx4
namespace Go.Proofs.Ytlpnpnjjmpkapaa.PAll
open Go.RowKit Go.Proofs.YtlpnpnjjmpkapaaW.PrintWords Go.Proofs.YtlpnpnjjmpkapaaW.PrintLast Go.Proofs.YtlpnpnjjmpkapaaW.PrintMore
set_option linter.unusedVariables false
theorem wf_m {x : Int} (h : (Lit.int .u64 x).wf = true) : 0 ≤ x ∧ x < 18446744073709551616 := by
  have h2 : IntKind.u64.min ≤ x ∧ x ≤ IntKind.u64.max := by simpa [Lit.wf] using h
  have h3 : IntKind.u64.min = 0 := by decide
  have h4 : IntKind.u64.max = 18446744073709551615 := by decide
  omega
def NoAsk (m : Value) (D : Obj) : Prop := ∀ W : World, (Instr.typeAssert m 20 57 false).run Try.prog W = .halt (.panic (.iface 15 (.pointer (some ⟨W.heap.size, 0, none⟩)))) (W.alloc D)
theorem kind_of_ (a0 a1 a2 a3 a4 a5 a6 : Int) (a7 : Bool) {l8 : List S76} {l9 : List S92} {l10 : List Int} (hl8 : l8.length ≤ 40) (hl9 : l9.length ≤ 100) (hl10 : l10.length ≤ 100)
    (h : message_Right.f a0 a1 a2 a3 a4 a5 a6 a7 l8 l9 l10 = some 0) : 1 ≤ a0 ∧ a0 ≤ 10 := by
  by_cases c : 1 ≤ a0 ∧ a0 ≤ 10
  · exact c
  exfalso
  unfold message_Right.f at h
  rw [if_pos ⟨by omega, by omega, by omega⟩, if_neg (by omega), if_neg (by omega), if_neg (by omega), if_neg (by omega), if_neg (by omega), if_neg (by omega), if_neg (by omega), if_neg (by omega), if_neg (by omega), if_neg (by omega)] at h
  exact absurd h (by decide)
theorem must_all (a0 a1 a2 a3 a4 a5 a6 what : Int) (a7 : Bool) (A8 : Option Addr) (c8 : Nat) (l8 : List S76) (A9 : Option Addr) (c9 : Nat) (l9 : List S92) (A10 : Option Addr) (c10 : Nat) (l10 : List Int) (w : World)
    (h8 : Kd.C k76 w A8 l8.length l8) (e8 : l8.length ≤ c8) (h9 : Kd.C k92 w A9 l9.length l9) (e9 : l9.length ≤ c9) (h10 : Kd.C (Kd.int .u64) w A10 l10.length l10) (e10 : l10.length ≤ c10) (w8 : ∀ s ∈ l8, 0 ≤ s.f1 ∧ s.f1 < 18446744073709551616) :
    Calls Try.prog 11 #[.agg #[.int .i64 a0, .int .u64 a1, .int .u64 a2, .int .u64 a3, .int .u64 a4, .int .u64 a5, .int .i64 a6, .bool a7, .slice A8 l8.length c8, .slice A9 l9.length c9, .slice A10 l10.length c10], .int .i64 what] w fun e w' => e = .returned (.bool true) ∧ Below w.heap.size w w' := by
  obtain ⟨b, hb, hl⟩ := light_eq a0 a1 a2 a3 a4 a5 a6 a7 l8 l9 l10 (k := 4000) (by omega)
  have hL : ∀ W, Below w.heap.size w W → _ := fun W hB => winnowlaw05_Light.calls 4000 a0 a1 a2 a3 a4 a5 a6 a7 A8 c8 l8 A9 c9 l9 A10 c10 l10 b W (Kd.C_below h8 hB) e8 (Kd.C_below h9 hB) e9 (Kd.C_below h10 hB) e10 hb
  have hA := fun W => winnowlaw05_alive.calls true W rfl
  cases b
  · exact must_dark a0 a1 a2 a3 a4 a5 a6 what a7 A8 c8 l8 A9 c9 l9 A10 c10 l10 w hL hA
  obtain ⟨n8, n9, n10⟩ := hl rfl
  obtain ⟨v, hv, hv2⟩ := right_val a0 a1 a2 a3 a4 a5 a6 a7 n8 n9 n10 w8
  have hR := fun W (hB : Below w.heap.size w W) => message_Right.calls a0 a1 a2 a3 a4 a5 a6 a7 A8 c8 l8 A9 c9 l9 A10 c10 l10 v W (Kd.C_below h8 hB) e8 (Kd.C_below h9 hB) e9 (Kd.C_below h10 hB) e10 hv
  rcases hv2 with rfl | rfl
  · have hk := kind_of_ a0 a1 a2 a3 a4 a5 a6 a7 n8 n9 n10 hv
    by_cases k4 : a0 = 4
    · subst k4
      exact must_ask4 a1 a2 a3 a4 a5 a6 what a7 A8 c8 l8 A9 c9 l9 A10 c10 l10 w hL (fun W hB => (message_Encode.of_ok 4 a1 a2 a3 a4 a5 a6 a7 A8 c8 l8 A9 c9 l9 A10 c10 l10 W (fun _ m => m = .iface 57 (.agg #[.int .u64 a1, .int .u64 a2, .int .u64 a3, .int .i64 a6])) (fun W1 hB1 => hR W1 (below_step hB hB1)) (fun W1 hB1 => (message_Right.thing4 a1 a2 a3 a4 a5 a6 a7 A8 c8 l8 A9 c9 l9 A10 c10 l10 W1).mono fun e w' ⟨he, hb⟩ => ⟨_, he, rfl, hb⟩)).mono fun e w' ⟨m, he, hm, hb⟩ => ⟨by rw [he, hm], hb⟩) right_zero hA
    by_cases k6 : a0 = 6
    · subst k6
      exact must_ask6 a1 a2 a3 a4 a5 a6 what a7 A8 c8 l8 A9 c9 l9 A10 c10 l10 w hL (fun W hB => (message_Encode.of_ok 6 a1 a2 a3 a4 a5 a6 a7 A8 c8 l8 A9 c9 l9 A10 c10 l10 W (fun _ m => m = .iface 57 (.agg #[.int .u64 a1, .int .u64 a2, .int .u64 a3, .int .i64 a6])) (fun W1 hB1 => hR W1 (below_step hB hB1)) (fun W1 hB1 => (message_Right.thing6 a1 a2 a3 a4 a5 a6 a7 A8 c8 l8 A9 c9 l9 A10 c10 l10 W1).mono fun e w' ⟨he, hb⟩ => ⟨_, he, rfl, hb⟩)).mono fun e w' ⟨m, he, hm, hb⟩ => ⟨by rw [he, hm], hb⟩) right_zero hA
    refine must_none a0 a1 a2 a3 a4 a5 a6 what a7 A8 c8 l8 A9 c9 l9 A10 c10 l10 w k4 k6 hL (fun W hB => (message_Encode.of_ok a0 a1 a2 a3 a4 a5 a6 a7 A8 c8 l8 A9 c9 l9 A10 c10 l10 W (fun _ m => ∃ D : Obj, NoAsk m D) (fun W1 hB1 => hR W1 (below_step hB hB1)) (fun W1 hB1 => ?_)).mono fun e w' ⟨m, he, ⟨D, hm⟩, hb⟩ => ⟨⟨m, D, he, hm⟩, hb⟩) right_zero hA
    by_cases k1 : a0 = 1
    · subst k1
      exact (message_Right.thing1 a1 a2 a3 a4 a5 a6 a7 A8 c8 l8 A9 c9 l9 A10 c10 l10 W1 (Kd.C_below h8 (below_step hB hB1)) e8 (by omega)).mono fun e w' ⟨v1, he, hRr, hb⟩ => ⟨_, he, ⟨_, fun U => mp51 _ U⟩, hb⟩
    by_cases k2 : a0 = 2
    · subst k2
      exact (message_Right.thing2 a1 a2 a3 a4 a5 a6 a7 A8 c8 l8 A9 c9 l9 A10 c10 l10 W1 (Kd.C_below h8 (below_step hB hB1)) e8 (by omega)).mono fun e w' ⟨v1, he, hRr, hb⟩ => ⟨_, he, ⟨_, fun U => mp51 _ U⟩, hb⟩
    by_cases k3 : a0 = 3
    · subst k3
      exact (message_Right.thing3 a1 a2 a3 a4 a5 a6 a7 A8 c8 l8 A9 c9 l9 A10 c10 l10 W1 (Kd.C_below h9 (below_step hB hB1)) e9 (by omega)).mono fun e w' ⟨v1, he, hRr, hb⟩ => ⟨_, he, ⟨_, fun U => mp54 _ U⟩, hb⟩
    by_cases k5 : a0 = 5
    · subst k5
      exact (message_Right.thing5 a1 a2 a3 a4 a5 a6 a7 A8 c8 l8 A9 c9 l9 A10 c10 l10 W1 ).mono fun e w' ⟨he, hb⟩ => ⟨_, he, ⟨_, fun U => mp60 _ U⟩, hb⟩
    by_cases k7 : a0 = 7
    · subst k7
      exact (message_Right.thing7 a1 a2 a3 a4 a5 a6 a7 A8 c8 l8 A9 c9 l9 A10 c10 l10 W1 ).mono fun e w' ⟨he, hb⟩ => ⟨_, he, ⟨_, fun U => mp60 _ U⟩, hb⟩
    by_cases k8 : a0 = 8
    · subst k8
      exact (message_Right.thing8 a1 a2 a3 a4 a5 a6 a7 A8 c8 l8 A9 c9 l9 A10 c10 l10 W1 ).mono fun e w' ⟨he, hb⟩ => ⟨_, he, ⟨_, fun U => mp63 _ U⟩, hb⟩
    by_cases k9 : a0 = 9
    · subst k9
      exact (message_Right.thing9 a1 a2 a3 a4 a5 a6 a7 A8 c8 l8 A9 c9 l9 A10 c10 l10 W1 (Kd.C_below h8 (below_step hB hB1)) e8 (by omega)).mono fun e w' ⟨v1, he, hRr, hb⟩ => ⟨_, he, ⟨_, fun U => mp66 _ U⟩, hb⟩
    obtain rfl : a0 = 10 := by omega
    exact (message_Right.thing10 a1 a2 a3 a4 a5 a6 a7 A8 c8 l8 A9 c9 l9 A10 c10 l10 W1 (Kd.C_below h10 (below_step hB hB1)) e10 (by omega)).mono fun e w' ⟨v1, he, hRr, hb⟩ => ⟨_, he, ⟨_, fun U => mp69 _ U⟩, hb⟩
  · exact must_bad a0 a1 a2 a3 a4 a5 a6 what a7 A8 c8 l8 A9 c9 l9 A10 c10 l10 w hL (fun W hB => message_Encode.of_bad a0 a1 a2 a3 a4 a5 a6 a7 A8 c8 l8 A9 c9 l9 A10 c10 l10 W 6 (by decide) (fun W1 hB1 => hR W1 (below_step hB hB1))) hA
theorem walk_MessageMust (W : World) (cs0 : Array Value) (x0 : S30) (hK0 : k30.K W x0 cs0.toList) (ok_0 : ok30 x0)
    (b1 : Int) (ok_1 : (Lit.int .i64 b1).wf = true) :
    Calls Try.prog 11 #[.agg cs0, .int .i64 b1] W fun e W' => e = .returned (.bool true) ∧ Below W.heap.size W W' := by
  obtain ⟨A8, c8, A9, c9, A10, c10, hcs, l8, C8, l9, C9, l10, C10⟩ := k30_open hK0
  obtain rfl := arr_of hcs
  obtain ⟨_, _, _, _, _, _, o6, _, _⟩ := ok_0
  exact must_all _ _ _ _ _ _ _ b1 _ A8 c8 _ A9 c9 _ A10 c10 _ W C8 l8 C9 l9 C10 l10 (fun s hs => wf_m (o6.2 s hs).2.1)
end Go.Proofs.Ytlpnpnjjmpkapaa.PAll
