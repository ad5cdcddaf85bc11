import Derived.Test.YtlpnpnjjmpkapaaPAllx0
import Derived.Test.YtlpnpnjjmpkapaaPAllx2
namespace Go.Proofs.Ytlpnpnjjmpkapaa.PAll
open Go.RowKit Go.Proofs.YtlpnpnjjmpkapaaW.PrintWords Go.Proofs.YtlpnpnjjmpkapaaW.PrintLast Go.Proofs.YtlpnpnjjmpkapaaW.PrintMore
attribute [local go_sem] max2_int min2_int max_two min_two max_three min_three max_four min_four   -- for this text's walks alone
set_option linter.unusedVariables false
set_option linter.unusedSimpArgs false

attribute [local go_sem high] eqA76
def winnowref03_Spans.l0 : Nat → List (S76) → List (S76) → Int → Option (Bool)
 | 0, _, _, _ => none
 | k + 1, x0, x1, x5 => if x5 < (x0.length : Int) then (if 0 ≤ x5 then (if x5 < (x1.length : Int) then (if (!(((rd_T76 x0 x5).f0) == ((rd_T76 x1 x5).f0)) || (!(((rd_T76 x0 x5).f1) == ((rd_T76 x1 x5).f1)) || (!(((rd_T76 x0 x5).f2) == ((rd_T76 x1 x5).f2)) || (!(((rd_T76 x0 x5).f3) == ((rd_T76 x1 x5).f3)) || (!(((rd_T76 x0 x5).f4) == ((rd_T76 x1 x5).f4)) || (!((((rd_T76 x0 x5).f5).toList) == (((rd_T76 x1 x5).f5).toList)) || (!((((rd_T76 x0 x5).f6).toList) == (((rd_T76 x1 x5).f6).toList)) || (!(((rd_T76 x0 x5).f7) == ((rd_T76 x1 x5).f7)))))))))) = true then (some false) else (winnowref03_Spans.l0 k x0 x1 (wrap64 (x5 + 1)))) else (none)) else (none)) else (some true)
def winnowref03_Spans.f (k : Nat) (l0 : List (S76)) (l1 : List (S76)) : Option (Bool) := if (l0.length : Int) = (l1.length : Int) then (winnowref03_Spans.l0 k l0 l1 0) else (some false)
set_option maxHeartbeats 40000000 in
set_option maxRecDepth 100000 in
theorem winnowref03_Spans.calls (k : Nat) (A0 : Option Addr) (c0 : Nat) (l0 : List (S76)) (A1 : Option Addr) (c1 : Nat) (l1 : List (S76)) (r : Bool) (w : World) (hr0 : Kd.C k76 w A0 l0.length l0) (hc0 : l0.length ≤ c0) (hr1 : Kd.C k76 w A1 l1.length l1) (hc1 : l1.length ≤ c1) (h : winnowref03_Spans.f k l0 l1 = some r) :
  Calls Try.prog 53 #[.slice A0 l0.length c0, .slice A1 l1.length c1] w fun e w' => e = .returned (.bool r) ∧ Drawn0 w w' := by
 have hu76 := Try.underlying76; have HR0 := Aside0.mk hr0; have HC0 := Aside0.mk hc0; clear hr0 hc0; have HR1 := Aside0.mk hr1; have HC1 := Aside0.mk hc1; clear hr1 hc1; have H : (if (l0.length : Int) = (l1.length : Int) then (winnowref03_Spans.l0 k l0 l1 0) else (some false)) = some r := h; clear h
 by_cases c3 : (l0.length : Int) = (l1.length : Int)
 ·rw [if_pos c3] at H
  obtain ⟨c3b0, c3b1⟩ := Hand.Cz.eqT c3
  have c3b2 : (l0.length == l1.length) = true := by (simp at c3 ⊢; omega)
  clear c3
  have H' := Aside0.mk H
  clear H
  go_enter Try.func53, Try.ntmps53
  go_wp2
  go_loopg [5] k (fun kq v5 w' => ∃ (x5_1 : Int), v5 = .int .i64 x5_1 ∧ Aside0 (winnowref03_Spans.l0 kq l0 l1 x5_1 = some r) ∧ Aside0 (kq ≤ k) ∧ Drawn0 w w')
  case atStart => exact ⟨(0), (by (rfl)), H', ⟨Nat.le_refl _⟩, by repeat (exact Drawn0.refl _)⟩
  case round =>
   clear H'
   (try clear c3b0); (try clear c3b1); (try clear c3b2)
   obtain ⟨x5_1, rfl, HA, HK1, ⟨m1, rfl⟩⟩ := hrel
   cases gk with
   | zero => exact absurd HA.out (by simp [winnowref03_Spans.l0])
   | succ k1 =>
    have H := HA.out; clear HA
    simp only [winnowref03_Spans.l0] at H
    by_cases c4 : x5_1 < (l0.length : Int)
    ·rw [if_pos c4] at H
     have c4b0 : decide (x5_1 < (l0.length : Int)) = true := decide_eq_true c4; clear c4
     by_cases c5 : 0 ≤ x5_1
     ·rw [if_pos c5] at H
      have c5b0 : decide (0 ≤ x5_1) = true := decide_eq_true c5; clear c5
      by_cases c6 : x5_1 < (l1.length : Int)
      ·rw [if_pos c6] at H
       have c6b0 : decide (x5_1 < (l1.length : Int)) = true := decide_eq_true c6; clear c6
       by_cases c7 : (!(((rd_T76 l0 x5_1).f0) == ((rd_T76 l1 x5_1).f0)) || (!(((rd_T76 l0 x5_1).f1) == ((rd_T76 l1 x5_1).f1)) || (!(((rd_T76 l0 x5_1).f2) == ((rd_T76 l1 x5_1).f2)) || (!(((rd_T76 l0 x5_1).f3) == ((rd_T76 l1 x5_1).f3)) || (!(((rd_T76 l0 x5_1).f4) == ((rd_T76 l1 x5_1).f4)) || (!((((rd_T76 l0 x5_1).f5).toList) == (((rd_T76 l1 x5_1).f5).toList)) || (!((((rd_T76 l0 x5_1).f6).toList) == (((rd_T76 l1 x5_1).f6).toList)) || (!(((rd_T76 l0 x5_1).f7) == ((rd_T76 l1 x5_1).f7)))))))))) = true
       ·rw [if_pos c7] at H
        have c7b0 : (!(((rd_T76 l0 x5_1).f0) == ((rd_T76 l1 x5_1).f0)) || (!(((rd_T76 l0 x5_1).f1) == ((rd_T76 l1 x5_1).f1)) || (!(((rd_T76 l0 x5_1).f2) == ((rd_T76 l1 x5_1).f2)) || (!(((rd_T76 l0 x5_1).f3) == ((rd_T76 l1 x5_1).f3)) || (!(((rd_T76 l0 x5_1).f4) == ((rd_T76 l1 x5_1).f4)) || (!((((rd_T76 l0 x5_1).f5).toList) == (((rd_T76 l1 x5_1).f5).toList)) || (!((((rd_T76 l0 x5_1).f6).toList) == (((rd_T76 l1 x5_1).f6).toList)) || (!(((rd_T76 l0 x5_1).f7) == ((rd_T76 l1 x5_1).f7)))))))))) = true := c7; clear c7
        obtain rfl := Option.some.inj H
        have p186 : 0 ≤ (x5_1 : Int) := of_decide_eq_true (by (with_reducible assumption)); have q186 : x5_1 < (l0.length : Int) := of_decide_eq_true (by (with_reducible assumption))
        obtain ⟨ad186, e186, hx186_0, hx186_1, hx186_2, hx186_3, hx186_4, hx186_5, hx186_6, hx186_7⟩ := at_T76 HR0.out x5_1 p186 q186
        cases e186
        replace p186 := eq_true p186
        replace q186 := eq_true q186
        have p187 : 0 ≤ (x5_1 : Int) := of_decide_eq_true (by (with_reducible assumption)); have q187 : x5_1 < (l1.length : Int) := of_decide_eq_true (by (with_reducible assumption))
        obtain ⟨ad187, e187, hx187_0, hx187_1, hx187_2, hx187_3, hx187_4, hx187_5, hx187_6, hx187_7⟩ := at_T76 HR1.out x5_1 p187 q187
        cases e187
        replace p187 := eq_true p187
        replace q187 := eq_true q187
        go_wp2
        repeat (go_quiet (fail); try go_wp2)
        go_ret
        exact ⟨by (rfl), by repeat (first | exact Drawn0.refl _ | apply Drawn0.step)⟩
       ·rw [if_neg c7] at H
        have c7b0 : (!(((rd_T76 l0 x5_1).f0) == ((rd_T76 l1 x5_1).f0)) || (!(((rd_T76 l0 x5_1).f1) == ((rd_T76 l1 x5_1).f1)) || (!(((rd_T76 l0 x5_1).f2) == ((rd_T76 l1 x5_1).f2)) || (!(((rd_T76 l0 x5_1).f3) == ((rd_T76 l1 x5_1).f3)) || (!(((rd_T76 l0 x5_1).f4) == ((rd_T76 l1 x5_1).f4)) || (!((((rd_T76 l0 x5_1).f5).toList) == (((rd_T76 l1 x5_1).f5).toList)) || (!((((rd_T76 l0 x5_1).f6).toList) == (((rd_T76 l1 x5_1).f6).toList)) || (!(((rd_T76 l0 x5_1).f7) == ((rd_T76 l1 x5_1).f7)))))))))) = false := by simpa using c7
        clear c7
        have H' := Aside0.mk H
        clear H; have p186 : 0 ≤ (x5_1 : Int) := of_decide_eq_true (by (with_reducible assumption)); have q186 : x5_1 < (l0.length : Int) := of_decide_eq_true (by (with_reducible assumption))
        obtain ⟨ad186, e186, hx186_0, hx186_1, hx186_2, hx186_3, hx186_4, hx186_5, hx186_6, hx186_7⟩ := at_T76 HR0.out x5_1 p186 q186
        cases e186
        replace p186 := eq_true p186
        replace q186 := eq_true q186
        have p187 : 0 ≤ (x5_1 : Int) := of_decide_eq_true (by (with_reducible assumption)); have q187 : x5_1 < (l1.length : Int) := of_decide_eq_true (by (with_reducible assumption))
        obtain ⟨ad187, e187, hx187_0, hx187_1, hx187_2, hx187_3, hx187_4, hx187_5, hx187_6, hx187_7⟩ := at_T76 HR1.out x5_1 p187 q187
        cases e187
        replace p187 := eq_true p187
        replace q187 := eq_true q187
        go_wp2
        repeat (go_quiet (fail); try go_wp2)
        go_roundg k1
        case measure => have := HK1.out; omega
        case rel => exact ⟨(wrap64 (x5_1 + 1)), (by (rfl)), H', ⟨by have := HK1.out; omega⟩, by repeat (first | exact Drawn0.refl _ | apply Drawn0.step)⟩
      ·rw [if_neg c6] at H
       exact absurd H (by simp)
     ·rw [if_neg c5] at H
      exact absurd H (by simp)
    ·rw [if_neg c4] at H
     have c4b0 : decide (x5_1 < (l0.length : Int)) = false := decide_eq_false c4; clear c4
     obtain rfl := Option.some.inj H
     go_wp2
     go_ret
     exact ⟨by (rfl), by repeat (first | exact Drawn0.refl _ | apply Drawn0.step)⟩
 rw [if_neg c3] at H
 obtain ⟨c3b0, c3b1⟩ := Hand.Cz.eqF c3
 have c3b2 : (l0.length == l1.length) = false := by (simp at c3 ⊢; omega)
 obtain rfl := Option.some.inj H
 go_enter Try.func53, Try.ntmps53
 go_wp2
 go_ret
 exact ⟨by (rfl), by repeat (exact Drawn0.refl _)⟩

end Go.Proofs.Ytlpnpnjjmpkapaa.PAll
