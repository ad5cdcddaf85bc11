import Derived.Test.YtlpnpnjjmpkapaaPAllx0
import Derived.Test.YtlpnpnjjmpkapaaPAllx13
namespace Go.Proofs.Ytlpnpnjjmpkapaa.PAll
open Go.RowKit Go.Proofs.YtlpnpnjjmpkapaaW.PrintWords Go.Proofs.YtlpnpnjjmpkapaaW.PrintLast Go.Proofs.YtlpnpnjjmpkapaaW.PrintMore
attribute [local go_sem] max2_int min2_int max_two min_two max_three min_three max_four min_four   -- for this text's walks alone
set_option linter.unusedVariables false
set_option linter.unusedSimpArgs false

mutual
def winnowref05_Spans.l0 : Nat → Int → List (S76) → Int → Option (Bool)
 | 0, _, _, _ => none
 | k + 1, x0, x1, x5 => if x5 < (x1.length : Int) then (if 0 ≤ x5 then ((winnowref03_Right.f k ((rd_T76 x1 x5).f0) ((rd_T76 x1 x5).f1) ((rd_T76 x1 x5).f2) ((rd_T76 x1 x5).f3) ((rd_T76 x1 x5).f4) ((rd_T76 x1 x5).f5) ((rd_T76 x1 x5).f6) ((rd_T76 x1 x5).f7)).bind fun t164 => (if t164 = 0 then (winnowref05_Spans.j1 k x0 x1 x5 (((rd_T76 x1 x5).f0) != x0)) else (winnowref05_Spans.j1 k x0 x1 x5 true))) else (none)) else (if (x1.length : Int) ≥ 1 then (some (decide ((x1.length : Int) ≤ 16))) else (some false))
def winnowref05_Spans.j1 : Nat → Int → List (S76) → Int → Bool → Option (Bool)
 | 0, _, _, _, _ => none
 | k + 1, x0, x1, x5, x27 => if x27 = true then (some false) else (winnowref05_Spans.l1 k x0 x1 x5 0)
def winnowref05_Spans.l1 : Nat → Int → List (S76) → Int → Int → Option (Bool)
 | 0, _, _, _, _ => none
 | k + 1, x0, x1, x5, x6 => if x6 < x5 then (if 0 ≤ x6 then (if x6 < (x1.length : Int) then (if 0 ≤ x5 then (if x5 < (x1.length : Int) then (if ((rd_T76 x1 x6).f1) = ((rd_T76 x1 x5).f1) then (some false) else (winnowref05_Spans.l1 k x0 x1 x5 (wrap64 (x6 + 1)))) else (none)) else (none)) else (none)) else (none)) else (winnowref05_Spans.l0 k x0 x1 (wrap64 (x5 + 1)))
end
def winnowref05_Spans.f (k : Nat) (a0 : Int) (l1 : List (S76)) : Option (Bool) := winnowref05_Spans.l0 k a0 l1 0
set_option maxHeartbeats 40000000 in
set_option maxRecDepth 100000 in
theorem winnowref05_Spans.calls (k : Nat) (a0 : Int) (A1 : Option Addr) (c1 : Nat) (l1 : List (S76)) (r : Bool) (w : World) (hr1 : Kd.C k76 w A1 l1.length l1) (hc1 : l1.length ≤ c1) (h : winnowref05_Spans.f k a0 l1 = some r) :
  Calls Try.prog 33 #[.int .u64 a0, .slice A1 l1.length c1] w fun e w' => e = .returned (.bool r) ∧ Below w.heap.size w w' := by
 have hu76 := Try.underlying76; have HR1 := Aside0.mk hr1; have HC1 := Aside0.mk hc1; clear hr1 hc1; have HB := Aside0.mk (Below.refl w.heap.size w); have H : (winnowref05_Spans.l0 k a0 l1 0) = some r := h; clear h
 have H' := Aside0.mk H
 clear H
 go_enter Try.func33, Try.ntmps33
 go_wp2
 go_loopg [5] k (fun kq v5 w' => ∃ (x5_1 : Int), v5 = .int .i64 x5_1 ∧ Aside0 (winnowref05_Spans.l0 kq a0 l1 x5_1 = some r) ∧ Aside0 (kq ≤ k) ∧ Aside0 (Below w.heap.size w w'))
 case atStart => exact ⟨(0), (by (rfl)), H', ⟨Nat.le_refl _⟩, ⟨by repeat (with_reducible (exact HB.out))⟩⟩
 case round =>
  clear H'
  obtain ⟨x5_1, rfl, HA, HK1, HB⟩ := hrel
  cases gk with
  | zero => exact absurd HA.out (by simp [winnowref05_Spans.l0])
  | succ k1 =>
   have H := HA.out; clear HA
   simp only [winnowref05_Spans.l0] at H
   by_cases c3 : x5_1 < (l1.length : Int)
   ·rw [if_pos c3] at H
    have c3b0 : decide (x5_1 < (l1.length : Int)) = true := decide_eq_true c3; clear c3; have HC4 := Aside0.mk H; clear H
    go_upto_region 4 with (fail)
    go_cut [27] (fun v27 wc => ∃ (kq : Nat) (x27_3 : Bool), v27 = .bool x27_3 ∧ Aside0 (winnowref05_Spans.j1 kq a0 l1 x5_1 x27_3 = some r) ∧ Aside0 (kq ≤ k1) ∧ Aside0 (Below w.heap.size w wc))
    case first =>
     have H := HC4.out; clear HC4
     by_cases c5 : 0 ≤ x5_1
     ·rw [if_pos c5] at H
      have c5b0 : decide (0 ≤ x5_1) = true := decide_eq_true c5; clear c5
      (skip)
      replace H := Option.bind_eq_some_iff.mp H
      obtain ⟨t164, A60, H⟩ := H
      (try dsimp only at H)
      have A6 := Aside0.mk A60; clear A60
      by_cases c7 : t164 = 0
      ·rw [if_pos c7] at H
       obtain ⟨c7b0, c7b1⟩ := Hand.Cz.eqT c7; clear c7
       have H' := Aside0.mk H
       clear H; have p163 : 0 ≤ (x5_1 : Int) := of_decide_eq_true (by (with_reducible assumption)); have q163 : x5_1 < (l1.length : Int) := of_decide_eq_true (by (with_reducible assumption))
       obtain ⟨ad163, e163, hx163_0, hx163_1, hx163_2, hx163_3, hx163_4, hx163_5, hx163_6, hx163_7⟩ := at_T76 HR1.out x5_1 p163 q163
       cases e163
       replace hx163_0 := Hand.Cz.ov HB.out hx163_0
       replace hx163_1 := Hand.Cz.ov HB.out hx163_1
       replace hx163_2 := Hand.Cz.ov HB.out hx163_2
       replace hx163_3 := Hand.Cz.ov HB.out hx163_3
       replace hx163_4 := Hand.Cz.ov HB.out hx163_4
       replace hx163_5 := Hand.Cz.ov HB.out hx163_5
       replace hx163_6 := Hand.Cz.ov HB.out hx163_6
       replace hx163_7 := Hand.Cz.ov HB.out hx163_7
       replace p163 := eq_true p163
       replace q163 := eq_true q163
       go_wp2_with (go_at_call 71; (with_reducible refine (winnowref03_Right.calls k1 ((rd_T76 l1 x5_1).f0) ((rd_T76 l1 x5_1).f1) ((rd_T76 l1 x5_1).f2) ((rd_T76 l1 x5_1).f3) ((rd_T76 l1 x5_1).f4) ((rd_T76 l1 x5_1).f5) ((rd_T76 l1 x5_1).f6) ((rd_T76 l1 x5_1).f7) t164 _ A6.out).mono ?_); rintro e w8 ⟨rfl, hb⟩; have n0_ := Aside0.mk (below_step (by repeat (with_reducible (exact HB.out))) hb); clear HB; have HB := n0_; clear n0_; (try clear hb); have p165 : 0 ≤ (x5_1 : Int) := of_decide_eq_true (by (with_reducible assumption)); have q165 : x5_1 < (l1.length : Int) := of_decide_eq_true (by (with_reducible assumption)); obtain ⟨ad165, e165, hx165_0, hx165_1, hx165_2, hx165_3, hx165_4, hx165_5, hx165_6, hx165_7⟩ := at_T76 HR1.out x5_1 p165 q165; obtain rfl : ad163 = ad165 := (by injection e165); replace hx165_0 := Hand.Cz.ov HB.out hx165_0; replace hx165_1 := Hand.Cz.ov HB.out hx165_1; replace hx165_2 := Hand.Cz.ov HB.out hx165_2; replace hx165_3 := Hand.Cz.ov HB.out hx165_3; replace hx165_4 := Hand.Cz.ov HB.out hx165_4; replace hx165_5 := Hand.Cz.ov HB.out hx165_5; replace hx165_6 := Hand.Cz.ov HB.out hx165_6; replace hx165_7 := Hand.Cz.ov HB.out hx165_7; replace p165 := eq_true p165; replace q165 := eq_true q165)
       go_meet
       case rel => exact ⟨_, ((((rd_T76 l1 x5_1).f0) != a0)), (by (rfl)), H', ⟨by have := HK1.out; (omega)⟩, ⟨by repeat (with_reducible (exact HB.out))⟩⟩
      ·rw [if_neg c7] at H
       obtain ⟨c7b0, c7b1⟩ := Hand.Cz.eqF c7
       have H' := Aside0.mk H
       clear H; have p163 : 0 ≤ (x5_1 : Int) := of_decide_eq_true (by (with_reducible assumption)); have q163 : x5_1 < (l1.length : Int) := of_decide_eq_true (by (with_reducible assumption))
       obtain ⟨ad163, e163, hx163_0, hx163_1, hx163_2, hx163_3, hx163_4, hx163_5, hx163_6, hx163_7⟩ := at_T76 HR1.out x5_1 p163 q163
       cases e163
       replace hx163_0 := Hand.Cz.ov HB.out hx163_0
       replace hx163_1 := Hand.Cz.ov HB.out hx163_1
       replace hx163_2 := Hand.Cz.ov HB.out hx163_2
       replace hx163_3 := Hand.Cz.ov HB.out hx163_3
       replace hx163_4 := Hand.Cz.ov HB.out hx163_4
       replace hx163_5 := Hand.Cz.ov HB.out hx163_5
       replace hx163_6 := Hand.Cz.ov HB.out hx163_6
       replace hx163_7 := Hand.Cz.ov HB.out hx163_7
       replace p163 := eq_true p163
       replace q163 := eq_true q163
       go_wp2_with (go_at_call 71; (with_reducible refine (winnowref03_Right.calls k1 ((rd_T76 l1 x5_1).f0) ((rd_T76 l1 x5_1).f1) ((rd_T76 l1 x5_1).f2) ((rd_T76 l1 x5_1).f3) ((rd_T76 l1 x5_1).f4) ((rd_T76 l1 x5_1).f5) ((rd_T76 l1 x5_1).f6) ((rd_T76 l1 x5_1).f7) t164 _ A6.out).mono ?_); rintro e w9 ⟨rfl, hb⟩; have n0_ := Aside0.mk (below_step (by repeat (with_reducible (exact HB.out))) hb); clear HB; have HB := n0_; clear n0_; (try clear hb))
       go_meet
       case rel => exact ⟨_, (true), (by (rfl)), H', ⟨by have := HK1.out; (omega)⟩, ⟨by repeat (with_reducible (exact HB.out))⟩⟩
     ·rw [if_neg c5] at H
      exact absurd H (by simp)
    case rest =>
     clear HC4; (try clear c3b0)
     obtain ⟨kq, x27_3, rfl, HA, HJ3, HB⟩ := hcut
     cases kq with
     | zero => exact absurd HA.out (by simp [winnowref05_Spans.j1])
     | succ kj3 =>
      have H := HA.out; clear HA
      simp only [winnowref05_Spans.j1] at H
      by_cases c10 : x27_3 = true
      ·subst c10
       rw [if_pos rfl] at H
       obtain rfl := Option.some.inj H
       go_wp2
       go_ret
       exact ⟨by (rfl), by repeat (with_reducible (exact HB.out))⟩
      ·replace c10 := Bool.eq_false_iff.mpr c10
       subst c10
       rw [if_neg (show ¬ (false = true) by decide)] at H
       have H' := Aside0.mk H
       clear H
       go_wp2
       go_loopg [6] kj3 (fun kq v6 w' => ∃ (x6_3 : Int), v6 = .int .i64 x6_3 ∧ Aside0 (winnowref05_Spans.l1 kq a0 l1 x5_1 x6_3 = some r) ∧ Aside0 (kq ≤ kj3) ∧ Aside0 (Below w.heap.size w w'))
       case atStart => exact ⟨(0), (by (rfl)), H', ⟨Nat.le_refl _⟩, ⟨by repeat (with_reducible (exact HB.out))⟩⟩
       case round =>
        clear H'
        obtain ⟨x6_3, rfl, HA, HK3, HB⟩ := hrel
        cases gk with
        | zero => exact absurd HA.out (by simp [winnowref05_Spans.l1])
        | succ k3 =>
         have H := HA.out; clear HA
         simp only [winnowref05_Spans.l1] at H
         by_cases c11 : x6_3 < x5_1
         ·rw [if_pos c11] at H
          have c11b0 : decide (x6_3 < x5_1) = true := decide_eq_true c11; clear c11
          by_cases c12 : 0 ≤ x6_3
          ·rw [if_pos c12] at H
           have c12b0 : decide (0 ≤ x6_3) = true := decide_eq_true c12; clear c12
           by_cases c13 : x6_3 < (l1.length : Int)
           ·rw [if_pos c13] at H
            have c13b0 : decide (x6_3 < (l1.length : Int)) = true := decide_eq_true c13; clear c13
            by_cases c14 : 0 ≤ x5_1
            ·rw [if_pos c14] at H
             have c14b0 : decide (0 ≤ x5_1) = true := decide_eq_true c14; clear c14
             by_cases c15 : x5_1 < (l1.length : Int)
             ·rw [if_pos c15] at H
              have c15b0 : decide (x5_1 < (l1.length : Int)) = true := decide_eq_true c15; clear c15
              by_cases c16 : ((rd_T76 l1 x6_3).f1) = ((rd_T76 l1 x5_1).f1)
              ·rw [if_pos c16] at H
               obtain ⟨c16b0, c16b1⟩ := Hand.Cz.eqT c16; clear c16
               obtain rfl := Option.some.inj H
               have p166 : 0 ≤ (x6_3 : Int) := of_decide_eq_true (by (with_reducible assumption)); have q166 : x6_3 < (l1.length : Int) := of_decide_eq_true (by (with_reducible assumption))
               obtain ⟨ad166, e166, hx166_0, hx166_1, hx166_2, hx166_3, hx166_4, hx166_5, hx166_6, hx166_7⟩ := at_T76 HR1.out x6_3 p166 q166
               cases e166
               replace hx166_0 := Hand.Cz.ov HB.out hx166_0
               replace hx166_1 := Hand.Cz.ov HB.out hx166_1
               replace hx166_2 := Hand.Cz.ov HB.out hx166_2
               replace hx166_3 := Hand.Cz.ov HB.out hx166_3
               replace hx166_4 := Hand.Cz.ov HB.out hx166_4
               replace hx166_5 := Hand.Cz.ov HB.out hx166_5
               replace hx166_6 := Hand.Cz.ov HB.out hx166_6
               replace hx166_7 := Hand.Cz.ov HB.out hx166_7
               replace p166 := eq_true p166
               replace q166 := eq_true q166
               have p167 : 0 ≤ (x5_1 : Int) := of_decide_eq_true (by (with_reducible assumption)); have q167 : x5_1 < (l1.length : Int) := of_decide_eq_true (by (with_reducible assumption))
               obtain ⟨ad167, e167, hx167_0, hx167_1, hx167_2, hx167_3, hx167_4, hx167_5, hx167_6, hx167_7⟩ := at_T76 HR1.out x5_1 p167 q167
               obtain rfl : ad166 = ad167 := (by injection e167)
               replace hx167_0 := Hand.Cz.ov HB.out hx167_0
               replace hx167_1 := Hand.Cz.ov HB.out hx167_1
               replace hx167_2 := Hand.Cz.ov HB.out hx167_2
               replace hx167_3 := Hand.Cz.ov HB.out hx167_3
               replace hx167_4 := Hand.Cz.ov HB.out hx167_4
               replace hx167_5 := Hand.Cz.ov HB.out hx167_5
               replace hx167_6 := Hand.Cz.ov HB.out hx167_6
               replace hx167_7 := Hand.Cz.ov HB.out hx167_7
               replace p167 := eq_true p167
               replace q167 := eq_true q167
               go_wp2
               repeat (go_quiet (fail); try go_wp2)
               go_ret
               exact ⟨by (rfl), by repeat (with_reducible first | exact HB.out | apply pw_below_drewN)⟩
              ·rw [if_neg c16] at H
               obtain ⟨c16b0, c16b1⟩ := Hand.Cz.eqF c16
               have H' := Aside0.mk H
               clear H; have p166 : 0 ≤ (x6_3 : Int) := of_decide_eq_true (by (with_reducible assumption)); have q166 : x6_3 < (l1.length : Int) := of_decide_eq_true (by (with_reducible assumption))
               obtain ⟨ad166, e166, hx166_0, hx166_1, hx166_2, hx166_3, hx166_4, hx166_5, hx166_6, hx166_7⟩ := at_T76 HR1.out x6_3 p166 q166
               cases e166
               replace hx166_0 := Hand.Cz.ov HB.out hx166_0
               replace hx166_1 := Hand.Cz.ov HB.out hx166_1
               replace hx166_2 := Hand.Cz.ov HB.out hx166_2
               replace hx166_3 := Hand.Cz.ov HB.out hx166_3
               replace hx166_4 := Hand.Cz.ov HB.out hx166_4
               replace hx166_5 := Hand.Cz.ov HB.out hx166_5
               replace hx166_6 := Hand.Cz.ov HB.out hx166_6
               replace hx166_7 := Hand.Cz.ov HB.out hx166_7
               replace p166 := eq_true p166
               replace q166 := eq_true q166
               have p167 : 0 ≤ (x5_1 : Int) := of_decide_eq_true (by (with_reducible assumption)); have q167 : x5_1 < (l1.length : Int) := of_decide_eq_true (by (with_reducible assumption))
               obtain ⟨ad167, e167, hx167_0, hx167_1, hx167_2, hx167_3, hx167_4, hx167_5, hx167_6, hx167_7⟩ := at_T76 HR1.out x5_1 p167 q167
               obtain rfl : ad166 = ad167 := (by injection e167)
               replace hx167_0 := Hand.Cz.ov HB.out hx167_0
               replace hx167_1 := Hand.Cz.ov HB.out hx167_1
               replace hx167_2 := Hand.Cz.ov HB.out hx167_2
               replace hx167_3 := Hand.Cz.ov HB.out hx167_3
               replace hx167_4 := Hand.Cz.ov HB.out hx167_4
               replace hx167_5 := Hand.Cz.ov HB.out hx167_5
               replace hx167_6 := Hand.Cz.ov HB.out hx167_6
               replace hx167_7 := Hand.Cz.ov HB.out hx167_7
               replace p167 := eq_true p167
               replace q167 := eq_true q167
               go_wp2
               repeat (go_quiet (fail); try go_wp2)
               go_roundg k3
               case measure => have := HK1.out; have := HJ3.out; have := HK3.out; omega
               case rel => exact ⟨(wrap64 (x6_3 + 1)), (by (rfl)), H', ⟨by have := HK1.out; have := HJ3.out; have := HK3.out; omega⟩, ⟨by repeat (with_reducible first | exact HB.out | apply pw_below_drewN)⟩⟩
             ·rw [if_neg c15] at H
              exact absurd H (by simp)
            ·rw [if_neg c14] at H
             exact absurd H (by simp)
           ·rw [if_neg c13] at H
            exact absurd H (by simp)
          ·rw [if_neg c12] at H
           exact absurd H (by simp)
         ·rw [if_neg c11] at H
          have c11b0 : decide (x6_3 < x5_1) = false := decide_eq_false c11; clear c11
          have H' := Aside0.mk H
          clear H
          go_wp2
          go_roundg k3
          case measure => have := HK1.out; have := HJ3.out; have := HK3.out; omega
          case rel => exact ⟨(wrap64 (x5_1 + 1)), (by (rfl)), H', ⟨by have := HK1.out; have := HJ3.out; have := HK3.out; omega⟩, ⟨by repeat (with_reducible (exact HB.out))⟩⟩
   ·rw [if_neg c3] at H
    have c3b0 : decide (x5_1 < (l1.length : Int)) = false := decide_eq_false c3; clear c3
    by_cases c17 : (l1.length : Int) ≥ 1
    ·rw [if_pos c17] at H
     have c17b0 : decide (1 ≤ (l1.length : Int)) = true := decide_eq_true c17; have c17b1 : decide (1 ≤ l1.length) = true := decide_eq_true (by omega); clear c17
     obtain rfl := Option.some.inj H
     go_wp2
     go_ret
     exact ⟨by (rfl), by repeat (with_reducible (exact HB.out))⟩
    ·rw [if_neg c17] at H
     have c17b0 : decide (1 ≤ (l1.length : Int)) = false := decide_eq_false c17; have c17b1 : decide (1 ≤ l1.length) = false := decide_eq_false (by omega); clear c17
     obtain rfl := Option.some.inj H
     go_wp2
     go_ret
     exact ⟨by (rfl), by repeat (with_reducible (exact HB.out))⟩

def winnowref05_Members.l0 : Nat → List (S92) → Int → Option (Bool)
 | 0, _, _ => none
 | k + 1, x0, x3 => if x3 < (x0.length : Int) then (if 0 ≤ x3 then (if ((rd_T92 x0 x3).f0) = 0 then (some false) else (if ((rd_T92 x0 x3).f1) = 0 then (some false) else (if ((rd_T92 x0 x3).f2) < 0 then (some false) else (if ((rd_T92 x0 x3).f2) > 2 then (some false) else (if x3 > 0 then (if 0 ≤ (wrap64 (x3 - 1)) then (if (wrap64 (x3 - 1)) < (x0.length : Int) then (if ((rd_T92 x0 (wrap64 (x3 - 1))).f0) ≥ ((rd_T92 x0 x3).f0) then (some false) else (winnowref05_Members.l0 k x0 (wrap64 (x3 + 1)))) else (none)) else (none)) else (winnowref05_Members.l0 k x0 (wrap64 (x3 + 1)))))))) else (none)) else (if (x0.length : Int) ≥ 1 then (some (decide ((x0.length : Int) ≤ 16))) else (some false))
def winnowref05_Members.f (k : Nat) (l0 : List (S92)) : Option (Bool) := winnowref05_Members.l0 k l0 0
set_option maxHeartbeats 40000000 in
set_option maxRecDepth 100000 in
theorem winnowref05_Members.calls (k : Nat) (A0 : Option Addr) (c0 : Nat) (l0 : List (S92)) (r : Bool) (w : World) (hr0 : Kd.C k92 w A0 l0.length l0) (hc0 : l0.length ≤ c0) (h : winnowref05_Members.f k l0 = some r) :
  Calls Try.prog 34 #[.slice A0 l0.length c0] w fun e w' => e = .returned (.bool r) ∧ Below w.heap.size w w' := by
 have hu92 := Try.underlying92; have HR0 := Aside0.mk hr0; have HC0 := Aside0.mk hc0; clear hr0 hc0; have HB := Aside0.mk (Below.refl w.heap.size w); have H : (winnowref05_Members.l0 k l0 0) = some r := h; clear h
 have H' := Aside0.mk H
 clear H
 go_enter Try.func34, Try.ntmps34
 go_wp2
 go_loopg [3] k (fun kq v3 w' => ∃ (x3_1 : Int), v3 = .int .i64 x3_1 ∧ Aside0 (winnowref05_Members.l0 kq l0 x3_1 = some r) ∧ Aside0 (kq ≤ k) ∧ Aside0 (Below w.heap.size w w'))
 case atStart => exact ⟨(0), (by (rfl)), H', ⟨Nat.le_refl _⟩, ⟨by repeat (with_reducible (exact HB.out))⟩⟩
 case round =>
  clear H'
  obtain ⟨x3_1, rfl, HA, HK1, HB⟩ := hrel
  cases gk with
  | zero => exact absurd HA.out (by simp [winnowref05_Members.l0])
  | succ k1 =>
   have H := HA.out; clear HA
   simp only [winnowref05_Members.l0] at H
   by_cases c2 : x3_1 < (l0.length : Int)
   ·rw [if_pos c2] at H
    have c2b0 : decide (x3_1 < (l0.length : Int)) = true := decide_eq_true c2; clear c2
    by_cases c3 : 0 ≤ x3_1
    ·rw [if_pos c3] at H
     have c3b0 : decide (0 ≤ x3_1) = true := decide_eq_true c3; clear c3
     by_cases c4 : ((rd_T92 l0 x3_1).f0) = 0
     ·rw [if_pos c4] at H
      obtain ⟨c4b0, c4b1⟩ := Hand.Cz.eqT c4; clear c4
      obtain rfl := Option.some.inj H
      have p168 : 0 ≤ (x3_1 : Int) := of_decide_eq_true (by (with_reducible assumption)); have q168 : x3_1 < (l0.length : Int) := of_decide_eq_true (by (with_reducible assumption))
      obtain ⟨ad168, e168, hx168_0, hx168_1, hx168_2⟩ := at_T92 HR0.out x3_1 p168 q168
      cases e168
      replace hx168_0 := Hand.Cz.ov HB.out hx168_0
      replace hx168_1 := Hand.Cz.ov HB.out hx168_1
      replace hx168_2 := Hand.Cz.ov HB.out hx168_2
      replace p168 := eq_true p168
      replace q168 := eq_true q168
      go_wp2_with ((with_reducible refine gate_dst (N := 4) rfl ?_); (try (refine gate_guard (by rfl) ?_; dsimp only)); refine box_event ?hg (N := 4) ?hd (cs := #[.int .u64 0, .int .u64 0, .int .i64 0]) (t := 92) ?hr ?_; (case hd => rfl); (case hg => rfl); (case hr => (go_simp; done)); intro gb169 hg w5 hbox hb; have n0_ := Aside0.mk (below_step (by repeat (with_reducible (exact HB.out))) hb); have n1_ := Aside0.mk (hbox); have n2_ := Aside0.mk ((by rw [hg]; exact (below_size (by repeat (with_reducible (exact HB.out)))) : w.heap.size ≤ gb169)); have n3_ := n2_; clear HB; have HB := n0_; have BK169 := n1_; have GW169 := n2_; have GE169 := n3_; clear n0_ n1_ n2_ n3_; clear hb hbox hg; obtain ⟨z6_0, z6_1, z6_2⟩ := Hand.Cz.c3 BK169.out; obtain ⟨y6_0, y6_1, y6_2⟩ := Hand.Cz.f3 BK169.out)
      repeat (go_quiet (fail); try go_wp2_with (fail))
      go_ret
      exact ⟨by (rfl), by repeat (with_reducible first | exact HB.out | apply pw_below_drewN | refine below_set ?_ GE169.out)⟩
     ·rw [if_neg c4] at H
      obtain ⟨c4b0, c4b1⟩ := Hand.Cz.eqF c4
      by_cases c7 : ((rd_T92 l0 x3_1).f1) = 0
      ·rw [if_pos c7] at H
       obtain ⟨c7b0, c7b1⟩ := Hand.Cz.eqT c7; clear c7
       obtain rfl := Option.some.inj H
       have p168 : 0 ≤ (x3_1 : Int) := of_decide_eq_true (by (with_reducible assumption)); have q168 : x3_1 < (l0.length : Int) := of_decide_eq_true (by (with_reducible assumption))
       obtain ⟨ad168, e168, hx168_0, hx168_1, hx168_2⟩ := at_T92 HR0.out x3_1 p168 q168
       cases e168
       replace hx168_0 := Hand.Cz.ov HB.out hx168_0
       replace hx168_1 := Hand.Cz.ov HB.out hx168_1
       replace hx168_2 := Hand.Cz.ov HB.out hx168_2
       replace p168 := eq_true p168
       replace q168 := eq_true q168
       go_wp2_with ((with_reducible refine gate_dst (N := 4) rfl ?_); (try (refine gate_guard (by rfl) ?_; dsimp only)); refine box_event ?hg (N := 4) ?hd (cs := #[.int .u64 0, .int .u64 0, .int .i64 0]) (t := 92) ?hr ?_; (case hd => rfl); (case hg => rfl); (case hr => (go_simp; done)); intro gb169 hg w8 hbox hb; have n0_ := Aside0.mk (below_step (by repeat (with_reducible (exact HB.out))) hb); have n1_ := Aside0.mk (hbox); have n2_ := Aside0.mk ((by rw [hg]; exact (below_size (by repeat (with_reducible (exact HB.out)))) : w.heap.size ≤ gb169)); have n3_ := n2_; clear HB; have HB := n0_; have BK169 := n1_; have GW169 := n2_; have GE169 := n3_; clear n0_ n1_ n2_ n3_; clear hb hbox hg; obtain ⟨z9_0, z9_1, z9_2⟩ := Hand.Cz.c3 BK169.out; obtain ⟨y9_0, y9_1, y9_2⟩ := Hand.Cz.f3 BK169.out)
       repeat (go_quiet (fail); try go_wp2_with (fail))
       go_ret
       exact ⟨by (rfl), by repeat (with_reducible first | exact HB.out | apply pw_below_drewN | refine below_set ?_ GE169.out)⟩
      ·rw [if_neg c7] at H
       obtain ⟨c7b0, c7b1⟩ := Hand.Cz.eqF c7
       by_cases c10 : ((rd_T92 l0 x3_1).f2) < 0
       ·rw [if_pos c10] at H
        have c10b0 : decide (((rd_T92 l0 x3_1).f2) < 0) = true := decide_eq_true c10; clear c10
        obtain rfl := Option.some.inj H
        have p168 : 0 ≤ (x3_1 : Int) := of_decide_eq_true (by (with_reducible assumption)); have q168 : x3_1 < (l0.length : Int) := of_decide_eq_true (by (with_reducible assumption))
        obtain ⟨ad168, e168, hx168_0, hx168_1, hx168_2⟩ := at_T92 HR0.out x3_1 p168 q168
        cases e168
        replace hx168_0 := Hand.Cz.ov HB.out hx168_0
        replace hx168_1 := Hand.Cz.ov HB.out hx168_1
        replace hx168_2 := Hand.Cz.ov HB.out hx168_2
        replace p168 := eq_true p168
        replace q168 := eq_true q168
        go_wp2_with ((with_reducible refine gate_dst (N := 4) rfl ?_); (try (refine gate_guard (by rfl) ?_; dsimp only)); refine box_event ?hg (N := 4) ?hd (cs := #[.int .u64 0, .int .u64 0, .int .i64 0]) (t := 92) ?hr ?_; (case hd => rfl); (case hg => rfl); (case hr => (go_simp; done)); intro gb169 hg w11 hbox hb; have n0_ := Aside0.mk (below_step (by repeat (with_reducible (exact HB.out))) hb); have n1_ := Aside0.mk (hbox); have n2_ := Aside0.mk ((by rw [hg]; exact (below_size (by repeat (with_reducible (exact HB.out)))) : w.heap.size ≤ gb169)); have n3_ := n2_; clear HB; have HB := n0_; have BK169 := n1_; have GW169 := n2_; have GE169 := n3_; clear n0_ n1_ n2_ n3_; clear hb hbox hg; obtain ⟨z12_0, z12_1, z12_2⟩ := Hand.Cz.c3 BK169.out; obtain ⟨y12_0, y12_1, y12_2⟩ := Hand.Cz.f3 BK169.out)
        repeat (go_quiet (fail); try go_wp2_with (fail))
        go_ret
        exact ⟨by (rfl), by repeat (with_reducible first | exact HB.out | apply pw_below_drewN | refine below_set ?_ GE169.out)⟩
       ·rw [if_neg c10] at H
        have c10b0 : decide (((rd_T92 l0 x3_1).f2) < 0) = false := decide_eq_false c10; clear c10
        by_cases c13 : ((rd_T92 l0 x3_1).f2) > 2
        ·rw [if_pos c13] at H
         have c13b0 : decide (2 < ((rd_T92 l0 x3_1).f2)) = true := decide_eq_true c13; clear c13
         obtain rfl := Option.some.inj H
         have p168 : 0 ≤ (x3_1 : Int) := of_decide_eq_true (by (with_reducible assumption)); have q168 : x3_1 < (l0.length : Int) := of_decide_eq_true (by (with_reducible assumption))
         obtain ⟨ad168, e168, hx168_0, hx168_1, hx168_2⟩ := at_T92 HR0.out x3_1 p168 q168
         cases e168
         replace hx168_0 := Hand.Cz.ov HB.out hx168_0
         replace hx168_1 := Hand.Cz.ov HB.out hx168_1
         replace hx168_2 := Hand.Cz.ov HB.out hx168_2
         replace p168 := eq_true p168
         replace q168 := eq_true q168
         go_wp2_with ((with_reducible refine gate_dst (N := 4) rfl ?_); (try (refine gate_guard (by rfl) ?_; dsimp only)); refine box_event ?hg (N := 4) ?hd (cs := #[.int .u64 0, .int .u64 0, .int .i64 0]) (t := 92) ?hr ?_; (case hd => rfl); (case hg => rfl); (case hr => (go_simp; done)); intro gb169 hg w14 hbox hb; have n0_ := Aside0.mk (below_step (by repeat (with_reducible (exact HB.out))) hb); have n1_ := Aside0.mk (hbox); have n2_ := Aside0.mk ((by rw [hg]; exact (below_size (by repeat (with_reducible (exact HB.out)))) : w.heap.size ≤ gb169)); have n3_ := n2_; clear HB; have HB := n0_; have BK169 := n1_; have GW169 := n2_; have GE169 := n3_; clear n0_ n1_ n2_ n3_; clear hb hbox hg; obtain ⟨z15_0, z15_1, z15_2⟩ := Hand.Cz.c3 BK169.out; obtain ⟨y15_0, y15_1, y15_2⟩ := Hand.Cz.f3 BK169.out)
         repeat (go_quiet (fail); try go_wp2_with (fail))
         go_ret
         exact ⟨by (rfl), by repeat (with_reducible first | exact HB.out | apply pw_below_drewN | refine below_set ?_ GE169.out)⟩
        ·rw [if_neg c13] at H
         have c13b0 : decide (2 < ((rd_T92 l0 x3_1).f2)) = false := decide_eq_false c13; clear c13
         by_cases c16 : x3_1 > 0
         ·rw [if_pos c16] at H
          have c16b0 : decide (0 < x3_1) = true := decide_eq_true c16; clear c16
          obtain ⟨ji17, hji17⟩ : ∃ j_ : Int, (wrap64 (x3_1 - 1)) = j_ := ⟨_, rfl⟩
          replace H : (if 0 ≤ (ji17) then (if (ji17) < (l0.length : Int) then (if ((rd_T92 l0 (ji17)).f0) ≥ ((rd_T92 l0 x3_1).f0) then (some false) else (winnowref05_Members.l0 k1 l0 (wrap64 (x3_1 + 1)))) else (none)) else (none)) = some r := by (rw [hji17] at H; exact H)
          have hji17w : (IntKind.i64.wrap (x3_1 - 1)) = ji17 := (i64_w _).trans hji17
          by_cases c18 : 0 ≤ (ji17)
          ·rw [if_pos c18] at H
           have c18b0 : decide (0 ≤ (ji17)) = true := decide_eq_true c18; clear c18
           by_cases c19 : (ji17) < (l0.length : Int)
           ·rw [if_pos c19] at H
            have c19b0 : decide ((ji17) < (l0.length : Int)) = true := decide_eq_true c19; clear c19
            by_cases c20 : ((rd_T92 l0 (ji17)).f0) ≥ ((rd_T92 l0 x3_1).f0)
            ·rw [if_pos c20] at H
             have c20b0 : decide (((rd_T92 l0 x3_1).f0) ≤ ((rd_T92 l0 (ji17)).f0)) = true := decide_eq_true c20; clear c20
             obtain rfl := Option.some.inj H
             have p168 : 0 ≤ (x3_1 : Int) := of_decide_eq_true (by (with_reducible assumption)); have q168 : x3_1 < (l0.length : Int) := of_decide_eq_true (by (with_reducible assumption))
             obtain ⟨ad168, e168, hx168_0, hx168_1, hx168_2⟩ := at_T92 HR0.out x3_1 p168 q168
             cases e168
             replace hx168_0 := Hand.Cz.ov HB.out hx168_0
             replace hx168_1 := Hand.Cz.ov HB.out hx168_1
             replace hx168_2 := Hand.Cz.ov HB.out hx168_2
             replace p168 := eq_true p168
             replace q168 := eq_true q168
             go_wp2_with ((with_reducible refine gate_dst (N := 4) rfl ?_); (try (refine gate_guard (by rfl) ?_; dsimp only)); refine box_event ?hg (N := 4) ?hd (cs := #[.int .u64 0, .int .u64 0, .int .i64 0]) (t := 92) ?hr ?_; (case hd => rfl); (case hg => rfl); (case hr => (go_simp; done)); intro gb169 hg w21 hbox hb; have n0_ := Aside0.mk (below_step (by repeat (with_reducible (exact HB.out))) hb); have n1_ := Aside0.mk (hbox); have n2_ := Aside0.mk ((by rw [hg]; exact (below_size (by repeat (with_reducible (exact HB.out)))) : w.heap.size ≤ gb169)); have n3_ := n2_; clear HB; have HB := n0_; have BK169 := n1_; have GW169 := n2_; have GE169 := n3_; clear n0_ n1_ n2_ n3_; clear hb hbox hg; obtain ⟨z22_0, z22_1, z22_2⟩ := Hand.Cz.c3 BK169.out; obtain ⟨y22_0, y22_1, y22_2⟩ := Hand.Cz.f3 BK169.out; have p170 : 0 ≤ ((ji17) : Int) := of_decide_eq_true (by (with_reducible assumption)); have q170 : (ji17) < (l0.length : Int) := of_decide_eq_true (by (with_reducible assumption)); obtain ⟨ad170, e170, hx170_0, hx170_1, hx170_2⟩ := at_T92 HR0.out (ji17) p170 q170; obtain rfl : ad168 = ad170 := (by injection e170); have hn170_0 : ad168.block ≠ gb169 := Nat.ne_of_lt (Nat.lt_of_lt_of_le (by have := World.block_lt_of_cell? _ _ hx170_0; (rwa [add_block] at this)) GW169.out); have hn170_1 : ad168.block ≠ gb169 := Nat.ne_of_lt (Nat.lt_of_lt_of_le (by have := World.block_lt_of_cell? _ _ hx170_0; (rwa [add_block] at this)) GW169.out); have hn170_2 : ad168.block ≠ gb169 := Nat.ne_of_lt (Nat.lt_of_lt_of_le (by have := World.block_lt_of_cell? _ _ hx170_0; (rwa [add_block] at this)) GW169.out); replace hx170_0 := Hand.Cz.ov HB.out hx170_0; replace hx170_1 := Hand.Cz.ov HB.out hx170_1; replace hx170_2 := Hand.Cz.ov HB.out hx170_2; replace hx170_0 := (cell_far (p := ⟨gb169, 0, none⟩) (by (rw [add_block]; exact hn170_0)) (.int .u64 ((rd_T92 l0 x3_1).f0))).trans hx170_0; replace hx170_1 := (cell_far (p := ⟨gb169, 0, none⟩) (by (rw [add_block]; exact hn170_0)) (.int .u64 ((rd_T92 l0 x3_1).f0))).trans hx170_1; replace hx170_2 := (cell_far (p := ⟨gb169, 0, none⟩) (by (rw [add_block]; exact hn170_0)) (.int .u64 ((rd_T92 l0 x3_1).f0))).trans hx170_2; replace hx170_0 := (cell_far (p := ⟨gb169, 1, none⟩) (by (rw [add_block]; exact hn170_1)) (.int .u64 ((rd_T92 l0 x3_1).f1))).trans hx170_0; replace hx170_1 := (cell_far (p := ⟨gb169, 1, none⟩) (by (rw [add_block]; exact hn170_1)) (.int .u64 ((rd_T92 l0 x3_1).f1))).trans hx170_1; replace hx170_2 := (cell_far (p := ⟨gb169, 1, none⟩) (by (rw [add_block]; exact hn170_1)) (.int .u64 ((rd_T92 l0 x3_1).f1))).trans hx170_2; replace hx170_0 := (cell_far (p := ⟨gb169, 2, none⟩) (by (rw [add_block]; exact hn170_2)) (.int .i64 ((rd_T92 l0 x3_1).f2))).trans hx170_0; replace hx170_1 := (cell_far (p := ⟨gb169, 2, none⟩) (by (rw [add_block]; exact hn170_2)) (.int .i64 ((rd_T92 l0 x3_1).f2))).trans hx170_1; replace hx170_2 := (cell_far (p := ⟨gb169, 2, none⟩) (by (rw [add_block]; exact hn170_2)) (.int .i64 ((rd_T92 l0 x3_1).f2))).trans hx170_2; (try have hy170_0 := fun (n_ : Nat) => (show (((((w21.drewN n_).setCell ⟨gb169, 0, none⟩ (.int .u64 ((rd_T92 l0 x3_1).f0))).setCell ⟨gb169, 1, none⟩ (.int .u64 ((rd_T92 l0 x3_1).f1))).setCell ⟨gb169, 2, none⟩ (.int .i64 ((rd_T92 l0 x3_1).f2)))).cell? _ = some _ from hx170_0)); (try have hy170_1 := fun (n_ : Nat) => (show (((((w21.drewN n_).setCell ⟨gb169, 0, none⟩ (.int .u64 ((rd_T92 l0 x3_1).f0))).setCell ⟨gb169, 1, none⟩ (.int .u64 ((rd_T92 l0 x3_1).f1))).setCell ⟨gb169, 2, none⟩ (.int .i64 ((rd_T92 l0 x3_1).f2)))).cell? _ = some _ from hx170_1)); (try have hy170_2 := fun (n_ : Nat) => (show (((((w21.drewN n_).setCell ⟨gb169, 0, none⟩ (.int .u64 ((rd_T92 l0 x3_1).f0))).setCell ⟨gb169, 1, none⟩ (.int .u64 ((rd_T92 l0 x3_1).f1))).setCell ⟨gb169, 2, none⟩ (.int .i64 ((rd_T92 l0 x3_1).f2)))).cell? _ = some _ from hx170_2)); clear hn170_0; clear hn170_1; clear hn170_2; replace p170 := eq_true p170; replace q170 := eq_true q170)
             repeat (go_quiet (fail); try go_wp2_with (fail))
             go_ret
             exact ⟨by (rfl), by repeat (with_reducible first | exact HB.out | apply pw_below_drewN | refine below_set ?_ GE169.out)⟩
            ·rw [if_neg c20] at H
             have c20b0 : decide (((rd_T92 l0 x3_1).f0) ≤ ((rd_T92 l0 (ji17)).f0)) = false := decide_eq_false c20; clear c20
             have H' := Aside0.mk H
             clear H; have p168 : 0 ≤ (x3_1 : Int) := of_decide_eq_true (by (with_reducible assumption)); have q168 : x3_1 < (l0.length : Int) := of_decide_eq_true (by (with_reducible assumption))
             obtain ⟨ad168, e168, hx168_0, hx168_1, hx168_2⟩ := at_T92 HR0.out x3_1 p168 q168
             cases e168
             replace hx168_0 := Hand.Cz.ov HB.out hx168_0
             replace hx168_1 := Hand.Cz.ov HB.out hx168_1
             replace hx168_2 := Hand.Cz.ov HB.out hx168_2
             replace p168 := eq_true p168
             replace q168 := eq_true q168
             go_wp2_with ((with_reducible refine gate_dst (N := 4) rfl ?_); (try (refine gate_guard (by rfl) ?_; dsimp only)); refine box_event ?hg (N := 4) ?hd (cs := #[.int .u64 0, .int .u64 0, .int .i64 0]) (t := 92) ?hr ?_; (case hd => rfl); (case hg => rfl); (case hr => (go_simp; done)); intro gb169 hg w23 hbox hb; have n0_ := Aside0.mk (below_step (by repeat (with_reducible (exact HB.out))) hb); have n1_ := Aside0.mk (hbox); have n2_ := Aside0.mk ((by rw [hg]; exact (below_size (by repeat (with_reducible (exact HB.out)))) : w.heap.size ≤ gb169)); have n3_ := n2_; clear HB; have HB := n0_; have BK169 := n1_; have GW169 := n2_; have GE169 := n3_; clear n0_ n1_ n2_ n3_; clear hb hbox hg; obtain ⟨z24_0, z24_1, z24_2⟩ := Hand.Cz.c3 BK169.out; obtain ⟨y24_0, y24_1, y24_2⟩ := Hand.Cz.f3 BK169.out; have p170 : 0 ≤ ((ji17) : Int) := of_decide_eq_true (by (with_reducible assumption)); have q170 : (ji17) < (l0.length : Int) := of_decide_eq_true (by (with_reducible assumption)); obtain ⟨ad170, e170, hx170_0, hx170_1, hx170_2⟩ := at_T92 HR0.out (ji17) p170 q170; obtain rfl : ad168 = ad170 := (by injection e170); have hn170_0 : ad168.block ≠ gb169 := Nat.ne_of_lt (Nat.lt_of_lt_of_le (by have := World.block_lt_of_cell? _ _ hx170_0; (rwa [add_block] at this)) GW169.out); have hn170_1 : ad168.block ≠ gb169 := Nat.ne_of_lt (Nat.lt_of_lt_of_le (by have := World.block_lt_of_cell? _ _ hx170_0; (rwa [add_block] at this)) GW169.out); have hn170_2 : ad168.block ≠ gb169 := Nat.ne_of_lt (Nat.lt_of_lt_of_le (by have := World.block_lt_of_cell? _ _ hx170_0; (rwa [add_block] at this)) GW169.out); replace hx170_0 := Hand.Cz.ov HB.out hx170_0; replace hx170_1 := Hand.Cz.ov HB.out hx170_1; replace hx170_2 := Hand.Cz.ov HB.out hx170_2; replace hx170_0 := (cell_far (p := ⟨gb169, 0, none⟩) (by (rw [add_block]; exact hn170_0)) (.int .u64 ((rd_T92 l0 x3_1).f0))).trans hx170_0; replace hx170_1 := (cell_far (p := ⟨gb169, 0, none⟩) (by (rw [add_block]; exact hn170_0)) (.int .u64 ((rd_T92 l0 x3_1).f0))).trans hx170_1; replace hx170_2 := (cell_far (p := ⟨gb169, 0, none⟩) (by (rw [add_block]; exact hn170_0)) (.int .u64 ((rd_T92 l0 x3_1).f0))).trans hx170_2; replace hx170_0 := (cell_far (p := ⟨gb169, 1, none⟩) (by (rw [add_block]; exact hn170_1)) (.int .u64 ((rd_T92 l0 x3_1).f1))).trans hx170_0; replace hx170_1 := (cell_far (p := ⟨gb169, 1, none⟩) (by (rw [add_block]; exact hn170_1)) (.int .u64 ((rd_T92 l0 x3_1).f1))).trans hx170_1; replace hx170_2 := (cell_far (p := ⟨gb169, 1, none⟩) (by (rw [add_block]; exact hn170_1)) (.int .u64 ((rd_T92 l0 x3_1).f1))).trans hx170_2; replace hx170_0 := (cell_far (p := ⟨gb169, 2, none⟩) (by (rw [add_block]; exact hn170_2)) (.int .i64 ((rd_T92 l0 x3_1).f2))).trans hx170_0; replace hx170_1 := (cell_far (p := ⟨gb169, 2, none⟩) (by (rw [add_block]; exact hn170_2)) (.int .i64 ((rd_T92 l0 x3_1).f2))).trans hx170_1; replace hx170_2 := (cell_far (p := ⟨gb169, 2, none⟩) (by (rw [add_block]; exact hn170_2)) (.int .i64 ((rd_T92 l0 x3_1).f2))).trans hx170_2; (try have hy170_0 := fun (n_ : Nat) => (show (((((w23.drewN n_).setCell ⟨gb169, 0, none⟩ (.int .u64 ((rd_T92 l0 x3_1).f0))).setCell ⟨gb169, 1, none⟩ (.int .u64 ((rd_T92 l0 x3_1).f1))).setCell ⟨gb169, 2, none⟩ (.int .i64 ((rd_T92 l0 x3_1).f2)))).cell? _ = some _ from hx170_0)); (try have hy170_1 := fun (n_ : Nat) => (show (((((w23.drewN n_).setCell ⟨gb169, 0, none⟩ (.int .u64 ((rd_T92 l0 x3_1).f0))).setCell ⟨gb169, 1, none⟩ (.int .u64 ((rd_T92 l0 x3_1).f1))).setCell ⟨gb169, 2, none⟩ (.int .i64 ((rd_T92 l0 x3_1).f2)))).cell? _ = some _ from hx170_1)); (try have hy170_2 := fun (n_ : Nat) => (show (((((w23.drewN n_).setCell ⟨gb169, 0, none⟩ (.int .u64 ((rd_T92 l0 x3_1).f0))).setCell ⟨gb169, 1, none⟩ (.int .u64 ((rd_T92 l0 x3_1).f1))).setCell ⟨gb169, 2, none⟩ (.int .i64 ((rd_T92 l0 x3_1).f2)))).cell? _ = some _ from hx170_2)); clear hn170_0; clear hn170_1; clear hn170_2; replace p170 := eq_true p170; replace q170 := eq_true q170)
             repeat (go_quiet (fail); try go_wp2_with (fail))
             go_roundg k1
             case measure => have := HK1.out; omega
             case rel => exact ⟨(wrap64 (x3_1 + 1)), (by (rfl)), H', ⟨by have := HK1.out; omega⟩, ⟨by repeat (with_reducible first | exact HB.out | apply pw_below_drewN | refine below_set ?_ GE169.out)⟩⟩
           ·rw [if_neg c19] at H
            exact absurd H (by simp)
          ·rw [if_neg c18] at H
           exact absurd H (by simp)
         ·rw [if_neg c16] at H
          have c16b0 : decide (0 < x3_1) = false := decide_eq_false c16; clear c16
          have H' := Aside0.mk H
          clear H; have p168 : 0 ≤ (x3_1 : Int) := of_decide_eq_true (by (with_reducible assumption)); have q168 : x3_1 < (l0.length : Int) := of_decide_eq_true (by (with_reducible assumption))
          obtain ⟨ad168, e168, hx168_0, hx168_1, hx168_2⟩ := at_T92 HR0.out x3_1 p168 q168
          cases e168
          replace hx168_0 := Hand.Cz.ov HB.out hx168_0
          replace hx168_1 := Hand.Cz.ov HB.out hx168_1
          replace hx168_2 := Hand.Cz.ov HB.out hx168_2
          replace p168 := eq_true p168
          replace q168 := eq_true q168
          go_wp2_with ((with_reducible refine gate_dst (N := 4) rfl ?_); (try (refine gate_guard (by rfl) ?_; dsimp only)); refine box_event ?hg (N := 4) ?hd (cs := #[.int .u64 0, .int .u64 0, .int .i64 0]) (t := 92) ?hr ?_; (case hd => rfl); (case hg => rfl); (case hr => (go_simp; done)); intro gb169 hg w25 hbox hb; have n0_ := Aside0.mk (below_step (by repeat (with_reducible (exact HB.out))) hb); have n1_ := Aside0.mk (hbox); have n2_ := Aside0.mk ((by rw [hg]; exact (below_size (by repeat (with_reducible (exact HB.out)))) : w.heap.size ≤ gb169)); have n3_ := n2_; clear HB; have HB := n0_; have BK169 := n1_; have GW169 := n2_; have GE169 := n3_; clear n0_ n1_ n2_ n3_; clear hb hbox hg; obtain ⟨z26_0, z26_1, z26_2⟩ := Hand.Cz.c3 BK169.out; obtain ⟨y26_0, y26_1, y26_2⟩ := Hand.Cz.f3 BK169.out)
          repeat (go_quiet (fail); try go_wp2_with (fail))
          go_roundg k1
          case measure => have := HK1.out; omega
          case rel => exact ⟨(wrap64 (x3_1 + 1)), (by (rfl)), H', ⟨by have := HK1.out; omega⟩, ⟨by repeat (with_reducible first | exact HB.out | apply pw_below_drewN | refine below_set ?_ GE169.out)⟩⟩
    ·rw [if_neg c3] at H
     exact absurd H (by simp)
   ·rw [if_neg c2] at H
    have c2b0 : decide (x3_1 < (l0.length : Int)) = false := decide_eq_false c2; clear c2
    by_cases c27 : (l0.length : Int) ≥ 1
    ·rw [if_pos c27] at H
     have c27b0 : decide (1 ≤ (l0.length : Int)) = true := decide_eq_true c27; have c27b1 : decide (1 ≤ l0.length) = true := decide_eq_true (by omega); clear c27
     obtain rfl := Option.some.inj H
     go_wp2
     go_ret
     exact ⟨by (rfl), by repeat (with_reducible (exact HB.out))⟩
    ·rw [if_neg c27] at H
     have c27b0 : decide (1 ≤ (l0.length : Int)) = false := decide_eq_false c27; have c27b1 : decide (1 ≤ l0.length) = false := decide_eq_false (by omega); clear c27
     obtain rfl := Option.some.inj H
     go_wp2
     go_ret
     exact ⟨by (rfl), by repeat (with_reducible (exact HB.out))⟩

def winnowref05_rise.l0 : Nat → List Int → Int → Option (Bool)
 | 0, _, _ => none
 | k + 1, x0, x3 => if x3 < (x0.length : Int) then (if 0 ≤ x3 then (if (rd x0 x3) = 0 then (some false) else (if x3 > 0 then (if 0 ≤ (wrap64 (x3 - 1)) then (if (wrap64 (x3 - 1)) < (x0.length : Int) then (if (rd x0 (wrap64 (x3 - 1))) ≥ (rd x0 x3) then (some false) else (winnowref05_rise.l0 k x0 (wrap64 (x3 + 1)))) else (none)) else (none)) else (winnowref05_rise.l0 k x0 (wrap64 (x3 + 1))))) else (none)) else (if (x0.length : Int) ≥ 1 then (some (decide ((x0.length : Int) ≤ 16))) else (some false))
def winnowref05_rise.f (k : Nat) (l0 : List Int) : Option (Bool) := winnowref05_rise.l0 k l0 0
set_option maxHeartbeats 40000000 in
set_option maxRecDepth 100000 in
theorem winnowref05_rise.calls (k : Nat) (A0 : Option Addr) (c0 : Nat) (l0 : List Int) (r : Bool) (w : World) (hr0 : Kd.C (Kd.int .u64) w A0 l0.length l0) (hc0 : l0.length ≤ c0) (h : winnowref05_rise.f k l0 = some r) :
  Calls Try.prog 35 #[.slice A0 l0.length c0] w fun e w' => e = .returned (.bool r) ∧ Drawn0 w w' := by
 have HR0 := Aside0.mk hr0; have HC0 := Aside0.mk hc0; clear hr0 hc0; have H : (winnowref05_rise.l0 k l0 0) = some r := h; clear h
 have H' := Aside0.mk H
 clear H
 go_enter Try.func35, Try.ntmps35
 go_wp2
 go_loopg [3] k (fun kq v3 w' => ∃ (x3_1 : Int), v3 = .int .i64 x3_1 ∧ Aside0 (winnowref05_rise.l0 kq l0 x3_1 = some r) ∧ Aside0 (kq ≤ k) ∧ Drawn0 w w')
 case atStart => exact ⟨(0), (by (rfl)), H', ⟨Nat.le_refl _⟩, by repeat (exact Drawn0.refl _)⟩
 case round =>
  clear H'
  obtain ⟨x3_1, rfl, HA, HK1, ⟨m1, rfl⟩⟩ := hrel
  cases gk with
  | zero => exact absurd HA.out (by simp [winnowref05_rise.l0])
  | succ k1 =>
   have H := HA.out; clear HA
   simp only [winnowref05_rise.l0] at H
   by_cases c2 : x3_1 < (l0.length : Int)
   ·rw [if_pos c2] at H
    have c2b0 : decide (x3_1 < (l0.length : Int)) = true := decide_eq_true c2; clear c2
    by_cases c3 : 0 ≤ x3_1
    ·rw [if_pos c3] at H
     have c3b0 : decide (0 ≤ x3_1) = true := decide_eq_true c3; clear c3
     by_cases c4 : (rd l0 x3_1) = 0
     ·rw [if_pos c4] at H
      obtain ⟨c4b0, c4b1⟩ := Hand.Cz.eqT c4; clear c4
      obtain rfl := Option.some.inj H
      have p171 : 0 ≤ (x3_1 : Int) := of_decide_eq_true (by (with_reducible assumption)); have q171 : x3_1 < (l0.length : Int) := of_decide_eq_true (by (with_reducible assumption))
      obtain ⟨ad171, e171, hx171_0⟩ := Kd.at_int HR0.out x3_1 p171 q171
      cases e171
      replace p171 := eq_true p171
      replace q171 := eq_true q171
      go_wp2
      repeat (go_quiet (fail); try go_wp2)
      go_ret
      exact ⟨by (rfl), by repeat (first | exact Drawn0.refl _ | apply Drawn0.step)⟩
     ·rw [if_neg c4] at H
      obtain ⟨c4b0, c4b1⟩ := Hand.Cz.eqF c4
      by_cases c5 : x3_1 > 0
      ·rw [if_pos c5] at H
       have c5b0 : decide (0 < x3_1) = true := decide_eq_true c5; clear c5
       obtain ⟨ji6, hji6⟩ : ∃ j_ : Int, (wrap64 (x3_1 - 1)) = j_ := ⟨_, rfl⟩
       replace H : (if 0 ≤ (ji6) then (if (ji6) < (l0.length : Int) then (if (rd l0 (ji6)) ≥ (rd l0 x3_1) then (some false) else (winnowref05_rise.l0 k1 l0 (wrap64 (x3_1 + 1)))) else (none)) else (none)) = some r := by (rw [hji6] at H; exact H)
       have hji6w : (IntKind.i64.wrap (x3_1 - 1)) = ji6 := (i64_w _).trans hji6
       by_cases c7 : 0 ≤ (ji6)
       ·rw [if_pos c7] at H
        have c7b0 : decide (0 ≤ (ji6)) = true := decide_eq_true c7; clear c7
        by_cases c8 : (ji6) < (l0.length : Int)
        ·rw [if_pos c8] at H
         have c8b0 : decide ((ji6) < (l0.length : Int)) = true := decide_eq_true c8; clear c8
         by_cases c9 : (rd l0 (ji6)) ≥ (rd l0 x3_1)
         ·rw [if_pos c9] at H
          have c9b0 : decide ((rd l0 x3_1) ≤ (rd l0 (ji6))) = true := decide_eq_true c9; clear c9
          obtain rfl := Option.some.inj H
          have p171 : 0 ≤ (x3_1 : Int) := of_decide_eq_true (by (with_reducible assumption)); have q171 : x3_1 < (l0.length : Int) := of_decide_eq_true (by (with_reducible assumption))
          obtain ⟨ad171, e171, hx171_0⟩ := Kd.at_int HR0.out x3_1 p171 q171
          cases e171
          replace p171 := eq_true p171
          replace q171 := eq_true q171
          have p172 : 0 ≤ ((ji6) : Int) := of_decide_eq_true (by (with_reducible assumption)); have q172 : (ji6) < (l0.length : Int) := of_decide_eq_true (by (with_reducible assumption))
          obtain ⟨ad172, e172, hx172_0⟩ := Kd.at_int HR0.out (ji6) p172 q172
          obtain rfl : ad171 = ad172 := (by injection e172)
          replace p172 := eq_true p172
          replace q172 := eq_true q172
          have p173 : 0 ≤ (x3_1 : Int) := of_decide_eq_true (by (with_reducible assumption)); have q173 : x3_1 < (l0.length : Int) := of_decide_eq_true (by (with_reducible assumption))
          obtain ⟨ad173, e173, hx173_0⟩ := Kd.at_int HR0.out x3_1 p173 q173
          obtain rfl : ad171 = ad173 := (by injection e173)
          replace p173 := eq_true p173
          replace q173 := eq_true q173
          go_wp2
          repeat (go_quiet (fail); try go_wp2)
          go_ret
          exact ⟨by (rfl), by repeat (first | exact Drawn0.refl _ | apply Drawn0.step)⟩
         ·rw [if_neg c9] at H
          have c9b0 : decide ((rd l0 x3_1) ≤ (rd l0 (ji6))) = false := decide_eq_false c9; clear c9
          have H' := Aside0.mk H
          clear H; have p171 : 0 ≤ (x3_1 : Int) := of_decide_eq_true (by (with_reducible assumption)); have q171 : x3_1 < (l0.length : Int) := of_decide_eq_true (by (with_reducible assumption))
          obtain ⟨ad171, e171, hx171_0⟩ := Kd.at_int HR0.out x3_1 p171 q171
          cases e171
          replace p171 := eq_true p171
          replace q171 := eq_true q171
          have p172 : 0 ≤ ((ji6) : Int) := of_decide_eq_true (by (with_reducible assumption)); have q172 : (ji6) < (l0.length : Int) := of_decide_eq_true (by (with_reducible assumption))
          obtain ⟨ad172, e172, hx172_0⟩ := Kd.at_int HR0.out (ji6) p172 q172
          obtain rfl : ad171 = ad172 := (by injection e172)
          replace p172 := eq_true p172
          replace q172 := eq_true q172
          have p173 : 0 ≤ (x3_1 : Int) := of_decide_eq_true (by (with_reducible assumption)); have q173 : x3_1 < (l0.length : Int) := of_decide_eq_true (by (with_reducible assumption))
          obtain ⟨ad173, e173, hx173_0⟩ := Kd.at_int HR0.out x3_1 p173 q173
          obtain rfl : ad171 = ad173 := (by injection e173)
          replace p173 := eq_true p173
          replace q173 := eq_true q173
          go_wp2
          repeat (go_quiet (fail); try go_wp2)
          go_roundg k1
          case measure => have := HK1.out; omega
          case rel => exact ⟨(wrap64 (x3_1 + 1)), (by (rfl)), H', ⟨by have := HK1.out; omega⟩, by repeat (first | exact Drawn0.refl _ | apply Drawn0.step)⟩
        ·rw [if_neg c8] at H
         exact absurd H (by simp)
       ·rw [if_neg c7] at H
        exact absurd H (by simp)
      ·rw [if_neg c5] at H
       have c5b0 : decide (0 < x3_1) = false := decide_eq_false c5; clear c5
       have H' := Aside0.mk H
       clear H; have p171 : 0 ≤ (x3_1 : Int) := of_decide_eq_true (by (with_reducible assumption)); have q171 : x3_1 < (l0.length : Int) := of_decide_eq_true (by (with_reducible assumption))
       obtain ⟨ad171, e171, hx171_0⟩ := Kd.at_int HR0.out x3_1 p171 q171
       cases e171
       replace p171 := eq_true p171
       replace q171 := eq_true q171
       go_wp2
       repeat (go_quiet (fail); try go_wp2)
       go_roundg k1
       case measure => have := HK1.out; omega
       case rel => exact ⟨(wrap64 (x3_1 + 1)), (by (rfl)), H', ⟨by have := HK1.out; omega⟩, by repeat (first | exact Drawn0.refl _ | apply Drawn0.step)⟩
    ·rw [if_neg c3] at H
     exact absurd H (by simp)
   ·rw [if_neg c2] at H
    have c2b0 : decide (x3_1 < (l0.length : Int)) = false := decide_eq_false c2; clear c2
    by_cases c10 : (l0.length : Int) ≥ 1
    ·rw [if_pos c10] at H
     have c10b0 : decide (1 ≤ (l0.length : Int)) = true := decide_eq_true c10; have c10b1 : decide (1 ≤ l0.length) = true := decide_eq_true (by omega); clear c10
     obtain rfl := Option.some.inj H
     go_wp2
     go_ret
     exact ⟨by (rfl), by repeat (first | exact Drawn0.refl _ | apply Drawn0.step)⟩
    ·rw [if_neg c10] at H
     have c10b0 : decide (1 ≤ (l0.length : Int)) = false := decide_eq_false c10; have c10b1 : decide (1 ≤ l0.length) = false := decide_eq_false (by omega); clear c10
     obtain rfl := Option.some.inj H
     go_wp2
     go_ret
     exact ⟨by (rfl), by repeat (first | exact Drawn0.refl _ | apply Drawn0.step)⟩

end Go.Proofs.Ytlpnpnjjmpkapaa.PAll
