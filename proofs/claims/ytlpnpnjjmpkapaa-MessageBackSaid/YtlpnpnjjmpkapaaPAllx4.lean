import Derived.Test.YtlpnpnjjmpkapaaPAllx0
namespace Go.Proofs.Ytlpnpnjjmpkapaa.PAll
open Go.RowKit Go.Proofs.YtlpnpnjjmpkapaaW.PrintWords Go.Proofs.YtlpnpnjjmpkapaaW.PrintLast Go.Proofs.YtlpnpnjjmpkapaaW.PrintMore
attribute [local go_sem] max2_int min2_int max_two min_two max_three min_three max_four min_four   -- for this text's walks alone
set_option linter.unusedVariables false
set_option linter.unusedSimpArgs false

mutual
def winnowlaw05_Light.j0 : Nat → Bool → Int → Int → Int → Int → Int → Int → Int → Bool → List (S76) → List (S92) → List Int → Option (Bool)
 | 0, _, _, _, _, _, _, _, _, _, _, _, _ => none
 | k + 1, x19, x102000, x102001, x102002, x102003, x102004, x102005, x102006, x102007, x102008, x102009, x102010 => if x19 = true then (some false) else (winnowlaw05_Light.l0 k 0 x102000 x102001 x102002 x102003 x102004 x102005 x102006 x102007 x102008 x102009 x102010)
def winnowlaw05_Light.l0 : Nat → Int → Int → Int → Int → Int → Int → Int → Int → Bool → List (S76) → List (S92) → List Int → Option (Bool)
 | 0, _, _, _, _, _, _, _, _, _, _, _, _ => none
 | k + 1, x3, x102000, x102001, x102002, x102003, x102004, x102005, x102006, x102007, x102008, x102009, x102010 => if x3 < (x102008.length : Int) then (if 0 ≤ x3 then (if (((rd_T76 x102008 x3).f6).size : Int) > 200 then (some false) else (if (((rd_T76 x102008 x3).f5).size : Int) > 200 then (some false) else (winnowlaw05_Light.l0 k (wrap64 (x3 + 1)) x102000 x102001 x102002 x102003 x102004 x102005 x102006 x102007 x102008 x102009 x102010))) else (none)) else (some true)
end
def winnowlaw05_Light.f (k : Nat) (a0_0 : Int) (a0_1 : Int) (a0_2 : Int) (a0_3 : Int) (a0_4 : Int) (a0_5 : Int) (a0_6 : Int) (a0_7 : Bool) (l0_8 : List (S76)) (l0_9 : List (S92)) (l0_10 : List Int) : Option (Bool) := if (l0_8.length : Int) > 40 then (winnowlaw05_Light.j0 k true a0_0 a0_1 a0_2 a0_3 a0_4 a0_5 a0_6 a0_7 l0_8 l0_9 l0_10) else (if (l0_9.length : Int) > 100 then (winnowlaw05_Light.j0 k true a0_0 a0_1 a0_2 a0_3 a0_4 a0_5 a0_6 a0_7 l0_8 l0_9 l0_10) else (winnowlaw05_Light.j0 k (decide ((l0_10.length : Int) > 100)) a0_0 a0_1 a0_2 a0_3 a0_4 a0_5 a0_6 a0_7 l0_8 l0_9 l0_10))
set_option maxHeartbeats 40000000 in
set_option maxRecDepth 100000 in
theorem winnowlaw05_Light.calls (k : Nat) (a0_0 : Int) (a0_1 : Int) (a0_2 : Int) (a0_3 : Int) (a0_4 : Int) (a0_5 : Int) (a0_6 : Int) (a0_7 : Bool) (A0_8 : Option Addr) (c0_8 : Nat) (l0_8 : List (S76)) (A0_9 : Option Addr) (c0_9 : Nat) (l0_9 : List (S92)) (A0_10 : Option Addr) (c0_10 : Nat) (l0_10 : List Int) (r : Bool) (w : World) (hr0_8 : Kd.C k76 w A0_8 l0_8.length l0_8) (hc0_8 : l0_8.length ≤ c0_8) (hr0_9 : Kd.C k92 w A0_9 l0_9.length l0_9) (hc0_9 : l0_9.length ≤ c0_9) (hr0_10 : Kd.C (Kd.int .u64) w A0_10 l0_10.length l0_10) (hc0_10 : l0_10.length ≤ c0_10) (h : winnowlaw05_Light.f k a0_0 a0_1 a0_2 a0_3 a0_4 a0_5 a0_6 a0_7 l0_8 l0_9 l0_10 = some r) :
  Calls Try.prog 12 #[.agg #[.int .i64 a0_0, .int .u64 a0_1, .int .u64 a0_2, .int .u64 a0_3, .int .u64 a0_4, .int .u64 a0_5, .int .i64 a0_6, .bool a0_7, .slice A0_8 l0_8.length c0_8, .slice A0_9 l0_9.length c0_9, .slice A0_10 l0_10.length c0_10]] w fun e w' => e = .returned (.bool r) ∧ Below w.heap.size w w' := by
 have hu30 := Try.underlying30; have HR0_8 := Aside0.mk hr0_8; have HC0_8 := Aside0.mk hc0_8; clear hr0_8 hc0_8; have HR0_9 := Aside0.mk hr0_9; have HC0_9 := Aside0.mk hc0_9; clear hr0_9 hc0_9; have HR0_10 := Aside0.mk hr0_10; have HC0_10 := Aside0.mk hc0_10; clear hr0_10 hc0_10; have HB := Aside0.mk (Below.refl w.heap.size w); have H : (if (l0_8.length : Int) > 40 then (winnowlaw05_Light.j0 k true a0_0 a0_1 a0_2 a0_3 a0_4 a0_5 a0_6 a0_7 l0_8 l0_9 l0_10) else (if (l0_9.length : Int) > 100 then (winnowlaw05_Light.j0 k true a0_0 a0_1 a0_2 a0_3 a0_4 a0_5 a0_6 a0_7 l0_8 l0_9 l0_10) else (winnowlaw05_Light.j0 k (decide ((l0_10.length : Int) > 100)) a0_0 a0_1 a0_2 a0_3 a0_4 a0_5 a0_6 a0_7 l0_8 l0_9 l0_10))) = some r := h; clear h; have HC2 := Aside0.mk H; clear H
 go_enter Try.func12, Try.ntmps12
 go_upto_region 1 with ((with_reducible refine gate_dst (N := 1) rfl ?_); (try (refine gate_guard (by rfl) ?_; dsimp only)); refine box_event ?hg (N := 1) ?hd (cs := #[.int .i64 a0_0, .int .u64 a0_1, .int .u64 a0_2, .int .u64 a0_3, .int .u64 a0_4, .int .u64 a0_5, .int .i64 a0_6, .bool a0_7, .slice A0_8 l0_8.length c0_8, .slice A0_9 l0_9.length c0_9, .slice A0_10 l0_10.length c0_10]) (t := 30) ?hr ?_; (case hd => rfl); (case hg => rfl); (case hr => (go_simp; done)); intro gb101 hg w3 hbox hb; have n0_ := Aside0.mk (below_step (by repeat (with_reducible (exact HB.out))) hb); have n1_ := Aside0.mk (hbox); have n2_ := Aside0.mk ((by rw [hg]; exact (below_size (by repeat (with_reducible (exact HB.out)))) : w.heap.size ≤ gb101)); have n3_ := n2_; clear HB; have HB := n0_; have BK101 := n1_; have GW101 := n2_; have GE101 := n3_; clear n0_ n1_ n2_ n3_; clear hb hbox hg)
 go_cut [19] (fun v19 wc => ∃ (kq : Nat) (x19_1 : Bool), v19 = .bool x19_1 ∧ Aside0 (winnowlaw05_Light.j0 kq x19_1 a0_0 a0_1 a0_2 a0_3 a0_4 a0_5 a0_6 a0_7 l0_8 l0_9 l0_10 = some r) ∧ Aside0 (kq ≤ k) ∧ Aside0 (wc.heap[gb101]? = some (.cells #[.int .i64 a0_0, .int .u64 a0_1, .int .u64 a0_2, .int .u64 a0_3, .int .u64 a0_4, .int .u64 a0_5, .int .i64 a0_6, .bool a0_7, (.slice A0_8 l0_8.length c0_8), (.slice A0_9 l0_9.length c0_9), (.slice A0_10 l0_10.length c0_10)] 30 (0, 0))) ∧ Aside0 (Below w.heap.size w wc))
 case first =>
  have H := HC2.out; clear HC2
  by_cases c4 : (l0_8.length : Int) > 40
  ·rw [if_pos c4] at H
   have c4b0 : decide (40 < (l0_8.length : Int)) = true := decide_eq_true c4; have c4b1 : decide (40 < l0_8.length) = true := decide_eq_true (by omega); clear c4
   (skip)
   have H' := Aside0.mk H
   clear H
   obtain ⟨z5_0, z5_1, z5_2, z5_3, z5_4, z5_5, z5_6, z5_7, z5_8, z5_9, z5_10⟩ := Hand.Cz.c11 BK101.out
   obtain ⟨y5_0, y5_1, y5_2, y5_3, y5_4, y5_5, y5_6, y5_7, y5_8, y5_9, y5_10⟩ := Hand.Cz.f11 BK101.out
   go_wp2
   go_meet
   case rel => exact ⟨_, (true), (by (rfl)), H', ⟨by (omega)⟩, ⟨by (with_reducible skip); exact BK101.out⟩, ⟨by repeat (with_reducible (exact HB.out))⟩⟩
  ·rw [if_neg c4] at H
   have c4b0 : decide (40 < (l0_8.length : Int)) = false := decide_eq_false c4; have c4b1 : decide (40 < l0_8.length) = false := decide_eq_false (by omega); clear c4
   (skip)
   by_cases c6 : (l0_9.length : Int) > 100
   ·rw [if_pos c6] at H
    have c6b0 : decide (100 < (l0_9.length : Int)) = true := decide_eq_true c6; have c6b1 : decide (100 < l0_9.length) = true := decide_eq_true (by omega); clear c6
    have H' := Aside0.mk H
    clear H
    obtain ⟨z7_0, z7_1, z7_2, z7_3, z7_4, z7_5, z7_6, z7_7, z7_8, z7_9, z7_10⟩ := Hand.Cz.c11 BK101.out
    obtain ⟨y7_0, y7_1, y7_2, y7_3, y7_4, y7_5, y7_6, y7_7, y7_8, y7_9, y7_10⟩ := Hand.Cz.f11 BK101.out
    go_wp2
    go_meet
    case rel => exact ⟨_, (true), (by (rfl)), H', ⟨by (omega)⟩, ⟨by (with_reducible skip); exact BK101.out⟩, ⟨by repeat (with_reducible (exact HB.out))⟩⟩
   ·rw [if_neg c6] at H
    have c6b0 : decide (100 < (l0_9.length : Int)) = false := decide_eq_false c6; have c6b1 : decide (100 < l0_9.length) = false := decide_eq_false (by omega); clear c6
    have H' := Aside0.mk H
    clear H
    obtain ⟨z8_0, z8_1, z8_2, z8_3, z8_4, z8_5, z8_6, z8_7, z8_8, z8_9, z8_10⟩ := Hand.Cz.c11 BK101.out
    obtain ⟨y8_0, y8_1, y8_2, y8_3, y8_4, y8_5, y8_6, y8_7, y8_8, y8_9, y8_10⟩ := Hand.Cz.f11 BK101.out
    go_wp2
    go_meet
    case rel => exact ⟨_, (decide ((l0_10.length : Int) > 100)), (by (rfl)), H', ⟨by (omega)⟩, ⟨by (with_reducible skip); exact BK101.out⟩, ⟨by repeat (with_reducible (exact HB.out))⟩⟩
 case rest =>
  clear HC2
  obtain ⟨kq, x19_1, rfl, HA, HJ1, BK101, HB⟩ := hcut
  cases kq with
  | zero => exact absurd HA.out (by simp [winnowlaw05_Light.j0])
  | succ kj1 =>
   have H := HA.out; clear HA
   simp only [winnowlaw05_Light.j0] at H
   by_cases c9 : x19_1 = true
   ·subst c9
    rw [if_pos rfl] at H
    obtain rfl := Option.some.inj H
    go_wp2
    go_ret
    exact ⟨by (rfl), by repeat (with_reducible (exact HB.out))⟩
   ·replace c9 := Bool.eq_false_iff.mpr c9
    subst c9
    rw [if_neg (show ¬ (false = true) by decide)] at H
    have H' := Aside0.mk H
    clear H
    go_wp2
    go_loopg [3] kj1 (fun kq v3 w' => ∃ (x3_2 : Int), v3 = .int .i64 x3_2 ∧ Aside0 (winnowlaw05_Light.l0 kq x3_2 a0_0 a0_1 a0_2 a0_3 a0_4 a0_5 a0_6 a0_7 l0_8 l0_9 l0_10 = some r) ∧ Aside0 (kq ≤ kj1) ∧ Aside0 (w'.heap[gb101]? = some (.cells #[.int .i64 a0_0, .int .u64 a0_1, .int .u64 a0_2, .int .u64 a0_3, .int .u64 a0_4, .int .u64 a0_5, .int .i64 a0_6, .bool a0_7, (.slice A0_8 l0_8.length c0_8), (.slice A0_9 l0_9.length c0_9), (.slice A0_10 l0_10.length c0_10)] 30 (0, 0))) ∧ Aside0 (Below w.heap.size w w'))
    case atStart => exact ⟨(0), (by (rfl)), H', ⟨Nat.le_refl _⟩, ⟨by (with_reducible skip); exact BK101.out⟩, ⟨by repeat (with_reducible (exact HB.out))⟩⟩
    case round =>
     clear H'
     obtain ⟨x3_2, rfl, HA, HK2, BK101, HB⟩ := hrel
     cases gk with
     | zero => exact absurd HA.out (by simp [winnowlaw05_Light.l0])
     | succ k2 =>
      have H := HA.out; clear HA
      simp only [winnowlaw05_Light.l0] at H
      by_cases c10 : x3_2 < (l0_8.length : Int)
      ·rw [if_pos c10] at H
       have c10b0 : decide (x3_2 < (l0_8.length : Int)) = true := decide_eq_true c10; clear c10
       by_cases c11 : 0 ≤ x3_2
       ·rw [if_pos c11] at H
        have c11b0 : decide (0 ≤ x3_2) = true := decide_eq_true c11; clear c11
        by_cases c12 : (((rd_T76 l0_8 x3_2).f6).size : Int) > 200
        ·rw [if_pos c12] at H
         have c12b0 : decide (200 < (((rd_T76 l0_8 x3_2).f6).size : Int)) = true := decide_eq_true c12; have c12b1 : decide (200 < ((rd_T76 l0_8 x3_2).f6).size) = true := decide_eq_true (by omega); clear c12
         obtain rfl := Option.some.inj H
         obtain ⟨z13_0, z13_1, z13_2, z13_3, z13_4, z13_5, z13_6, z13_7, z13_8, z13_9, z13_10⟩ := Hand.Cz.c11 BK101.out
         obtain ⟨y13_0, y13_1, y13_2, y13_3, y13_4, y13_5, y13_6, y13_7, y13_8, y13_9, y13_10⟩ := Hand.Cz.f11 BK101.out
         have p102 : 0 ≤ (x3_2 : Int) := of_decide_eq_true (by (with_reducible assumption)); have q102 : x3_2 < (l0_8.length : Int) := of_decide_eq_true (by (with_reducible assumption))
         obtain ⟨ad102, e102, hx102_0, hx102_1, hx102_2, hx102_3, hx102_4, hx102_5, hx102_6, hx102_7⟩ := at_T76 HR0_8.out x3_2 p102 q102
         cases e102
         replace hx102_0 := Hand.Cz.ov HB.out hx102_0
         replace hx102_1 := Hand.Cz.ov HB.out hx102_1
         replace hx102_2 := Hand.Cz.ov HB.out hx102_2
         replace hx102_3 := Hand.Cz.ov HB.out hx102_3
         replace hx102_4 := Hand.Cz.ov HB.out hx102_4
         replace hx102_5 := Hand.Cz.ov HB.out hx102_5
         replace hx102_6 := Hand.Cz.ov HB.out hx102_6
         replace hx102_7 := Hand.Cz.ov HB.out hx102_7
         replace p102 := eq_true p102
         replace q102 := eq_true q102
         go_wp2
         go_ret
         exact ⟨by (rfl), by repeat (with_reducible (exact HB.out))⟩
        ·rw [if_neg c12] at H
         have c12b0 : decide (200 < (((rd_T76 l0_8 x3_2).f6).size : Int)) = false := decide_eq_false c12; have c12b1 : decide (200 < ((rd_T76 l0_8 x3_2).f6).size) = false := decide_eq_false (by omega); clear c12
         by_cases c14 : (((rd_T76 l0_8 x3_2).f5).size : Int) > 200
         ·rw [if_pos c14] at H
          have c14b0 : decide (200 < (((rd_T76 l0_8 x3_2).f5).size : Int)) = true := decide_eq_true c14; have c14b1 : decide (200 < ((rd_T76 l0_8 x3_2).f5).size) = true := decide_eq_true (by omega); clear c14
          obtain rfl := Option.some.inj H
          obtain ⟨z15_0, z15_1, z15_2, z15_3, z15_4, z15_5, z15_6, z15_7, z15_8, z15_9, z15_10⟩ := Hand.Cz.c11 BK101.out
          obtain ⟨y15_0, y15_1, y15_2, y15_3, y15_4, y15_5, y15_6, y15_7, y15_8, y15_9, y15_10⟩ := Hand.Cz.f11 BK101.out
          have p102 : 0 ≤ (x3_2 : Int) := of_decide_eq_true (by (with_reducible assumption)); have q102 : x3_2 < (l0_8.length : Int) := of_decide_eq_true (by (with_reducible assumption))
          obtain ⟨ad102, e102, hx102_0, hx102_1, hx102_2, hx102_3, hx102_4, hx102_5, hx102_6, hx102_7⟩ := at_T76 HR0_8.out x3_2 p102 q102
          cases e102
          replace hx102_0 := Hand.Cz.ov HB.out hx102_0
          replace hx102_1 := Hand.Cz.ov HB.out hx102_1
          replace hx102_2 := Hand.Cz.ov HB.out hx102_2
          replace hx102_3 := Hand.Cz.ov HB.out hx102_3
          replace hx102_4 := Hand.Cz.ov HB.out hx102_4
          replace hx102_5 := Hand.Cz.ov HB.out hx102_5
          replace hx102_6 := Hand.Cz.ov HB.out hx102_6
          replace hx102_7 := Hand.Cz.ov HB.out hx102_7
          replace p102 := eq_true p102
          replace q102 := eq_true q102
          have p103 : 0 ≤ (x3_2 : Int) := of_decide_eq_true (by (with_reducible assumption)); have q103 : x3_2 < (l0_8.length : Int) := of_decide_eq_true (by (with_reducible assumption))
          obtain ⟨ad103, e103, hx103_0, hx103_1, hx103_2, hx103_3, hx103_4, hx103_5, hx103_6, hx103_7⟩ := at_T76 HR0_8.out x3_2 p103 q103
          obtain rfl : ad102 = ad103 := (by injection e103)
          replace hx103_0 := Hand.Cz.ov HB.out hx103_0
          replace hx103_1 := Hand.Cz.ov HB.out hx103_1
          replace hx103_2 := Hand.Cz.ov HB.out hx103_2
          replace hx103_3 := Hand.Cz.ov HB.out hx103_3
          replace hx103_4 := Hand.Cz.ov HB.out hx103_4
          replace hx103_5 := Hand.Cz.ov HB.out hx103_5
          replace hx103_6 := Hand.Cz.ov HB.out hx103_6
          replace hx103_7 := Hand.Cz.ov HB.out hx103_7
          replace p103 := eq_true p103
          replace q103 := eq_true q103
          go_wp2
          go_ret
          exact ⟨by (rfl), by repeat (with_reducible (exact HB.out))⟩
         ·rw [if_neg c14] at H
          have c14b0 : decide (200 < (((rd_T76 l0_8 x3_2).f5).size : Int)) = false := decide_eq_false c14; have c14b1 : decide (200 < ((rd_T76 l0_8 x3_2).f5).size) = false := decide_eq_false (by omega); clear c14
          have H' := Aside0.mk H
          clear H
          obtain ⟨z16_0, z16_1, z16_2, z16_3, z16_4, z16_5, z16_6, z16_7, z16_8, z16_9, z16_10⟩ := Hand.Cz.c11 BK101.out
          obtain ⟨y16_0, y16_1, y16_2, y16_3, y16_4, y16_5, y16_6, y16_7, y16_8, y16_9, y16_10⟩ := Hand.Cz.f11 BK101.out
          have p102 : 0 ≤ (x3_2 : Int) := of_decide_eq_true (by (with_reducible assumption)); have q102 : x3_2 < (l0_8.length : Int) := of_decide_eq_true (by (with_reducible assumption))
          obtain ⟨ad102, e102, hx102_0, hx102_1, hx102_2, hx102_3, hx102_4, hx102_5, hx102_6, hx102_7⟩ := at_T76 HR0_8.out x3_2 p102 q102
          cases e102
          replace hx102_0 := Hand.Cz.ov HB.out hx102_0
          replace hx102_1 := Hand.Cz.ov HB.out hx102_1
          replace hx102_2 := Hand.Cz.ov HB.out hx102_2
          replace hx102_3 := Hand.Cz.ov HB.out hx102_3
          replace hx102_4 := Hand.Cz.ov HB.out hx102_4
          replace hx102_5 := Hand.Cz.ov HB.out hx102_5
          replace hx102_6 := Hand.Cz.ov HB.out hx102_6
          replace hx102_7 := Hand.Cz.ov HB.out hx102_7
          replace p102 := eq_true p102
          replace q102 := eq_true q102
          have p103 : 0 ≤ (x3_2 : Int) := of_decide_eq_true (by (with_reducible assumption)); have q103 : x3_2 < (l0_8.length : Int) := of_decide_eq_true (by (with_reducible assumption))
          obtain ⟨ad103, e103, hx103_0, hx103_1, hx103_2, hx103_3, hx103_4, hx103_5, hx103_6, hx103_7⟩ := at_T76 HR0_8.out x3_2 p103 q103
          obtain rfl : ad102 = ad103 := (by injection e103)
          replace hx103_0 := Hand.Cz.ov HB.out hx103_0
          replace hx103_1 := Hand.Cz.ov HB.out hx103_1
          replace hx103_2 := Hand.Cz.ov HB.out hx103_2
          replace hx103_3 := Hand.Cz.ov HB.out hx103_3
          replace hx103_4 := Hand.Cz.ov HB.out hx103_4
          replace hx103_5 := Hand.Cz.ov HB.out hx103_5
          replace hx103_6 := Hand.Cz.ov HB.out hx103_6
          replace hx103_7 := Hand.Cz.ov HB.out hx103_7
          replace p103 := eq_true p103
          replace q103 := eq_true q103
          go_wp2
          go_roundg k2
          case measure => have := HJ1.out; have := HK2.out; omega
          case rel => exact ⟨(wrap64 (x3_2 + 1)), (by (rfl)), H', ⟨by have := HJ1.out; have := HK2.out; omega⟩, ⟨by (with_reducible skip); exact BK101.out⟩, ⟨by repeat (with_reducible (exact HB.out))⟩⟩
       ·rw [if_neg c11] at H
        exact absurd H (by simp)
      ·rw [if_neg c10] at H
       have c10b0 : decide (x3_2 < (l0_8.length : Int)) = false := decide_eq_false c10; clear c10
       obtain rfl := Option.some.inj H
       obtain ⟨z17_0, z17_1, z17_2, z17_3, z17_4, z17_5, z17_6, z17_7, z17_8, z17_9, z17_10⟩ := Hand.Cz.c11 BK101.out
       obtain ⟨y17_0, y17_1, y17_2, y17_3, y17_4, y17_5, y17_6, y17_7, y17_8, y17_9, y17_10⟩ := Hand.Cz.f11 BK101.out
       go_wp2
       go_ret
       exact ⟨by (rfl), by repeat (with_reducible (exact HB.out))⟩

/-- slices.Clone: the same elements, in memory of the call's own. -/
def api_Span_57.f (l0 : List S76) : Option (List S76) := if l0.length * 80 ≤ 140737488355328 then some l0 else none
set_option maxHeartbeats 4000000 in
set_option maxRecDepth 100000 in
theorem api_Span_57.calls (A0 : Option Addr) (c0 : Nat) (l0 : List S76) (r : List S76) (w : World) (hr0 : Kd.C k76 w A0 l0.length l0) (hc0 : l0.length ≤ c0) (h : api_Span_57.f l0 = some r) :
  Calls Try.prog 57 #[.slice A0 l0.length c0] w fun e w' => ∃ v0_ : Value, e = .returned (v0_) ∧ Kd.R k76 76 w' w.heap.size (fun _ => True) v0_ r ∧ Below w.heap.size w w' := by
 unfold api_Span_57.f at h
 split at h
 ·rename_i hl
  obtain rfl := Option.some.inj h
  clear h
  have q22 : ∀ (w : World) (a : Option Addr) (n c n' c' : Nat), (binOp .eql 26 (.slice a n c) (.slice none n' c')).run Try.prog w = .ok (.bool a.isNone) w := fun w a n c n' c' => Lib.run_eql_slice_nil w _ _ a n c n' c' Try.underlying26
  have HR0 := Aside0.mk hr0; clear hr0
  rcases A0 with _ | ad
  ·obtain rfl := Hand.C_none HR0.out
   clear HR0
   go_enter Try.func57, Try.ntmps57
   go_wp2
   go_ret
   exact ⟨_, rfl, Kd.R_nil _ _ _ _ _, Below.refl _ _⟩
  go_enter Try.func57, Try.ntmps57
  go_wp2_with (at_builtin; refine Kd.R_append_rows k76 (Rr := (k76).K w) (w0 := w) w.heap.size rfl (.tmp 5) (.tmp 6) 26 76 (.agg #[.int .u64 0, .int .u64 0, .int .u64 0, .int .u64 0, .int .u64 0, .string ⟨#[]⟩, .string ⟨#[]⟩, .bool false]) 80 rfl Try.underlying26 info76 rfl (by decide) (by decide) (.slice (some ⟨w.heap.size, 0, none⟩) 0 0) [] l0 (some ad) l0.length c0 (fun _ => True) (fun _ => False) rfl rfl ?o1 ?o2 ?o6 ?o7 ?o8 ?o3 ?o4 ?o5 ?_)
  case o1 => exact Hand.R_empty _ _ _
  case o2 => exact ReadsRow.imp_ HR0.out (below_alloc (Below.refl _ _) _) (fun _ _ hp => hp)
  case o6 => intro x cs h; exact (by obtain rfl := k76_open h; exact k76_mkM _ _ _ _)
  case o7 => exact fun _ hk => hk.elim
  case o8 => exact fun _ _ => trivial
  case o3 => exact below_alloc (Below.refl _ _) _
  case o4 => simp
  case o5 => simpa using hl
  intro v1 w1 hown hb hg hat
  have HO := Aside0.mk hown; have HB := Aside0.mk hb; clear hown hb hg hat
  go_wp2
  go_ret
  exact ⟨v1, rfl, HO.out, HB.out⟩
 exact absurd h (by simp)


/-- slices.Clone: the same elements, in memory of the call's own. -/
def api_Member_58.f (l0 : List S92) : Option (List S92) := if l0.length * 24 ≤ 140737488355328 then some l0 else none
set_option maxHeartbeats 4000000 in
set_option maxRecDepth 100000 in
theorem api_Member_58.calls (A0 : Option Addr) (c0 : Nat) (l0 : List S92) (r : List S92) (w : World) (hr0 : Kd.C k92 w A0 l0.length l0) (hc0 : l0.length ≤ c0) (h : api_Member_58.f l0 = some r) :
  Calls Try.prog 58 #[.slice A0 l0.length c0] w fun e w' => ∃ v0_ : Value, e = .returned (v0_) ∧ Kd.R k92 92 w' w.heap.size (fun _ => True) v0_ r ∧ Below w.heap.size w w' := by
 unfold api_Member_58.f at h
 split at h
 ·rename_i hl
  obtain rfl := Option.some.inj h
  clear h
  have q22 : ∀ (w : World) (a : Option Addr) (n c n' c' : Nat), (binOp .eql 27 (.slice a n c) (.slice none n' c')).run Try.prog w = .ok (.bool a.isNone) w := fun w a n c n' c' => Lib.run_eql_slice_nil w _ _ a n c n' c' Try.underlying27
  have HR0 := Aside0.mk hr0; clear hr0
  rcases A0 with _ | ad
  ·obtain rfl := Hand.C_none HR0.out
   clear HR0
   go_enter Try.func58, Try.ntmps58
   go_wp2
   go_ret
   exact ⟨_, rfl, Kd.R_nil _ _ _ _ _, Below.refl _ _⟩
  go_enter Try.func58, Try.ntmps58
  go_wp2_with (at_builtin; refine Kd.R_append_rows k92 (Rr := (k92).K w) (w0 := w) w.heap.size rfl (.tmp 5) (.tmp 6) 27 92 (.agg #[.int .u64 0, .int .u64 0, .int .i64 0]) 24 rfl Try.underlying27 info92 rfl (by decide) (by decide) (.slice (some ⟨w.heap.size, 0, none⟩) 0 0) [] l0 (some ad) l0.length c0 (fun _ => True) (fun _ => False) rfl rfl ?o1 ?o2 ?o6 ?o7 ?o8 ?o3 ?o4 ?o5 ?_)
  case o1 => exact Hand.R_empty _ _ _
  case o2 => exact ReadsRow.imp_ HR0.out (below_alloc (Below.refl _ _) _) (fun _ _ hp => hp)
  case o6 => intro x cs h; exact (by obtain rfl := k92_open h; exact k92_mkM _ _ _ _)
  case o7 => exact fun _ hk => hk.elim
  case o8 => exact fun _ _ => trivial
  case o3 => exact below_alloc (Below.refl _ _) _
  case o4 => simp
  case o5 => simpa using hl
  intro v1 w1 hown hb hg hat
  have HO := Aside0.mk hown; have HB := Aside0.mk hb; clear hown hb hg hat
  go_wp2
  go_ret
  exact ⟨v1, rfl, HO.out, HB.out⟩
 exact absurd h (by simp)


/-- slices.Clone: the same elements, in memory of the call's own. -/
def slices_Clone_uint64_uint64.f (l0 : List Int) : Option (List Int) := if l0.length * 8 ≤ 140737488355328 then some l0 else none
set_option maxHeartbeats 4000000 in
set_option maxRecDepth 100000 in
theorem slices_Clone_uint64_uint64.calls (A0 : Option Addr) (c0 : Nat) (l0 : List Int) (r : List Int) (w : World) (hr0 : Kd.C (Kd.int .u64) w A0 l0.length l0) (hc0 : l0.length ≤ c0) (h : slices_Clone_uint64_uint64.f l0 = some r) :
  Calls Try.prog 59 #[.slice A0 l0.length c0] w fun e w' => ∃ v0_ : Value, e = .returned (v0_) ∧ Kd.R (Kd.int .u64) 22 w' w.heap.size (fun _ => True) v0_ r ∧ Below w.heap.size w w' := by
 unfold slices_Clone_uint64_uint64.f at h
 split at h
 ·rename_i hl
  obtain rfl := Option.some.inj h
  clear h
  have q22 : ∀ (w : World) (a : Option Addr) (n c n' c' : Nat), (binOp .eql 28 (.slice a n c) (.slice none n' c')).run Try.prog w = .ok (.bool a.isNone) w := fun w a n c n' c' => Lib.run_eql_slice_nil w _ _ a n c n' c' Try.underlying28
  have HR0 := Aside0.mk hr0; clear hr0
  rcases A0 with _ | ad
  ·obtain rfl := Hand.C_none HR0.out
   clear HR0
   go_enter Try.func59, Try.ntmps59
   go_wp2
   go_ret
   exact ⟨_, rfl, Kd.R_nil _ _ _ _ _, Below.refl _ _⟩
  go_enter Try.func59, Try.ntmps59
  go_wp2_with (at_builtin; refine Kd.R_append_rows (Kd.int .u64) (Rr := ((Kd.int .u64)).K w) (w0 := w) w.heap.size rfl (.tmp 5) (.tmp 6) 28 22 (.int .u64 0) 8 rfl Try.underlying28 info22 rfl (by decide) (by decide) (.slice (some ⟨w.heap.size, 0, none⟩) 0 0) [] l0 (some ad) l0.length c0 (fun _ => True) (fun _ => False) rfl rfl ?o1 ?o2 ?o6 ?o7 ?o8 ?o3 ?o4 ?o5 ?_)
  case o1 => exact Hand.R_empty _ _ _
  case o2 => exact ReadsRow.imp_ HR0.out (below_alloc (Below.refl _ _) _) (fun _ _ hp => hp)
  case o6 => intro x cs h; exact h
  case o7 => exact fun _ hk => hk.elim
  case o8 => exact fun _ _ => trivial
  case o3 => exact below_alloc (Below.refl _ _) _
  case o4 => simp
  case o5 => simpa using hl
  intro v1 w1 hown hb hg hat
  have HO := Aside0.mk hown; have HB := Aside0.mk hb; clear hown hb hg hat
  go_wp2
  go_ret
  exact ⟨v1, rfl, HO.out, HB.out⟩
 exact absurd h (by simp)


-- NOT PRINTED: function 28 (message_thing)

def api_Kind.l0 : Nat → Int → List Int → Int → Int → Option (Int)
 | 0, _, _, _, _ => none
 | k + 1, x3, x6, x7, x8 => if x8 < x7 then (if 0 ≤ x8 then (if x8 < (x6.length : Int) then (if (rd x6 x8) = x3 then (api_Kind.l0 k x3 x6 x7 (wrap64 (x8 + 1))) else (some (rd x6 x8))) else (none)) else (none)) else (some x3)
def api_Kind.f (k : Nat) (l0 : List Int) : Option (Int) := api_Kind.l0 k 0 l0 (l0.length : Int) 0
set_option maxHeartbeats 40000000 in
set_option maxRecDepth 100000 in
theorem api_Kind.calls (k : Nat) (A0 : Option Addr) (c0 : Nat) (l0 : List Int) (r : Int) (w : World) (hr0 : Kd.C (Kd.int .i64) w A0 l0.length l0) (hc0 : l0.length ≤ c0) (h : api_Kind.f k l0 = some r) :
  Calls Try.prog 102 #[.slice A0 l0.length c0] w fun e w' => e = .returned (.int .i64 r) ∧ Drawn0 w w' := by
 have HR0 := Aside0.mk hr0; have HC0 := Aside0.mk hc0; clear hr0 hc0; have H : (api_Kind.l0 k 0 l0 (l0.length : Int) 0) = some r := h; clear h
 have H' := Aside0.mk H
 clear H
 go_enter Try.func102, Try.ntmps102
 go_wp2
 go_loopg [8] k (fun kq v8 w' => ∃ (x8_1 : Int), v8 = .int .i64 x8_1 ∧ Aside0 (api_Kind.l0 kq 0 l0 (l0.length : Int) x8_1 = some r) ∧ Aside0 (kq ≤ k) ∧ Drawn0 w w')
 case atStart => exact ⟨(0), (by (rfl)), H', ⟨Nat.le_refl _⟩, by repeat (exact Drawn0.refl _)⟩
 case round =>
  clear H'
  obtain ⟨x8_1, rfl, HA, HK1, ⟨m1, rfl⟩⟩ := hrel
  cases gk with
  | zero => exact absurd HA.out (by simp [api_Kind.l0])
  | succ k1 =>
   have H := HA.out; clear HA
   simp only [api_Kind.l0] at H
   by_cases c2 : x8_1 < (l0.length : Int)
   ·rw [if_pos c2] at H
    have c2b0 : decide (x8_1 < (l0.length : Int)) = true := decide_eq_true c2; clear c2
    by_cases c3 : 0 ≤ x8_1
    ·rw [if_pos c3] at H
     have c3b0 : decide (0 ≤ x8_1) = true := decide_eq_true c3; clear c3
     by_cases c4 : x8_1 < (l0.length : Int)
     ·rw [if_pos c4] at H
      have c4b0 : decide (x8_1 < (l0.length : Int)) = true := decide_eq_true c4; clear c4
      by_cases c5 : (rd l0 x8_1) = 0
      ·rw [if_pos c5] at H
       obtain ⟨c5b0, c5b1⟩ := Hand.Cz.eqT c5; clear c5
       have H' := Aside0.mk H
       clear H; have p104 : 0 ≤ (x8_1 : Int) := of_decide_eq_true (by (with_reducible assumption)); have q104 : x8_1 < (l0.length : Int) := of_decide_eq_true (by (with_reducible assumption))
       obtain ⟨ad104, e104, hx104_0⟩ := Kd.at_int HR0.out x8_1 p104 q104
       cases e104
       replace p104 := eq_true p104
       replace q104 := eq_true q104
       go_wp2
       go_roundg k1
       case measure => have := HK1.out; omega
       case rel => exact ⟨(wrap64 (x8_1 + 1)), (by (rfl)), H', ⟨by have := HK1.out; omega⟩, by repeat (first | exact Drawn0.refl _ | apply Drawn0.step)⟩
      ·rw [if_neg c5] at H
       obtain ⟨c5b0, c5b1⟩ := Hand.Cz.eqF c5
       obtain rfl := Option.some.inj H
       have p104 : 0 ≤ (x8_1 : Int) := of_decide_eq_true (by (with_reducible assumption)); have q104 : x8_1 < (l0.length : Int) := of_decide_eq_true (by (with_reducible assumption))
       obtain ⟨ad104, e104, hx104_0⟩ := Kd.at_int HR0.out x8_1 p104 q104
       cases e104
       replace p104 := eq_true p104
       replace q104 := eq_true q104
       go_wp2
       go_ret
       exact ⟨by (rfl), by repeat (first | exact Drawn0.refl _ | apply Drawn0.step)⟩
     ·rw [if_neg c4] at H
      exact absurd H (by simp)
    ·rw [if_neg c3] at H
     exact absurd H (by simp)
   ·rw [if_neg c2] at H
    have c2b0 : decide (x8_1 < (l0.length : Int)) = false := decide_eq_false c2; clear c2
    obtain rfl := Option.some.inj H
    go_wp2
    go_ret
    exact ⟨by (rfl), by repeat (first | exact Drawn0.refl _ | apply Drawn0.step)⟩

def stringslite_HasPrefix.f (a0 : ByteArray) (a1 : ByteArray) : Option (Bool) := if (a0.size : Int) ≥ (a1.size : Int) then (if 0 ≤ (a1.size : Int) then (if (a1.size : Int) ≤ (a0.size : Int) then (some ((a0.extract 0 ((a1.size : Int) : Int).toNat).toList == a1.toList)) else (none)) else (none)) else (some false)
set_option maxHeartbeats 40000000 in
set_option maxRecDepth 100000 in
theorem stringslite_HasPrefix.calls (a0 : ByteArray) (a1 : ByteArray) (r : Bool) (w : World) (h : stringslite_HasPrefix.f a0 a1 = some r) :
  Calls Try.prog 112 #[.string a0, .string a1] w fun e w' => e = .returned (.bool r) ∧ Drawn0 w w' := by
 have H : (if (a0.size : Int) ≥ (a1.size : Int) then (if 0 ≤ (a1.size : Int) then (if (a1.size : Int) ≤ (a0.size : Int) then (some ((a0.extract 0 ((a1.size : Int) : Int).toNat).toList == a1.toList)) else (none)) else (none)) else (some false)) = some r := h; clear h
 by_cases c3 : (a0.size : Int) ≥ (a1.size : Int)
 ·rw [if_pos c3] at H
  have c3b0 : decide ((a1.size : Int) ≤ (a0.size : Int)) = true := decide_eq_true c3; have c3b1 : decide (a1.size ≤ a0.size) = true := decide_eq_true (Int.ofNat_le.mp c3); clear c3
  by_cases c4 : 0 ≤ (a1.size : Int)
  ·rw [if_pos c4] at H
   have c4b0 := eq_true c4; have c4b1 : decide (0 ≤ (a1.size : Int)) = true := decide_eq_true c4; clear c4
   by_cases c5 : (a1.size : Int) ≤ (a0.size : Int)
   ·rw [if_pos c5] at H
    have c5b0 := eq_true c5; have c5b1 : decide ((a1.size : Int) ≤ (a0.size : Int)) = true := decide_eq_true c5; clear c5
    obtain rfl := Option.some.inj H
    go_enter Try.func112, Try.ntmps112
    go_wp2
    go_ret
    exact ⟨by (rfl), by repeat (exact Drawn0.refl _)⟩
   rw [if_neg c5] at H
   exact absurd H (by simp)
  rw [if_neg c4] at H
  exact absurd H (by simp)
 rw [if_neg c3] at H
 have c3b0 : decide ((a1.size : Int) ≤ (a0.size : Int)) = false := decide_eq_false c3
 have c3b1 : decide (a1.size ≤ a0.size) = false := decide_eq_false (fun h => c3 (Int.ofNat_le.mpr h))
 clear c3
 obtain rfl := Option.some.inj H
 go_enter Try.func112, Try.ntmps112
 go_wp2
 go_ret
 exact ⟨by (rfl), by repeat (exact Drawn0.refl _)⟩

def strings_HasPrefix.f (a0 : ByteArray) (a1 : ByteArray) : Option (Bool) := (stringslite_HasPrefix.f a0 a1).bind fun t105 => (some t105)
set_option maxHeartbeats 40000000 in
set_option maxRecDepth 100000 in
theorem strings_HasPrefix.calls (a0 : ByteArray) (a1 : ByteArray) (r : Bool) (w : World) (h : strings_HasPrefix.f a0 a1 = some r) :
  Calls Try.prog 109 #[.string a0, .string a1] w fun e w' => e = .returned (.bool r) ∧ Drawn0 w w' := by
 have H : ((stringslite_HasPrefix.f a0 a1).bind fun t105 => (some t105)) = some r := h
 clear h
 replace H := Option.bind_eq_some_iff.mp H
 obtain ⟨t105, A30, H⟩ := H
 replace H : (some t105) = some r := H
 have A3 := Aside0.mk A30; clear A30
 obtain rfl := Option.some.inj H
 go_enter Try.func109, Try.ntmps109
 go_wp2_with ((with_reducible refine gate_callee (f := 112) rfl ?_); refine goesL_ (some 7) rfl rfl Try.func112 (by kernel_rfl) rfl #[.string a0, .string a1] rfl (by (try simp only [List.map_toArray, List.map_cons, List.map_nil]); (rfl)) ?_; (with_reducible refine (stringslite_HasPrefix.calls a0 a1 t105 _ A3.out).mono ?_); rintro e w' ⟨rfl, ⟨nd, rfl⟩⟩; refine ⟨_, rfl, ?_⟩)
 go_ret
 exact ⟨by (rfl), by repeat (first | exact Drawn0.refl _ | apply Drawn0.step)⟩

end Go.Proofs.Ytlpnpnjjmpkapaa.PAll
