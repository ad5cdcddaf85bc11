import Derived.Test.YtlpnpnjjmpkapaaPAllx0
import Derived.Test.YtlpnpnjjmpkapaaPAllx12
namespace Go.Proofs.Ytlpnpnjjmpkapaa.PAll
open Go.RowKit Go.Proofs.YtlpnpnjjmpkapaaW.PrintWords Go.Proofs.YtlpnpnjjmpkapaaW.PrintLast Go.Proofs.YtlpnpnjjmpkapaaW.PrintMore
attribute [local go_sem] max2_int min2_int max_two min_two max_three min_three max_four min_four   -- for this text's walks alone
set_option linter.unusedVariables false
set_option linter.unusedSimpArgs false

mutual
def winnowref03_Name.j0 : Nat → ByteArray → Bool → Option (Int)
 | 0, _, _ => none
 | k + 1, x0, x13 => if x13 = true then (some 5) else ((winnowref03_Runes.f k x0).bind fun bt153 => (winnowref03_Name.l0 k bt153.1 bt153.2 0))
def winnowref03_Name.l0 : Nat → List Int → Bool → Int → Option (Int)
 | 0, _, _, _ => none
 | k + 1, x3, x4, x5 => if x5 < (x3.length : Int) then (if 0 ≤ x5 then (if (rd x3 x5) < 32 then (some 5) else (if (rd x3 x5) ≥ 127 then (if (rd x3 x5) ≤ 159 then (some 5) else (winnowref03_Name.l0 k x3 x4 (wrap64 (x5 + 1)))) else (winnowref03_Name.l0 k x3 x4 (wrap64 (x5 + 1))))) else (none)) else (if x4 = true then (some 0) else (some 5))
end
def winnowref03_Name.f (k : Nat) (a0 : ByteArray) : Option (Int) := if (a0.size : Int) < 1 then (winnowref03_Name.j0 k a0 true) else (winnowref03_Name.j0 k a0 (decide ((a0.size : Int) > 32)))
set_option maxHeartbeats 40000000 in
set_option maxRecDepth 100000 in
theorem winnowref03_Name.calls (k : Nat) (a0 : ByteArray) (r : Int) (w : World) (h : winnowref03_Name.f k a0 = some r) :
  Calls Try.prog 96 #[.string a0] w fun e w' => e = .returned (.int .i64 r) ∧ Below w.heap.size w w' := by
 have HB := Aside0.mk (Below.refl w.heap.size w); have H : (if (a0.size : Int) < 1 then (winnowref03_Name.j0 k a0 true) else (winnowref03_Name.j0 k a0 (decide ((a0.size : Int) > 32)))) = some r := h; clear h; have HC2 := Aside0.mk H; clear H
 go_enter Try.func96, Try.ntmps96
 go_upto_region 1 with (fail)
 go_cut [13] (fun v13 wc => ∃ (kq : Nat) (x13_1 : Bool), v13 = .bool x13_1 ∧ Aside0 (winnowref03_Name.j0 kq a0 x13_1 = some r) ∧ Aside0 (kq ≤ k) ∧ Aside0 (Below w.heap.size w wc))
 case first =>
  have H := HC2.out; clear HC2
  by_cases c3 : (a0.size : Int) < 1
  ·rw [if_pos c3] at H
   have c3b0 : decide ((a0.size : Int) < 1) = true := decide_eq_true c3; have c3b1 : decide (a0.size < 1) = true := decide_eq_true (by omega); clear c3
   (skip)
   have H' := Aside0.mk H
   clear H
   go_wp2
   go_meet
   case rel => exact ⟨_, (true), (by (rfl)), H', ⟨by (omega)⟩, ⟨by repeat (with_reducible (exact HB.out))⟩⟩
  ·rw [if_neg c3] at H
   have c3b0 : decide ((a0.size : Int) < 1) = false := decide_eq_false c3; have c3b1 : decide (a0.size < 1) = false := decide_eq_false (by omega); clear c3
   (skip)
   have H' := Aside0.mk H
   clear H
   go_wp2
   go_meet
   case rel => exact ⟨_, (decide ((a0.size : Int) > 32)), (by (rfl)), H', ⟨by (omega)⟩, ⟨by repeat (with_reducible (exact HB.out))⟩⟩
 case rest =>
  clear HC2
  obtain ⟨kq, x13_1, rfl, HA, HJ1, HB⟩ := hcut
  cases kq with
  | zero => exact absurd HA.out (by simp [winnowref03_Name.j0])
  | succ kj1 =>
   have H := HA.out; clear HA
   simp only [winnowref03_Name.j0] at H
   by_cases c4 : x13_1 = true
   ·subst c4
    rw [if_pos rfl] at H
    obtain rfl := Option.some.inj H
    go_wp2
    go_ret
    exact ⟨by (rfl), by repeat (with_reducible (exact HB.out))⟩
   ·replace c4 := Bool.eq_false_iff.mpr c4
    subst c4
    rw [if_neg (show ¬ (false = true) by decide)] at H
    replace H := Option.bind_eq_some_iff.mp H
    obtain ⟨⟨t153, t154⟩, A50, H⟩ := H
    (try dsimp only at H)
    have A5 := Aside0.mk A50; clear A50
    have H' := Aside0.mk H
    clear H
    go_wp2_with ((with_reducible refine gate_callee (f := 104) rfl ?_); refine goesL_ (some 16) rfl rfl Try.func104 (by kernel_rfl) rfl #[.string a0] rfl (by (try simp only [List.map_toArray, List.map_cons, List.map_nil]); (rfl)) ?_; (with_reducible refine (winnowref03_Runes.calls kj1 a0 t153 t154 _ A5.out).mono ?_); rintro e w6 ⟨v155, rfl, ho0, hb⟩; refine ⟨_, rfl, ?_⟩; have n0_ := Aside0.mk (Kd.R_lower ho0 (below_size (by repeat (with_reducible (exact HB.out))))); have n1_ := Aside0.mk (below_step (by repeat (with_reducible (exact HB.out))) hb); clear HB; have HO156 := n0_; have HB := n1_; clear n0_ n1_; (try clear hb); (try clear ho0))
    go_loopg [5] kj1 (fun kq v5 w' => ∃ (x5_2 : Int), v5 = .int .i64 x5_2 ∧ Aside0 (winnowref03_Name.l0 kq t153 t154 x5_2 = some r) ∧ Aside0 (kq ≤ kj1) ∧ Aside0 (Kd.R (Kd.int .i32) 21 w' w.heap.size (fun _ => True) v155 t153) ∧ Aside0 (Below w.heap.size w w'))
    case atStart => exact ⟨(0), (by (rfl)), H', ⟨Nat.le_refl _⟩, ⟨by (with_reducible skip); exact HO156.out⟩, ⟨by repeat (with_reducible (exact HB.out))⟩⟩
    case round =>
     clear H'
     obtain ⟨x5_2, rfl, HA, HK2, HO_3, HB⟩ := hrel
     cases gk with
     | zero => exact absurd HA.out (by simp [winnowref03_Name.l0])
     | succ k2 =>
      have H := HA.out; clear HA
      simp only [winnowref03_Name.l0] at H
      by_cases c7 : x5_2 < (t153.length : Int)
      ·rw [if_pos c7] at H
       have c7b0 : decide (x5_2 < (t153.length : Int)) = true := decide_eq_true c7; clear c7
       by_cases c8 : 0 ≤ x5_2
       ·rw [if_pos c8] at H
        have c8b0 : decide (0 ≤ x5_2) = true := decide_eq_true c8; clear c8
        by_cases c9 : (rd t153 x5_2) < 32
        ·rw [if_pos c9] at H
         have c9b0 : decide ((rd t153 x5_2) < 32) = true := decide_eq_true c9; clear c9
         obtain rfl := Option.some.inj H
         obtain ⟨Ao10, co10, eo10⟩ := Kd.R_slice HO_3.out
         subst eo10; have p157 : 0 ≤ (x5_2 : Int) := of_decide_eq_true (by (with_reducible assumption)); have q157 : x5_2 < (t153.length : Int) := of_decide_eq_true (by (with_reducible assumption))
         obtain ⟨ad157, e157, hx157_0⟩ := Kd.at_int (Kd.R_reads' HO_3.out).2.2 x5_2 p157 q157
         cases e157
         replace p157 := eq_true p157
         replace q157 := eq_true q157
         go_wp2
         go_ret
         exact ⟨by (rfl), by repeat (with_reducible (exact HB.out))⟩
        ·rw [if_neg c9] at H
         have c9b0 : decide ((rd t153 x5_2) < 32) = false := decide_eq_false c9; clear c9
         by_cases c11 : (rd t153 x5_2) ≥ 127
         ·rw [if_pos c11] at H
          have c11b0 : decide (127 ≤ (rd t153 x5_2)) = true := decide_eq_true c11; clear c11
          by_cases c12 : (rd t153 x5_2) ≤ 159
          ·rw [if_pos c12] at H
           have c12b0 : decide ((rd t153 x5_2) ≤ 159) = true := decide_eq_true c12; clear c12
           obtain rfl := Option.some.inj H
           obtain ⟨Ao13, co13, eo13⟩ := Kd.R_slice HO_3.out
           subst eo13; have p157 : 0 ≤ (x5_2 : Int) := of_decide_eq_true (by (with_reducible assumption)); have q157 : x5_2 < (t153.length : Int) := of_decide_eq_true (by (with_reducible assumption))
           obtain ⟨ad157, e157, hx157_0⟩ := Kd.at_int (Kd.R_reads' HO_3.out).2.2 x5_2 p157 q157
           cases e157
           replace p157 := eq_true p157
           replace q157 := eq_true q157
           have p158 : 0 ≤ (x5_2 : Int) := of_decide_eq_true (by (with_reducible assumption)); have q158 : x5_2 < (t153.length : Int) := of_decide_eq_true (by (with_reducible assumption))
           obtain ⟨ad158, e158, hx158_0⟩ := Kd.at_int (Kd.R_reads' HO_3.out).2.2 x5_2 p158 q158
           obtain rfl : ad157 = ad158 := (by injection e158)
           replace p158 := eq_true p158
           replace q158 := eq_true q158
           have p159 : 0 ≤ (x5_2 : Int) := of_decide_eq_true (by (with_reducible assumption)); have q159 : x5_2 < (t153.length : Int) := of_decide_eq_true (by (with_reducible assumption))
           obtain ⟨ad159, e159, hx159_0⟩ := Kd.at_int (Kd.R_reads' HO_3.out).2.2 x5_2 p159 q159
           obtain rfl : ad157 = ad159 := (by injection e159)
           replace p159 := eq_true p159
           replace q159 := eq_true q159
           go_wp2
           go_ret
           exact ⟨by (rfl), by repeat (with_reducible (exact HB.out))⟩
          ·rw [if_neg c12] at H
           have c12b0 : decide ((rd t153 x5_2) ≤ 159) = false := decide_eq_false c12; clear c12
           have H' := Aside0.mk H
           clear H
           obtain ⟨Ao14, co14, eo14⟩ := Kd.R_slice HO_3.out
           subst eo14; have p157 : 0 ≤ (x5_2 : Int) := of_decide_eq_true (by (with_reducible assumption)); have q157 : x5_2 < (t153.length : Int) := of_decide_eq_true (by (with_reducible assumption))
           obtain ⟨ad157, e157, hx157_0⟩ := Kd.at_int (Kd.R_reads' HO_3.out).2.2 x5_2 p157 q157
           cases e157
           replace p157 := eq_true p157
           replace q157 := eq_true q157
           have p158 : 0 ≤ (x5_2 : Int) := of_decide_eq_true (by (with_reducible assumption)); have q158 : x5_2 < (t153.length : Int) := of_decide_eq_true (by (with_reducible assumption))
           obtain ⟨ad158, e158, hx158_0⟩ := Kd.at_int (Kd.R_reads' HO_3.out).2.2 x5_2 p158 q158
           obtain rfl : ad157 = ad158 := (by injection e158)
           replace p158 := eq_true p158
           replace q158 := eq_true q158
           have p159 : 0 ≤ (x5_2 : Int) := of_decide_eq_true (by (with_reducible assumption)); have q159 : x5_2 < (t153.length : Int) := of_decide_eq_true (by (with_reducible assumption))
           obtain ⟨ad159, e159, hx159_0⟩ := Kd.at_int (Kd.R_reads' HO_3.out).2.2 x5_2 p159 q159
           obtain rfl : ad157 = ad159 := (by injection e159)
           replace p159 := eq_true p159
           replace q159 := eq_true q159
           go_wp2
           go_roundg k2
           case measure => have := HJ1.out; have := HK2.out; omega
           case rel => exact ⟨(wrap64 (x5_2 + 1)), (by (rfl)), H', ⟨by have := HJ1.out; have := HK2.out; omega⟩, ⟨by (with_reducible skip); exact HO_3.out⟩, ⟨by repeat (with_reducible (exact HB.out))⟩⟩
         ·rw [if_neg c11] at H
          have c11b0 : decide (127 ≤ (rd t153 x5_2)) = false := decide_eq_false c11; clear c11
          have H' := Aside0.mk H
          clear H
          obtain ⟨Ao15, co15, eo15⟩ := Kd.R_slice HO_3.out
          subst eo15; have p157 : 0 ≤ (x5_2 : Int) := of_decide_eq_true (by (with_reducible assumption)); have q157 : x5_2 < (t153.length : Int) := of_decide_eq_true (by (with_reducible assumption))
          obtain ⟨ad157, e157, hx157_0⟩ := Kd.at_int (Kd.R_reads' HO_3.out).2.2 x5_2 p157 q157
          cases e157
          replace p157 := eq_true p157
          replace q157 := eq_true q157
          have p158 : 0 ≤ (x5_2 : Int) := of_decide_eq_true (by (with_reducible assumption)); have q158 : x5_2 < (t153.length : Int) := of_decide_eq_true (by (with_reducible assumption))
          obtain ⟨ad158, e158, hx158_0⟩ := Kd.at_int (Kd.R_reads' HO_3.out).2.2 x5_2 p158 q158
          obtain rfl : ad157 = ad158 := (by injection e158)
          replace p158 := eq_true p158
          replace q158 := eq_true q158
          go_wp2
          go_roundg k2
          case measure => have := HJ1.out; have := HK2.out; omega
          case rel => exact ⟨(wrap64 (x5_2 + 1)), (by (rfl)), H', ⟨by have := HJ1.out; have := HK2.out; omega⟩, ⟨by (with_reducible skip); exact HO_3.out⟩, ⟨by repeat (with_reducible (exact HB.out))⟩⟩
       ·rw [if_neg c8] at H
        exact absurd H (by simp)
      ·rw [if_neg c7] at H
       have c7b0 : decide (x5_2 < (t153.length : Int)) = false := decide_eq_false c7; clear c7
       by_cases c16 : t154 = true
       ·subst c16
        rw [if_pos rfl] at H
        obtain rfl := Option.some.inj H
        obtain ⟨Ao17, co17, eo17⟩ := Kd.R_slice HO_3.out
        subst eo17
        go_wp2
        go_ret
        exact ⟨by (rfl), by repeat (with_reducible (exact HB.out))⟩
       ·replace c16 := Bool.eq_false_iff.mpr c16
        subst c16
        rw [if_neg (show ¬ (false = true) by decide)] at H
        obtain rfl := Option.some.inj H
        obtain ⟨Ao18, co18, eo18⟩ := Kd.R_slice HO_3.out
        subst eo18
        go_wp2
        go_ret
        exact ⟨by (rfl), by repeat (with_reducible (exact HB.out))⟩

def winnowref03_Right.j0 : Nat → Bool → Int → Int → Int → Int → Int → ByteArray → ByteArray → Bool → Option (Int)
 | 0, _, _, _, _, _, _, _, _, _ => none
 | k + 1, x20, x161000, x161001, x161002, x161003, x161004, x161005, x161006, x161007 => if x20 = true then (some 1) else ((winnowref03_Name.f k x161005).bind fun t161 => (if t161 = 0 then ((winnowref03_Name.f k x161006).bind fun t162 => (if t162 = 0 then (some 0) else (some 5))) else (some 5)))
def winnowref03_Right.f (k : Nat) (a0_0 : Int) (a0_1 : Int) (a0_2 : Int) (a0_3 : Int) (a0_4 : Int) (a0_5 : ByteArray) (a0_6 : ByteArray) (a0_7 : Bool) : Option (Int) := if a0_0 = 0 then (winnowref03_Right.j0 k true a0_0 a0_1 a0_2 a0_3 a0_4 a0_5 a0_6 a0_7) else (if a0_1 = 0 then (winnowref03_Right.j0 k true a0_0 a0_1 a0_2 a0_3 a0_4 a0_5 a0_6 a0_7) else (if a0_3 > 1099511627776 then (winnowref03_Right.j0 k true a0_0 a0_1 a0_2 a0_3 a0_4 a0_5 a0_6 a0_7) else (winnowref03_Right.j0 k (decide (a0_4 > 1099511627776)) a0_0 a0_1 a0_2 a0_3 a0_4 a0_5 a0_6 a0_7)))
set_option maxHeartbeats 40000000 in
set_option maxRecDepth 100000 in
theorem winnowref03_Right.calls (k : Nat) (a0_0 : Int) (a0_1 : Int) (a0_2 : Int) (a0_3 : Int) (a0_4 : Int) (a0_5 : ByteArray) (a0_6 : ByteArray) (a0_7 : Bool) (r : Int) (w : World) (h : winnowref03_Right.f k a0_0 a0_1 a0_2 a0_3 a0_4 a0_5 a0_6 a0_7 = some r) :
  Calls Try.prog 71 #[.agg #[.int .u64 a0_0, .int .u64 a0_1, .int .u64 a0_2, .int .u64 a0_3, .int .u64 a0_4, .string a0_5, .string a0_6, .bool a0_7]] w fun e w' => e = .returned (.int .i64 r) ∧ Below w.heap.size w w' := by
 have hu76 := Try.underlying76; have HB := Aside0.mk (Below.refl w.heap.size w); have H : (if a0_0 = 0 then (winnowref03_Right.j0 k true a0_0 a0_1 a0_2 a0_3 a0_4 a0_5 a0_6 a0_7) else (if a0_1 = 0 then (winnowref03_Right.j0 k true a0_0 a0_1 a0_2 a0_3 a0_4 a0_5 a0_6 a0_7) else (if a0_3 > 1099511627776 then (winnowref03_Right.j0 k true a0_0 a0_1 a0_2 a0_3 a0_4 a0_5 a0_6 a0_7) else (winnowref03_Right.j0 k (decide (a0_4 > 1099511627776)) a0_0 a0_1 a0_2 a0_3 a0_4 a0_5 a0_6 a0_7)))) = some r := h; clear h; have HC2 := Aside0.mk H; clear H
 go_enter Try.func71, Try.ntmps71
 go_upto_region 1 with ((with_reducible refine gate_dst (N := 1) rfl ?_); refine box_event ?hg (N := 1) ?hd (cs := #[.int .u64 a0_0, .int .u64 a0_1, .int .u64 a0_2, .int .u64 a0_3, .int .u64 a0_4, .string a0_5, .string a0_6, .bool a0_7]) (t := 76) ?hr ?_; (case hd => rfl); (case hg => rfl); (case hr => (go_simp; done)); intro gb160 hg w3 hbox hb; have n0_ := Aside0.mk (below_step (by repeat (with_reducible (exact HB.out))) hb); have n1_ := Aside0.mk (hbox); have n2_ := Aside0.mk ((by rw [hg]; exact (below_size (by repeat (with_reducible (exact HB.out)))) : w.heap.size ≤ gb160)); have n3_ := n2_; clear HB; have HB := n0_; have BK160 := n1_; have GW160 := n2_; have GE160 := n3_; clear n0_ n1_ n2_ n3_; clear hb hbox hg)
 go_cut [20] (fun v20 wc => ∃ (kq : Nat) (x20_1 : Bool), v20 = .bool x20_1 ∧ Aside0 (winnowref03_Right.j0 kq x20_1 a0_0 a0_1 a0_2 a0_3 a0_4 a0_5 a0_6 a0_7 = some r) ∧ Aside0 (kq ≤ k) ∧ Aside0 (wc.heap[gb160]? = some (.cells #[.int .u64 a0_0, .int .u64 a0_1, .int .u64 a0_2, .int .u64 a0_3, .int .u64 a0_4, .string a0_5, .string a0_6, .bool a0_7] 76 (0, 0))) ∧ Aside0 (Below w.heap.size w wc))
 case first =>
  have H := HC2.out; clear HC2
  by_cases c4 : a0_0 = 0
  ·rw [if_pos c4] at H
   obtain ⟨c4b0, c4b1⟩ := Hand.Cz.eqT c4; clear c4
   (skip)
   have H' := Aside0.mk H
   clear H
   obtain ⟨z5_0, z5_1, z5_2, z5_3, z5_4, z5_5, z5_6, z5_7⟩ := Hand.Cz.c8 BK160.out
   obtain ⟨y5_0, y5_1, y5_2, y5_3, y5_4, y5_5, y5_6, y5_7⟩ := Hand.Cz.f8 BK160.out
   go_wp2
   go_meet
   case rel => exact ⟨_, (true), (by (rfl)), H', ⟨by (omega)⟩, ⟨by (with_reducible skip); exact BK160.out⟩, ⟨by repeat (with_reducible (exact HB.out))⟩⟩
  ·rw [if_neg c4] at H
   obtain ⟨c4b0, c4b1⟩ := Hand.Cz.eqF c4
   (skip)
   by_cases c6 : a0_1 = 0
   ·rw [if_pos c6] at H
    obtain ⟨c6b0, c6b1⟩ := Hand.Cz.eqT c6; clear c6
    have H' := Aside0.mk H
    clear H
    obtain ⟨z7_0, z7_1, z7_2, z7_3, z7_4, z7_5, z7_6, z7_7⟩ := Hand.Cz.c8 BK160.out
    obtain ⟨y7_0, y7_1, y7_2, y7_3, y7_4, y7_5, y7_6, y7_7⟩ := Hand.Cz.f8 BK160.out
    go_wp2
    go_meet
    case rel => exact ⟨_, (true), (by (rfl)), H', ⟨by (omega)⟩, ⟨by (with_reducible skip); exact BK160.out⟩, ⟨by repeat (with_reducible (exact HB.out))⟩⟩
   ·rw [if_neg c6] at H
    obtain ⟨c6b0, c6b1⟩ := Hand.Cz.eqF c6
    by_cases c8 : a0_3 > 1099511627776
    ·rw [if_pos c8] at H
     have c8b0 : decide (1099511627776 < a0_3) = true := decide_eq_true c8; clear c8
     have H' := Aside0.mk H
     clear H
     obtain ⟨z9_0, z9_1, z9_2, z9_3, z9_4, z9_5, z9_6, z9_7⟩ := Hand.Cz.c8 BK160.out
     obtain ⟨y9_0, y9_1, y9_2, y9_3, y9_4, y9_5, y9_6, y9_7⟩ := Hand.Cz.f8 BK160.out
     go_wp2
     go_meet
     case rel => exact ⟨_, (true), (by (rfl)), H', ⟨by (omega)⟩, ⟨by (with_reducible skip); exact BK160.out⟩, ⟨by repeat (with_reducible (exact HB.out))⟩⟩
    ·rw [if_neg c8] at H
     have c8b0 : decide (1099511627776 < a0_3) = false := decide_eq_false c8; clear c8
     have H' := Aside0.mk H
     clear H
     obtain ⟨z10_0, z10_1, z10_2, z10_3, z10_4, z10_5, z10_6, z10_7⟩ := Hand.Cz.c8 BK160.out
     obtain ⟨y10_0, y10_1, y10_2, y10_3, y10_4, y10_5, y10_6, y10_7⟩ := Hand.Cz.f8 BK160.out
     go_wp2
     go_meet
     case rel => exact ⟨_, (decide (a0_4 > 1099511627776)), (by (rfl)), H', ⟨by (omega)⟩, ⟨by (with_reducible skip); exact BK160.out⟩, ⟨by repeat (with_reducible (exact HB.out))⟩⟩
 case rest =>
  clear HC2
  obtain ⟨kq, x20_1, rfl, HA, HJ1, BK160, HB⟩ := hcut
  cases kq with
  | zero => exact absurd HA.out (by simp [winnowref03_Right.j0])
  | succ kj1 =>
   have H := HA.out; clear HA
   simp only [winnowref03_Right.j0] at H
   by_cases c11 : x20_1 = true
   ·subst c11
    rw [if_pos rfl] at H
    obtain rfl := Option.some.inj H
    go_wp2
    go_ret
    exact ⟨by (rfl), by repeat (with_reducible (exact HB.out))⟩
   ·replace c11 := Bool.eq_false_iff.mpr c11
    subst c11
    rw [if_neg (show ¬ (false = true) by decide)] at H
    replace H := Option.bind_eq_some_iff.mp H
    obtain ⟨t161, A120, H⟩ := H
    (try dsimp only at H)
    have A12 := Aside0.mk A120; clear A120
    by_cases c13 : t161 = 0
    ·rw [if_pos c13] at H
     obtain ⟨c13b0, c13b1⟩ := Hand.Cz.eqT c13; clear c13
     replace H := Option.bind_eq_some_iff.mp H
     obtain ⟨t162, A140, H⟩ := H
     (try dsimp only at H)
     have A14 := Aside0.mk A140; clear A140
     by_cases c15 : t162 = 0
     ·rw [if_pos c15] at H
      obtain ⟨c15b0, c15b1⟩ := Hand.Cz.eqT c15; clear c15
      obtain rfl := Option.some.inj H
      obtain ⟨z16_0, z16_1, z16_2, z16_3, z16_4, z16_5, z16_6, z16_7⟩ := Hand.Cz.c8 BK160.out
      obtain ⟨y16_0, y16_1, y16_2, y16_3, y16_4, y16_5, y16_6, y16_7⟩ := Hand.Cz.f8 BK160.out
      go_wp2_with (first | ((with_reducible refine gate_callee (f := 96) rfl ?_); refine goesL_ (some 23) rfl rfl Try.func96 (by kernel_rfl) rfl #[.string a0_5] rfl (by (try simp only [List.map_toArray, List.map_cons, List.map_nil]); (rfl)) ?_; (with_reducible refine (winnowref03_Name.calls kj1 a0_5 t161 _ A12.out).mono ?_); rintro e w17 ⟨rfl, hb⟩; refine ⟨_, rfl, ?_⟩; have n0_ := Aside0.mk (blk_below (g := gb160) (o := .cells #[.int .u64 a0_0, .int .u64 a0_1, .int .u64 a0_2, .int .u64 a0_3, .int .u64 a0_4, .string a0_5, .string a0_6, .bool a0_7] 76 (0, 0)) (by (with_reducible skip); exact BK160.out) hb); have n1_ := Aside0.mk (below_step (by repeat (with_reducible (exact HB.out))) hb); clear BK160; clear HB; have BK160 := n0_; have HB := n1_; clear n0_ n1_; (try clear hb); obtain ⟨z18_0, z18_1, z18_2, z18_3, z18_4, z18_5, z18_6, z18_7⟩ := Hand.Cz.c8 BK160.out; obtain ⟨y18_0, y18_1, y18_2, y18_3, y18_4, y18_5, y18_6, y18_7⟩ := Hand.Cz.f8 BK160.out) | (go_at_call 96; (with_reducible refine (winnowref03_Name.calls kj1 a0_6 t162 _ A14.out).mono ?_); rintro e w19 ⟨rfl, hb⟩; have n0_ := Aside0.mk (blk_below (g := gb160) (o := .cells #[.int .u64 a0_0, .int .u64 a0_1, .int .u64 a0_2, .int .u64 a0_3, .int .u64 a0_4, .string a0_5, .string a0_6, .bool a0_7] 76 (0, 0)) (by (with_reducible skip); exact BK160.out) hb); have n1_ := Aside0.mk (below_step (by repeat (with_reducible (exact HB.out))) hb); clear BK160; clear HB; have BK160 := n0_; have HB := n1_; clear n0_ n1_; (try clear hb)))
      go_ret
      exact ⟨by (rfl), by repeat (with_reducible (exact HB.out))⟩
     ·rw [if_neg c15] at H
      obtain ⟨c15b0, c15b1⟩ := Hand.Cz.eqF c15
      obtain rfl := Option.some.inj H
      obtain ⟨z20_0, z20_1, z20_2, z20_3, z20_4, z20_5, z20_6, z20_7⟩ := Hand.Cz.c8 BK160.out
      obtain ⟨y20_0, y20_1, y20_2, y20_3, y20_4, y20_5, y20_6, y20_7⟩ := Hand.Cz.f8 BK160.out
      go_wp2_with (first | ((with_reducible refine gate_callee (f := 96) rfl ?_); refine goesL_ (some 23) rfl rfl Try.func96 (by kernel_rfl) rfl #[.string a0_5] rfl (by (try simp only [List.map_toArray, List.map_cons, List.map_nil]); (rfl)) ?_; (with_reducible refine (winnowref03_Name.calls kj1 a0_5 t161 _ A12.out).mono ?_); rintro e w21 ⟨rfl, hb⟩; refine ⟨_, rfl, ?_⟩; have n0_ := Aside0.mk (blk_below (g := gb160) (o := .cells #[.int .u64 a0_0, .int .u64 a0_1, .int .u64 a0_2, .int .u64 a0_3, .int .u64 a0_4, .string a0_5, .string a0_6, .bool a0_7] 76 (0, 0)) (by (with_reducible skip); exact BK160.out) hb); have n1_ := Aside0.mk (below_step (by repeat (with_reducible (exact HB.out))) hb); clear BK160; clear HB; have BK160 := n0_; have HB := n1_; clear n0_ n1_; (try clear hb); obtain ⟨z22_0, z22_1, z22_2, z22_3, z22_4, z22_5, z22_6, z22_7⟩ := Hand.Cz.c8 BK160.out; obtain ⟨y22_0, y22_1, y22_2, y22_3, y22_4, y22_5, y22_6, y22_7⟩ := Hand.Cz.f8 BK160.out) | (go_at_call 96; (with_reducible refine (winnowref03_Name.calls kj1 a0_6 t162 _ A14.out).mono ?_); rintro e w23 ⟨rfl, hb⟩; have n0_ := Aside0.mk (blk_below (g := gb160) (o := .cells #[.int .u64 a0_0, .int .u64 a0_1, .int .u64 a0_2, .int .u64 a0_3, .int .u64 a0_4, .string a0_5, .string a0_6, .bool a0_7] 76 (0, 0)) (by (with_reducible skip); exact BK160.out) hb); have n1_ := Aside0.mk (below_step (by repeat (with_reducible (exact HB.out))) hb); clear BK160; clear HB; have BK160 := n0_; have HB := n1_; clear n0_ n1_; (try clear hb)))
      go_ret
      exact ⟨by (rfl), by repeat (with_reducible (exact HB.out))⟩
    ·rw [if_neg c13] at H
     obtain ⟨c13b0, c13b1⟩ := Hand.Cz.eqF c13
     obtain rfl := Option.some.inj H
     obtain ⟨z24_0, z24_1, z24_2, z24_3, z24_4, z24_5, z24_6, z24_7⟩ := Hand.Cz.c8 BK160.out
     obtain ⟨y24_0, y24_1, y24_2, y24_3, y24_4, y24_5, y24_6, y24_7⟩ := Hand.Cz.f8 BK160.out
     go_wp2_with ((with_reducible refine gate_callee (f := 96) rfl ?_); refine goesL_ (some 23) rfl rfl Try.func96 (by kernel_rfl) rfl #[.string a0_5] rfl (by (try simp only [List.map_toArray, List.map_cons, List.map_nil]); (rfl)) ?_; (with_reducible refine (winnowref03_Name.calls kj1 a0_5 t161 _ A12.out).mono ?_); rintro e w25 ⟨rfl, hb⟩; refine ⟨_, rfl, ?_⟩; have n0_ := Aside0.mk (blk_below (g := gb160) (o := .cells #[.int .u64 a0_0, .int .u64 a0_1, .int .u64 a0_2, .int .u64 a0_3, .int .u64 a0_4, .string a0_5, .string a0_6, .bool a0_7] 76 (0, 0)) (by (with_reducible skip); exact BK160.out) hb); have n1_ := Aside0.mk (below_step (by repeat (with_reducible (exact HB.out))) hb); clear BK160; clear HB; have BK160 := n0_; have HB := n1_; clear n0_ n1_; (try clear hb))
     go_ret
     exact ⟨by (rfl), by repeat (with_reducible (exact HB.out))⟩

end Go.Proofs.Ytlpnpnjjmpkapaa.PAll
