import Derived.Test.YtlpnpnjjmpkapaaPAllx0
import Derived.Test.YtlpnpnjjmpkapaaPAllx4
import Derived.Test.YtlpnpnjjmpkapaaPAllx10
import Derived.Test.YtlpnpnjjmpkapaaPAllx12
import Derived.Test.YtlpnpnjjmpkapaaPAllx14
import Derived.Test.YtlpnpnjjmpkapaaPAllx15
namespace Go.Proofs.Ytlpnpnjjmpkapaa.PAll
open Go.RowKit Go.Proofs.YtlpnpnjjmpkapaaW.PrintWords Go.Proofs.YtlpnpnjjmpkapaaW.PrintLast Go.Proofs.YtlpnpnjjmpkapaaW.PrintMore
attribute [local go_sem] max2_int min2_int max_two min_two max_three min_three max_four min_four   -- for this text's walks alone
set_option linter.unusedVariables false
set_option linter.unusedSimpArgs false

mutual
def winnowlaw05_MessageTurned.j0 : Nat → Int → Int → Bool → Int → Int → Int → Int → Int → Int → Int → Bool → List (S76) → List (S92) → List Int → Option (Bool)
 | 0, _, _, _, _, _, _, _, _, _, _, _, _, _, _ => none
 | k + 1, x1, x2, x18, x197000, x197001, x197002, x197003, x197004, x197005, x197006, x197007, x197008, x197009, x197010 => if x18 = true then ((winnowlaw05_alive.f).bind fun t198 => (some t198)) else ((message_Encode.f x197000 x197001 x197002 x197003 x197004 x197005 x197006 x197007 x197008 x197009 x197010).bind fun bt199 => (if bt199.2 = 0 then (if x1 < 4 then (winnowlaw05_MessageTurned.j1 k x1 x2 bt199.1 true) else (winnowlaw05_MessageTurned.j1 k x1 x2 bt199.1 (decide (x1 ≥ (bt199.1.length : Int))))) else (winnowlaw05_MessageTurned.j1 k x1 x2 bt199.1 true)))
def winnowlaw05_MessageTurned.j1 : Nat → Int → Int → List Int → Bool → Option (Bool)
 | 0, _, _, _, _ => none
 | k + 1, x1, x2, x7, x36 => if x36 = true then ((winnowlaw05_alive.f).bind fun t203 => (some t203)) else ((some (([] : List Int) : List Int)).bind fun y204 => (if y204.length + x7.length < 140737488355328 then ((some (y204 ++ x7 : List Int)).bind fun y207 => (if 0 ≤ x1 then (if x1 < (y207.length : Int) then ((message_Decode.f (y207.set (x1 : Int).toNat (Go.bits .xor .u8 (rd y207 x1) x2))).bind fun bt212 => (if bt212.2.2.2.2.2.2.2.2.2.2.2 = 2 then ((winnowref05_Same.f k bt212.1 bt212.2.1 bt212.2.2.1 bt212.2.2.2.1 bt212.2.2.2.2.1 bt212.2.2.2.2.2.1 bt212.2.2.2.2.2.2.1 bt212.2.2.2.2.2.2.2.1 bt212.2.2.2.2.2.2.2.2.1 bt212.2.2.2.2.2.2.2.2.2.1 bt212.2.2.2.2.2.2.2.2.2.2.1 0 0 0 0 0 0 0 false ([] : List (S76)) ([] : List (S92)) ([] : List Int)).bind fun t231 => (if t231 = true then ((winnowlaw05_alive.f).bind fun t232 => (some t232)) else (some false))) else (some false))) else (none)) else (none))) else (none)))
end
def winnowlaw05_MessageTurned.f (k : Nat) (a0_0 : Int) (a0_1 : Int) (a0_2 : Int) (a0_3 : Int) (a0_4 : Int) (a0_5 : Int) (a0_6 : Int) (a0_7 : Bool) (l0_8 : List (S76)) (l0_9 : List (S92)) (l0_10 : List Int) (a1 : Int) (a2 : Int) : Option (Bool) := (winnowlaw05_Light.f k a0_0 a0_1 a0_2 a0_3 a0_4 a0_5 a0_6 a0_7 l0_8 l0_9 l0_10).bind fun t197 => (if t197 = true then (winnowlaw05_MessageTurned.j0 k a1 a2 (a2 == 0) a0_0 a0_1 a0_2 a0_3 a0_4 a0_5 a0_6 a0_7 l0_8 l0_9 l0_10) else (winnowlaw05_MessageTurned.j0 k a1 a2 true a0_0 a0_1 a0_2 a0_3 a0_4 a0_5 a0_6 a0_7 l0_8 l0_9 l0_10))
set_option maxHeartbeats 40000000 in
set_option maxRecDepth 100000 in
theorem winnowlaw05_MessageTurned.calls (k : Nat) (a0_0 : Int) (a0_1 : Int) (a0_2 : Int) (a0_3 : Int) (a0_4 : Int) (a0_5 : Int) (a0_6 : Int) (a0_7 : Bool) (A0_8 : Option Addr) (c0_8 : Nat) (l0_8 : List (S76)) (A0_9 : Option Addr) (c0_9 : Nat) (l0_9 : List (S92)) (A0_10 : Option Addr) (c0_10 : Nat) (l0_10 : List Int) (a1 : Int) (a2 : Int) (r : Bool) (w : World) (hr0_8 : Kd.C k76 w A0_8 l0_8.length l0_8) (hc0_8 : l0_8.length ≤ c0_8) (hr0_9 : Kd.C k92 w A0_9 l0_9.length l0_9) (hc0_9 : l0_9.length ≤ c0_9) (hr0_10 : Kd.C (Kd.int .u64) w A0_10 l0_10.length l0_10) (hc0_10 : l0_10.length ≤ c0_10) (hrt_ : r = true) (h : winnowlaw05_MessageTurned.f k a0_0 a0_1 a0_2 a0_3 a0_4 a0_5 a0_6 a0_7 l0_8 l0_9 l0_10 a1 a2 = some r) :
  Calls Try.prog 8 #[.agg #[.int .i64 a0_0, .int .u64 a0_1, .int .u64 a0_2, .int .u64 a0_3, .int .u64 a0_4, .int .u64 a0_5, .int .i64 a0_6, .bool a0_7, .slice A0_8 l0_8.length c0_8, .slice A0_9 l0_9.length c0_9, .slice A0_10 l0_10.length c0_10], .int .i64 a1, .int .u8 a2] w fun e w' => e = .returned (.bool r) ∧ Below w.heap.size w w' := by
 have HRT_ := Aside0.mk hrt_; clear hrt_; have hu30 := Try.underlying30; have HR0_8 := Aside0.mk hr0_8; have HC0_8 := Aside0.mk hc0_8; clear hr0_8 hc0_8; have HR0_9 := Aside0.mk hr0_9; have HC0_9 := Aside0.mk hc0_9; clear hr0_9 hc0_9; have HR0_10 := Aside0.mk hr0_10; have HC0_10 := Aside0.mk hc0_10; clear hr0_10 hc0_10; have HB := Aside0.mk (Below.refl w.heap.size w)
 have H : ((winnowlaw05_Light.f k a0_0 a0_1 a0_2 a0_3 a0_4 a0_5 a0_6 a0_7 l0_8 l0_9 l0_10).bind fun t197 => (if t197 = true then (winnowlaw05_MessageTurned.j0 k a1 a2 (a2 == 0) a0_0 a0_1 a0_2 a0_3 a0_4 a0_5 a0_6 a0_7 l0_8 l0_9 l0_10) else (winnowlaw05_MessageTurned.j0 k a1 a2 true a0_0 a0_1 a0_2 a0_3 a0_4 a0_5 a0_6 a0_7 l0_8 l0_9 l0_10))) = some r := h
 clear h; have HC4 := Aside0.mk H; clear H
 go_enter Try.func8, Try.ntmps8
 go_upto_region 1 with ((with_reducible refine gate_dst (N := 3) rfl ?_); (try (refine gate_guard (by rfl) ?_; dsimp only)); refine box_event ?hg (N := 3) ?hd (cs := #[.int .i64 a0_0, .int .u64 a0_1, .int .u64 a0_2, .int .u64 a0_3, .int .u64 a0_4, .int .u64 a0_5, .int .i64 a0_6, .bool a0_7, .slice A0_8 l0_8.length c0_8, .slice A0_9 l0_9.length c0_9, .slice A0_10 l0_10.length c0_10]) (t := 30) ?hr ?_; (case hd => rfl); (case hg => rfl); (case hr => (go_simp; done)); intro gb196 hg w5 hbox hb; have n0_ := Aside0.mk (below_step (by repeat (with_reducible (exact HB.out))) hb); have n1_ := Aside0.mk (hbox); have n2_ := Aside0.mk ((by rw [hg]; exact (below_size (by repeat (with_reducible (exact HB.out)))) : w.heap.size ≤ gb196)); have n3_ := n2_; clear HB; have HB := n0_; have BK196 := n1_; have GW196 := n2_; have GE196 := n3_; clear n0_ n1_ n2_ n3_; clear hb hbox hg)
 go_cut [18] (fun v18 wc => ∃ (kq : Nat) (x18_3 : Bool), v18 = .bool x18_3 ∧ Aside0 (winnowlaw05_MessageTurned.j0 kq a1 a2 x18_3 a0_0 a0_1 a0_2 a0_3 a0_4 a0_5 a0_6 a0_7 l0_8 l0_9 l0_10 = some r) ∧ Aside0 (kq ≤ k) ∧ Aside0 (wc.heap[gb196]? = some (.cells #[.int .i64 a0_0, .int .u64 a0_1, .int .u64 a0_2, .int .u64 a0_3, .int .u64 a0_4, .int .u64 a0_5, .int .i64 a0_6, .bool a0_7, (.slice A0_8 l0_8.length c0_8), (.slice A0_9 l0_9.length c0_9), (.slice A0_10 l0_10.length c0_10)] 30 (0, 0))) ∧ Aside0 (Below w.heap.size w wc))
 case first =>
  have H := HC4.out; clear HC4
  replace H := Option.bind_eq_some_iff.mp H
  obtain ⟨t197, A60, H⟩ := H
  (try dsimp only at H)
  have A6 := Aside0.mk A60; clear A60
  by_cases c7 : t197 = true
  ·subst c7
   rw [if_pos rfl] at H
   have H' := Aside0.mk H
   clear H
   obtain ⟨z8_0, z8_1, z8_2, z8_3, z8_4, z8_5, z8_6, z8_7, z8_8, z8_9, z8_10⟩ := Hand.Cz.c11 BK196.out
   obtain ⟨y8_0, y8_1, y8_2, y8_3, y8_4, y8_5, y8_6, y8_7, y8_8, y8_9, y8_10⟩ := Hand.Cz.f11 BK196.out
   go_wp2_with ((with_reducible refine gate_callee (f := 12) rfl ?_); refine goesL_ (some 13) rfl rfl Try.func12 (by kernel_rfl) rfl #[.agg #[.int .i64 a0_0, .int .u64 a0_1, .int .u64 a0_2, .int .u64 a0_3, .int .u64 a0_4, .int .u64 a0_5, .int .i64 a0_6, .bool a0_7, .slice A0_8 l0_8.length c0_8, .slice A0_9 l0_9.length c0_9, .slice A0_10 l0_10.length c0_10]] rfl (by (try simp only [List.map_toArray, List.map_cons, List.map_nil]); (rfl)) ?_; (with_reducible refine (winnowlaw05_Light.calls k a0_0 a0_1 a0_2 a0_3 a0_4 a0_5 a0_6 a0_7 _ _ l0_8 _ _ l0_9 _ _ l0_10 true _ ?side1 ?side2 ?side3 ?side4 ?side5 ?side6 A6.out).mono ?_); (case side1 => repeat (exact (Kd.C_below HR0_8.out HB.out))); (case side2 => exact HC0_8.out); (case side3 => repeat (exact (Kd.C_below HR0_9.out HB.out))); (case side4 => exact HC0_9.out); (case side5 => repeat (exact (Kd.C_below HR0_10.out HB.out))); (case side6 => exact HC0_10.out); rintro e w9 ⟨rfl, hb⟩; refine ⟨_, rfl, ?_⟩; have n0_ := Aside0.mk (blk_below (g := gb196) (o := .cells #[.int .i64 a0_0, .int .u64 a0_1, .int .u64 a0_2, .int .u64 a0_3, .int .u64 a0_4, .int .u64 a0_5, .int .i64 a0_6, .bool a0_7, .slice A0_8 l0_8.length c0_8, .slice A0_9 l0_9.length c0_9, .slice A0_10 l0_10.length c0_10] 30 (0, 0)) (by (with_reducible skip); exact BK196.out) hb); have n1_ := Aside0.mk (below_step (by repeat (with_reducible (exact HB.out))) hb); clear BK196; clear HB; have BK196 := n0_; have HB := n1_; clear n0_ n1_; (try clear hb))
   go_meet
   case rel => exact ⟨_, ((a2 == 0)), (by (rfl)), H', ⟨by (omega)⟩, ⟨by (with_reducible skip); exact BK196.out⟩, ⟨by repeat (with_reducible (exact HB.out))⟩⟩
  ·replace c7 := Bool.eq_false_iff.mpr c7
   subst c7
   rw [if_neg (show ¬ (false = true) by decide)] at H
   have H' := Aside0.mk H
   clear H
   obtain ⟨z10_0, z10_1, z10_2, z10_3, z10_4, z10_5, z10_6, z10_7, z10_8, z10_9, z10_10⟩ := Hand.Cz.c11 BK196.out
   obtain ⟨y10_0, y10_1, y10_2, y10_3, y10_4, y10_5, y10_6, y10_7, y10_8, y10_9, y10_10⟩ := Hand.Cz.f11 BK196.out
   go_wp2_with ((with_reducible refine gate_callee (f := 12) rfl ?_); refine goesL_ (some 13) rfl rfl Try.func12 (by kernel_rfl) rfl #[.agg #[.int .i64 a0_0, .int .u64 a0_1, .int .u64 a0_2, .int .u64 a0_3, .int .u64 a0_4, .int .u64 a0_5, .int .i64 a0_6, .bool a0_7, .slice A0_8 l0_8.length c0_8, .slice A0_9 l0_9.length c0_9, .slice A0_10 l0_10.length c0_10]] rfl (by (try simp only [List.map_toArray, List.map_cons, List.map_nil]); (rfl)) ?_; (with_reducible refine (winnowlaw05_Light.calls k a0_0 a0_1 a0_2 a0_3 a0_4 a0_5 a0_6 a0_7 _ _ l0_8 _ _ l0_9 _ _ l0_10 false _ ?side1 ?side2 ?side3 ?side4 ?side5 ?side6 A6.out).mono ?_); (case side1 => repeat (exact (Kd.C_below HR0_8.out HB.out))); (case side2 => exact HC0_8.out); (case side3 => repeat (exact (Kd.C_below HR0_9.out HB.out))); (case side4 => exact HC0_9.out); (case side5 => repeat (exact (Kd.C_below HR0_10.out HB.out))); (case side6 => exact HC0_10.out); rintro e w11 ⟨rfl, hb⟩; refine ⟨_, rfl, ?_⟩; have n0_ := Aside0.mk (blk_below (g := gb196) (o := .cells #[.int .i64 a0_0, .int .u64 a0_1, .int .u64 a0_2, .int .u64 a0_3, .int .u64 a0_4, .int .u64 a0_5, .int .i64 a0_6, .bool a0_7, .slice A0_8 l0_8.length c0_8, .slice A0_9 l0_9.length c0_9, .slice A0_10 l0_10.length c0_10] 30 (0, 0)) (by (with_reducible skip); exact BK196.out) hb); have n1_ := Aside0.mk (below_step (by repeat (with_reducible (exact HB.out))) hb); clear BK196; clear HB; have BK196 := n0_; have HB := n1_; clear n0_ n1_; (try clear hb))
   go_meet
   case rel => exact ⟨_, (true), (by (rfl)), H', ⟨by (omega)⟩, ⟨by (with_reducible skip); exact BK196.out⟩, ⟨by repeat (with_reducible (exact HB.out))⟩⟩
 case rest =>
  clear HC4
  obtain ⟨kq, x18_3, rfl, HA, HJ3, BK196, HB⟩ := hcut
  cases kq with
  | zero => exact absurd HA.out (by simp [winnowlaw05_MessageTurned.j0])
  | succ kj3 =>
   have H := HA.out; clear HA
   simp only [winnowlaw05_MessageTurned.j0] at H
   by_cases c12 : x18_3 = true
   ·subst c12
    rw [if_pos rfl] at H
    replace H := Option.bind_eq_some_iff.mp H
    obtain ⟨t198, A130, H⟩ := H
    replace H : (some t198) = some r := H
    have A13 := Aside0.mk A130; clear A130
    obtain rfl := Option.some.inj H
    go_wp2_with ((with_reducible refine gate_callee (f := 15) rfl ?_); refine goesL_ (some 19) rfl rfl Try.func15 (by kernel_rfl) rfl #[] rfl (by (try simp only [List.map_toArray, List.map_cons, List.map_nil]); (done)) ?_; (with_reducible refine (winnowlaw05_alive.calls  t198 _ A13.out).mono ?_); rintro e w14 ⟨rfl, hb⟩; refine ⟨_, rfl, ?_⟩; have n0_ := Aside0.mk (blk_below (g := gb196) (o := .cells #[.int .i64 a0_0, .int .u64 a0_1, .int .u64 a0_2, .int .u64 a0_3, .int .u64 a0_4, .int .u64 a0_5, .int .i64 a0_6, .bool a0_7, .slice A0_8 l0_8.length c0_8, .slice A0_9 l0_9.length c0_9, .slice A0_10 l0_10.length c0_10] 30 (0, 0)) (by (with_reducible skip); exact BK196.out) hb); have n1_ := Aside0.mk (below_step (by repeat (with_reducible (exact HB.out))) hb); clear BK196; clear HB; have BK196 := n0_; have HB := n1_; clear n0_ n1_; (try clear hb))
    go_ret
    exact ⟨by (rfl), by repeat (with_reducible (exact HB.out))⟩
   ·replace c12 := Bool.eq_false_iff.mpr c12
    subst c12
    rw [if_neg (show ¬ (false = true) by decide)] at H
    replace H := Option.bind_eq_some_iff.mp H
    obtain ⟨⟨t199, t202⟩, A150, H⟩ := H
    (try dsimp only at H)
    have A15 := Aside0.mk A150; clear A150; have HC16 := Aside0.mk H; clear H
    obtain ⟨z17_0, z17_1, z17_2, z17_3, z17_4, z17_5, z17_6, z17_7, z17_8, z17_9, z17_10⟩ := Hand.Cz.c11 BK196.out
    obtain ⟨y17_0, y17_1, y17_2, y17_3, y17_4, y17_5, y17_6, y17_7, y17_8, y17_9, y17_10⟩ := Hand.Cz.f11 BK196.out
    go_upto_region 4 with ((with_reducible refine gate_callee (f := 16) rfl ?_); refine goesL_ (some 22) rfl rfl Try.func16 (by kernel_rfl) rfl #[.agg #[.int .i64 a0_0, .int .u64 a0_1, .int .u64 a0_2, .int .u64 a0_3, .int .u64 a0_4, .int .u64 a0_5, .int .i64 a0_6, .bool a0_7, .slice A0_8 l0_8.length c0_8, .slice A0_9 l0_9.length c0_9, .slice A0_10 l0_10.length c0_10]] rfl (by (try simp only [List.map_toArray, List.map_cons, List.map_nil]); (rfl)) ?_; (with_reducible refine (message_Encode.calls a0_0 a0_1 a0_2 a0_3 a0_4 a0_5 a0_6 a0_7 _ _ l0_8 _ _ l0_9 _ _ l0_10 t199 t202 _ ?side1 ?side2 ?side3 ?side4 ?side5 ?side6 A15.out).mono ?_); (case side1 => repeat (exact (Kd.C_below HR0_8.out HB.out))); (case side2 => exact HC0_8.out); (case side3 => repeat (exact (Kd.C_below HR0_9.out HB.out))); (case side4 => exact HC0_9.out); (case side5 => repeat (exact (Kd.C_below HR0_10.out HB.out))); (case side6 => exact HC0_10.out); rintro e w18 ⟨v200, rfl, ho0, hb⟩; refine ⟨_, rfl, ?_⟩; have n0_ := Aside0.mk (Kd.R_lower ho0 (below_size (by repeat (with_reducible (exact HB.out))))); have n1_ := Aside0.mk (blk_below (g := gb196) (o := .cells #[.int .i64 a0_0, .int .u64 a0_1, .int .u64 a0_2, .int .u64 a0_3, .int .u64 a0_4, .int .u64 a0_5, .int .i64 a0_6, .bool a0_7, .slice A0_8 l0_8.length c0_8, .slice A0_9 l0_9.length c0_9, .slice A0_10 l0_10.length c0_10] 30 (0, 0)) (by (with_reducible skip); exact BK196.out) hb); have n2_ := Aside0.mk (below_step (by repeat (with_reducible (exact HB.out))) hb); clear BK196; clear HB; have HO201 := n0_; have BK196 := n1_; have HB := n2_; clear n0_ n1_ n2_; (try clear hb); (try clear ho0))
    go_cut [36] (fun v36 wc => ∃ (kq : Nat) (x36_15 : Bool), v36 = .bool x36_15 ∧ Aside0 (winnowlaw05_MessageTurned.j1 kq a1 a2 t199 x36_15 = some r) ∧ Aside0 (kq ≤ kj3) ∧ Aside0 (Kd.R (Kd.int .u8) 5 wc w.heap.size (fun _ => True) v200 t199) ∧ Aside0 (wc.heap[gb196]? = some (.cells #[.int .i64 a0_0, .int .u64 a0_1, .int .u64 a0_2, .int .u64 a0_3, .int .u64 a0_4, .int .u64 a0_5, .int .i64 a0_6, .bool a0_7, (.slice A0_8 l0_8.length c0_8), (.slice A0_9 l0_9.length c0_9), (.slice A0_10 l0_10.length c0_10)] 30 (0, 0))) ∧ Aside0 (Below w.heap.size w wc))
    case first =>
     have H := HC16.out; clear HC16
     by_cases c19 : t202 = 0
     ·rw [if_pos c19] at H
      obtain ⟨c19b0, c19b1⟩ := Hand.Cz.eqT c19; clear c19
      (skip)
      by_cases c20 : a1 < 4
      ·rw [if_pos c20] at H
       have c20b0 : decide (a1 < 4) = true := decide_eq_true c20; clear c20
       have H' := Aside0.mk H
       clear H
       go_wp2
       go_meet
       case rel => exact ⟨_, (true), (by (rfl)), H', ⟨by have := HJ3.out; (omega)⟩, ⟨by (with_reducible skip); exact HO201.out⟩, ⟨by (with_reducible skip); exact BK196.out⟩, ⟨by repeat (with_reducible (exact HB.out))⟩⟩
      ·rw [if_neg c20] at H
       have c20b0 : decide (a1 < 4) = false := decide_eq_false c20; clear c20
       have H' := Aside0.mk H
       clear H
       obtain ⟨Ao21, co21, eo21⟩ := Kd.R_slice HO201.out
       subst eo21
       go_wp2
       go_meet
       case rel => exact ⟨_, (decide (a1 ≥ (t199.length : Int))), (by (rfl)), H', ⟨by have := HJ3.out; (omega)⟩, ⟨by (with_reducible skip); exact HO201.out⟩, ⟨by (with_reducible skip); exact BK196.out⟩, ⟨by repeat (with_reducible (exact HB.out))⟩⟩
     ·rw [if_neg c19] at H
      obtain ⟨c19b0, c19b1⟩ := Hand.Cz.eqF c19
      (skip)
      have H' := Aside0.mk H
      clear H
      go_wp2
      go_meet
      case rel => exact ⟨_, (true), (by (rfl)), H', ⟨by have := HJ3.out; (omega)⟩, ⟨by (with_reducible skip); exact HO201.out⟩, ⟨by (with_reducible skip); exact BK196.out⟩, ⟨by repeat (with_reducible (exact HB.out))⟩⟩
    case rest =>
     clear HC16; (try clear z17_0 z17_1 z17_2 z17_3 z17_4 z17_5 z17_6 z17_7 z17_8 z17_9 z17_10); (try clear y17_0 y17_1 y17_2 y17_3 y17_4 y17_5 y17_6 y17_7 y17_8 y17_9 y17_10)
     obtain ⟨kq, x36_15, rfl, HA, HJ15, HO_7, BK196, HB⟩ := hcut
     cases kq with
     | zero => exact absurd HA.out (by simp [winnowlaw05_MessageTurned.j1])
     | succ kj15 =>
      have H := HA.out; clear HA
      simp only [winnowlaw05_MessageTurned.j1] at H
      by_cases c22 : x36_15 = true
      ·subst c22
       rw [if_pos rfl] at H
       replace H := Option.bind_eq_some_iff.mp H
       obtain ⟨t203, A230, H⟩ := H
       replace H : (some t203) = some r := H
       have A23 := Aside0.mk A230; clear A230
       obtain rfl := Option.some.inj H
       go_wp2_with ((with_reducible refine gate_callee (f := 15) rfl ?_); refine goesL_ (some 37) rfl rfl Try.func15 (by kernel_rfl) rfl #[] rfl (by (try simp only [List.map_toArray, List.map_cons, List.map_nil]); (done)) ?_; (with_reducible refine (winnowlaw05_alive.calls  t203 _ A23.out).mono ?_); rintro e w24 ⟨rfl, hb⟩; refine ⟨_, rfl, ?_⟩; have n0_ := Aside0.mk (Kd.R_below (by (with_reducible skip); exact HO_7.out) hb); have n1_ := Aside0.mk (blk_below (g := gb196) (o := .cells #[.int .i64 a0_0, .int .u64 a0_1, .int .u64 a0_2, .int .u64 a0_3, .int .u64 a0_4, .int .u64 a0_5, .int .i64 a0_6, .bool a0_7, .slice A0_8 l0_8.length c0_8, .slice A0_9 l0_9.length c0_9, .slice A0_10 l0_10.length c0_10] 30 (0, 0)) (by (with_reducible skip); exact BK196.out) hb); have n2_ := Aside0.mk (below_step (by repeat (with_reducible (exact HB.out))) hb); clear HO_7; clear BK196; clear HB; have HO_7 := n0_; have BK196 := n1_; have HB := n2_; clear n0_ n1_ n2_; (try clear hb))
       go_ret
       exact ⟨by (rfl), by repeat (with_reducible (exact HB.out))⟩
      ·replace c22 := Bool.eq_false_iff.mpr c22
       subst c22
       rw [if_neg (show ¬ (false = true) by decide)] at H
       obtain ⟨y204, hy204⟩ : ∃ y_ : List Int, y_ = (([] : List Int)) := ⟨_, rfl⟩
       replace H : (if y204.length + t199.length < 140737488355328 then ((some (y204 ++ t199 : List Int)).bind fun y207 => (if 0 ≤ a1 then (if a1 < (y207.length : Int) then ((message_Decode.f (y207.set (a1 : Int).toNat (Go.bits .xor .u8 (rd y207 a1) a2))).bind fun bt212 => (if bt212.2.2.2.2.2.2.2.2.2.2.2 = 2 then ((winnowref05_Same.f kj15 bt212.1 bt212.2.1 bt212.2.2.1 bt212.2.2.2.1 bt212.2.2.2.2.1 bt212.2.2.2.2.2.1 bt212.2.2.2.2.2.2.1 bt212.2.2.2.2.2.2.2.1 bt212.2.2.2.2.2.2.2.2.1 bt212.2.2.2.2.2.2.2.2.2.1 bt212.2.2.2.2.2.2.2.2.2.2.1 0 0 0 0 0 0 0 false ([] : List (S76)) ([] : List (S92)) ([] : List Int)).bind fun t231 => (if t231 = true then ((winnowlaw05_alive.f).bind fun t232 => (some t232)) else (some false))) else (some false))) else (none)) else (none))) else (none)) = some r := by (have H2_ := (Option.bind_some _ _).symm.trans H; rw [hy204]; with_reducible exact H2_)
       have Ny204 := Aside0.mk hy204; clear hy204
       by_cases c25 : y204.length + t199.length < 140737488355328
       ·rw [if_pos c25] at H
        have LMc25 := Aside0.mk c25; clear c25
        obtain ⟨y207, hy207⟩ : ∃ y_ : List Int, y_ = (y204 ++ t199) := ⟨_, rfl⟩
        replace H : (if 0 ≤ a1 then (if a1 < (y207.length : Int) then ((message_Decode.f (y207.set (a1 : Int).toNat (Go.bits .xor .u8 (rd y207 a1) a2))).bind fun bt212 => (if bt212.2.2.2.2.2.2.2.2.2.2.2 = 2 then ((winnowref05_Same.f kj15 bt212.1 bt212.2.1 bt212.2.2.1 bt212.2.2.2.1 bt212.2.2.2.2.1 bt212.2.2.2.2.2.1 bt212.2.2.2.2.2.2.1 bt212.2.2.2.2.2.2.2.1 bt212.2.2.2.2.2.2.2.2.1 bt212.2.2.2.2.2.2.2.2.2.1 bt212.2.2.2.2.2.2.2.2.2.2.1 0 0 0 0 0 0 0 false ([] : List (S76)) ([] : List (S92)) ([] : List Int)).bind fun t231 => (if t231 = true then ((winnowlaw05_alive.f).bind fun t232 => (some t232)) else (some false))) else (some false))) else (none)) else (none)) = some r := by (have H2_ := (Option.bind_some _ _).symm.trans H; rw [hy207]; with_reducible exact H2_)
        have Ny207 := Aside0.mk hy207; clear hy207
        by_cases c26 : 0 ≤ a1
        ·rw [if_pos c26] at H
         have c26b0 : decide (0 ≤ a1) = true := decide_eq_true c26; clear c26
         by_cases c27 : a1 < (y207.length : Int)
         ·rw [if_pos c27] at H
          have c27b0 : decide (a1 < (y207.length : Int)) = true := decide_eq_true c27; clear c27
          obtain ⟨y211, hy211⟩ : ∃ y_ : List Int, y_ = (y207.set (a1 : Int).toNat (Go.bits .xor .u8 (rd y207 a1) a2)) := ⟨_, rfl⟩
          replace H : ((message_Decode.f y211).bind fun bt212 => (if bt212.2.2.2.2.2.2.2.2.2.2.2 = 2 then ((winnowref05_Same.f kj15 bt212.1 bt212.2.1 bt212.2.2.1 bt212.2.2.2.1 bt212.2.2.2.2.1 bt212.2.2.2.2.2.1 bt212.2.2.2.2.2.2.1 bt212.2.2.2.2.2.2.2.1 bt212.2.2.2.2.2.2.2.2.1 bt212.2.2.2.2.2.2.2.2.2.1 bt212.2.2.2.2.2.2.2.2.2.2.1 0 0 0 0 0 0 0 false ([] : List (S76)) ([] : List (S92)) ([] : List Int)).bind fun t231 => (if t231 = true then ((winnowlaw05_alive.f).bind fun t232 => (some t232)) else (some false))) else (some false))) = some r := by (rw [hy211]; with_reducible exact H)
          have Ny211 := Aside0.mk hy211; clear hy211
          replace H := Option.bind_eq_some_iff.mp H
          obtain ⟨⟨t212, t213, t214, t215, t216, t217, t218, t219, t220, t223, t226, t229⟩, A290, H⟩ := H
          (try dsimp only at H)
          have A29 := Aside0.mk A290; clear A290
          by_cases c30 : t229 = 2
          ·rw [if_pos c30] at H
           obtain ⟨c30b0, c30b1⟩ := Hand.Cz.eqT c30; clear c30
           replace H := Option.bind_eq_some_iff.mp H
           obtain ⟨t231, A310, H⟩ := H
           (try dsimp only at H)
           have A31 := Aside0.mk A310; clear A310
           by_cases c32 : t231 = true
           ·subst c32
            rw [if_pos rfl] at H
            replace H := Option.bind_eq_some_iff.mp H
            obtain ⟨t232, A330, H⟩ := H
            replace H : (some t232) = some r := H
            have A33 := Aside0.mk A330; clear A330
            obtain rfl := Option.some.inj H
            go_wp2_with (first | ((with_reducible refine gate_dst (N := 38) rfl ?_); (try (refine gate_guard (by rfl) ?_; dsimp only)); refine Kd.R_lit (Kd.int .u8) _ 5 ?hg (N := 38) ?hd (xs := ([] : List Int)) (inner := []) (ok := fun _ => True) (okp := fun _ => True) ?hr ?hp (fun _ hk => hk) trivial (Below.refl _ _) (Nat.le_refl _) (by simp) ?_; (case hd => rfl); (case hg => rfl); (case hr => (go_simp; done)); (case hp => exact (Reps.none _ _)); intro v205 w34 ho35 hb hg_ hnew_; clear hg_ hnew_; (rw [← Ny204.out] at ho35); have n0_ := Aside0.mk (Kd.R_elder' (by (with_reducible skip); exact HO_7.out) (Kd.R_base ho35) hb); have n1_ := Aside0.mk (Kd.R_lower (Kd.R_new' ho35 (Kd.R_lt (by (with_reducible skip); exact HO_7.out))) (below_size (by repeat (with_reducible (exact HB.out))))); have n2_ := Aside0.mk (blk_below (g := gb196) (o := .cells #[.int .i64 a0_0, .int .u64 a0_1, .int .u64 a0_2, .int .u64 a0_3, .int .u64 a0_4, .int .u64 a0_5, .int .i64 a0_6, .bool a0_7, .slice A0_8 l0_8.length c0_8, .slice A0_9 l0_9.length c0_9, .slice A0_10 l0_10.length c0_10] 30 (0, 0)) (by (with_reducible skip); exact BK196.out) hb); have n3_ := Aside0.mk (below_step (by repeat (with_reducible (exact HB.out))) hb); clear HO_7; clear BK196; clear HB; have HO_7 := n0_; have HO206 := n1_; have BK196 := n2_; have HB := n3_; clear n0_ n1_ n2_ n3_; clear hb ho35; obtain ⟨Ao37, co37, eo37⟩ := Kd.R_slice HO_7.out; subst eo37) | ((with_reducible refine gate_builtin (b := .append) (xs := #[.tmp 38, .tmp 39]) rfl ?_); (try (refine gate_guard (by rfl) ?_; dsimp only)); at_builtin; refine Kd.R_append_rows (Kd.int .u8) (w0 := w) w.heap.size rfl (.tmp 38) (.tmp 39) 35 5 (.int .u8 0) 1 rfl Try.underlying35 info5 rfl (by decide) (by omega) v205 y204 t199 _ _ _ (fun k_ => some k_ ≠ (.slice Ao37 t199.length co37 : Value).ownBlock) (fun _ => False) rfl rfl ?aO ?aR (fun _ _ h => h) (fun _ h => h.elim) ?aF ?aB ?aS ?aL ?_; (case aR => repeat (exact (Kd.R_reads' HO_7.out).2.2)); (case aB => exact (by repeat (with_reducible (exact HB.out)))); (case aF => exact (fun k_ hk => Kd.fresh' (Kd.R_lt (by (with_reducible skip); exact HO_7.out)) k_ hk)); (case aO => exact (by (with_reducible skip); exact Kd.R_mono HO206.out (fun _ hk => hk.2))); (case aS => exact (below_size (by repeat (with_reducible (exact HB.out))))); (case aL => have := LMc25.out; omega); intro v208 w36 ho hb hg hat; rw [← Ny207.out] at ho; have n0_ := Aside0.mk (Kd.R_after (ok := (fun _ => True)) (by (with_reducible skip); exact HO_7.out) hg hat); have n1_ := Aside0.mk (blk_grown (g := gb196) (o := .cells #[.int .i64 a0_0, .int .u64 a0_1, .int .u64 a0_2, .int .u64 a0_3, .int .u64 a0_4, .int .u64 a0_5, .int .i64 a0_6, .bool a0_7, .slice A0_8 l0_8.length c0_8, .slice A0_9 l0_9.length c0_9, .slice A0_10 l0_10.length c0_10] 30 (0, 0)) (by (with_reducible skip); exact BK196.out) hg (Kd.R_ne HO206.out BK196.out (by decide))); have n2_ := Aside0.mk (hb); have n3_ := Aside0.mk (ho); clear HO_7; clear BK196; clear HB; clear HO206; have HO_7 := n0_; have BK196 := n1_; have HB := n2_; have HO209 := n3_; clear n0_ n1_ n2_ n3_; clear ho hb hg hat; obtain ⟨Ao38, co38, eo38⟩ := Kd.R_slice HO209.out; subst eo38; have p210 : 0 ≤ (a1 : Int) := of_decide_eq_true (by (with_reducible assumption)); have q210 : a1 < (y207.length : Int) := of_decide_eq_true (by (with_reducible assumption)); obtain ⟨ad210, e210, hx210_0⟩ := Kd.at_int (Kd.R_reads' HO209.out).2.2 a1 p210 q210; cases e210; replace p210 := eq_true p210; replace q210 := eq_true q210; have p28 : 0 ≤ (a1 : Int) := of_decide_eq_true (by (with_reducible assumption)); have q28 : (a1 : Int) < ((y207.length : Int) : Int) := of_decide_eq_true (by (with_reducible assumption)); obtain ⟨go28, co28, eo28, gb28, gl28, cl28, HG28⟩ := Kd.R_form HO209.out (by omega); (cases eo28); have GB28 := Aside0.mk gb28; have GG28 := Aside0.mk HG28; clear gb28 gl28 HG28; (simp only [add_plain] at hx210_0); obtain ⟨hx28_0, hf28_0⟩ := Kd.R_celln 0 HO209.out (a1 : Int) p28 q28; replace p28 := eq_true p28; replace q28 := eq_true q28; obtain ⟨hy39_, hz39_⟩ := Kd.R_celln 0 HO209.out (a1 : Int) (of_decide_eq_true (by (with_reducible assumption))) (of_decide_eq_true (by (with_reducible assumption))); have HP39 := Kd.R_putg HO209.out (a1 : Int) (Go.bits .xor .u8 (rd y207 a1) a2)) | ((with_reducible refine gate_store (t := 5) (p := 49) rfl ?_); refine store_event (t := 5) (p := 49) (v := ?vo_w40) (w1 := (w36.setCell ⟨go28, (a1 : Int).toNat, none⟩ (.int .u8 (Go.bits .xor .u8 (rd y207 a1) a2)))) ?hg ?ho ?hn ?hr ?_; (case ho => rfl); (case hg => rfl); (case hn => rfl); (case hr => (go_simp; done)); intro w40 hw; have hg : w36.grownBy w40 (some go28) := (by rw [hw]; exact HP39.2); have hp_ : Kd.R (Kd.int .u8) 5 w40 w.heap.size (fun k_ => some k_ ≠ (.slice Ao37 t199.length co37 : Value).ownBlock) (.slice (some ⟨go28, 0, none⟩) y207.length co38) y211 := (by rw [hw, Ny211.out]; exact HP39.1); clear HP39; have n0_ := Aside0.mk (Kd.R_after (v := (.slice (some ⟨go28, 0, none⟩) y207.length co38)) (v1 := (.slice (some ⟨go28, 0, none⟩) y207.length co38)) (ok := (fun _ => True)) (by (with_reducible skip); exact HO_7.out) hg (.inl rfl)); have n1_ := Aside0.mk (blk_grown (g := gb196) (o := .cells #[.int .i64 a0_0, .int .u64 a0_1, .int .u64 a0_2, .int .u64 a0_3, .int .u64 a0_4, .int .u64 a0_5, .int .i64 a0_6, .bool a0_7, .slice A0_8 l0_8.length c0_8, .slice A0_9 l0_9.length c0_9, .slice A0_10 l0_10.length c0_10] 30 (0, 0)) (by (with_reducible skip); exact BK196.out) hg (Kd.R_ne HO209.out BK196.out (by decide))); have n2_ := Aside0.mk (hp_); have n3_ := Aside0.mk ((by rw [hw]; exact below_set (HB.out) GB28.out : Below w.heap.size w w40)); clear HO_7; clear BK196; clear HO209; clear HB; have HO_7 := n0_; have BK196 := n1_; have HO209 := n2_; have HB := n3_; clear n0_ n1_ n2_ n3_; clear hg hw hp_) | ((with_reducible refine gate_callee (f := 19) rfl ?_); refine goesL_ (some 52) rfl rfl Try.func19 (by kernel_rfl) rfl #[.slice (some ⟨go28, 0, none⟩) y211.length co38] rfl (by (try simp only [List.map_toArray, List.map_cons, List.map_nil]); (rw [show y211.length = y207.length from (Kd.R_reads' HO209.out).1.symm] <;> rfl)) ?_; (with_reducible refine (message_Decode.calls _ _ y211 t212 t213 t214 t215 t216 t217 t218 t219 t220 t223 t226 t229 _ ?side1 ?side2 A29.out).mono ?_); (case side1 => repeat (exact (Kd.R_reads' HO209.out).2.2)); (case side2 => rw [show y211.length = y207.length from (Kd.R_reads' HO209.out).1.symm]; exact (Kd.R_reads' HO209.out).2.1); rintro e w41 ⟨v221, v224, v227, rfl, ho0, ho1, ho2, hb⟩; refine ⟨_, rfl, ?_⟩; have n0_ := Aside0.mk (Kd.R_below (by (with_reducible skip); exact HO_7.out) hb); have n1_ := Aside0.mk (Kd.R_below (by (with_reducible skip); exact HO209.out) hb); have n2_ := Aside0.mk (Kd.R_lower ho0 (below_size (by repeat (with_reducible (exact HB.out))))); have n3_ := Aside0.mk (Kd.R_lower ho1 (below_size (by repeat (with_reducible (exact HB.out))))); have n4_ := Aside0.mk (Kd.R_lower ho2 (below_size (by repeat (with_reducible (exact HB.out))))); have n5_ := Aside0.mk (blk_below (g := gb196) (o := .cells #[.int .i64 a0_0, .int .u64 a0_1, .int .u64 a0_2, .int .u64 a0_3, .int .u64 a0_4, .int .u64 a0_5, .int .i64 a0_6, .bool a0_7, .slice A0_8 l0_8.length c0_8, .slice A0_9 l0_9.length c0_9, .slice A0_10 l0_10.length c0_10] 30 (0, 0)) (by (with_reducible skip); exact BK196.out) hb); have n6_ := Aside0.mk (below_step (by repeat (with_reducible (exact HB.out))) hb); clear HO_7; clear HO209; clear BK196; clear HB; have HO_7 := n0_; have HO209 := n1_; have HO222 := n2_; have HO225 := n3_; have HO228 := n4_; have BK196 := n5_; have HB := n6_; clear n0_ n1_ n2_ n3_ n4_ n5_ n6_; (try clear hb); (try clear ho0); (try clear ho1); (try clear ho2)) | ((with_reducible refine gate_dst (N := 10) rfl ?_); (try (refine gate_guard (by rfl) ?_; dsimp only)); refine box_event ?hg (N := 10) ?hd (cs := #[.int .i64 0, .int .u64 0, .int .u64 0, .int .u64 0, .int .u64 0, .int .u64 0, .int .i64 0, .bool false, .slice none 0 0, .slice none 0 0, .slice none 0 0]) (t := 30) ?hr ?_; (case hd => rfl); (case hg => rfl); (case hr => (go_simp; done)); intro gb230 hg w42 hbox hb; have n0_ := Aside0.mk (Kd.R_below (by (with_reducible skip); exact HO_7.out) hb); have n1_ := Aside0.mk (Kd.R_below (by (with_reducible skip); exact HO209.out) hb); have n2_ := Aside0.mk (Kd.R_below (by (with_reducible skip); exact HO222.out) hb); have n3_ := Aside0.mk (Kd.R_below (by (with_reducible skip); exact HO225.out) hb); have n4_ := Aside0.mk (Kd.R_below (by (with_reducible skip); exact HO228.out) hb); have n5_ := Aside0.mk (blk_below (g := gb196) (o := .cells #[.int .i64 a0_0, .int .u64 a0_1, .int .u64 a0_2, .int .u64 a0_3, .int .u64 a0_4, .int .u64 a0_5, .int .i64 a0_6, .bool a0_7, .slice A0_8 l0_8.length c0_8, .slice A0_9 l0_9.length c0_9, .slice A0_10 l0_10.length c0_10] 30 (0, 0)) (by (with_reducible skip); exact BK196.out) hb); have n6_ := Aside0.mk (below_step (by repeat (with_reducible (exact HB.out))) hb); have n7_ := Aside0.mk (hbox); have n8_ := Aside0.mk ((by rw [hg]; exact (below_size (by repeat (with_reducible (exact HB.out)))) : w.heap.size ≤ gb230)); have n9_ := n8_; have n10_ := Aside0.mk ((by rw [hg]; exact Nat.ne_of_lt (blk_lt (g := gb196) (o := .cells #[.int .i64 a0_0, .int .u64 a0_1, .int .u64 a0_2, .int .u64 a0_3, .int .u64 a0_4, .int .u64 a0_5, .int .i64 a0_6, .bool a0_7, .slice A0_8 l0_8.length c0_8, .slice A0_9 l0_9.length c0_9, .slice A0_10 l0_10.length c0_10] 30 (0, 0)) (by (with_reducible skip); exact BK196.out)) : gb196 ≠ gb230)); have n11_ := Aside0.mk ((by rw [hg]; exact Nat.ne_of_gt (blk_lt (g := gb196) (o := .cells #[.int .i64 a0_0, .int .u64 a0_1, .int .u64 a0_2, .int .u64 a0_3, .int .u64 a0_4, .int .u64 a0_5, .int .i64 a0_6, .bool a0_7, .slice A0_8 l0_8.length c0_8, .slice A0_9 l0_9.length c0_9, .slice A0_10 l0_10.length c0_10] 30 (0, 0)) (by (with_reducible skip); exact BK196.out)) : gb230 ≠ gb196)); clear HO_7; clear HO209; clear HO222; clear HO225; clear HO228; clear BK196; clear HB; have HO_7 := n0_; have HO209 := n1_; have HO222 := n2_; have HO225 := n3_; have HO228 := n4_; have BK196 := n5_; have HB := n6_; have BK230 := n7_; have GW230 := n8_; have GE230 := n9_; have NB196_230 := n10_; have NB230_196 := n11_; clear n0_ n1_ n2_ n3_ n4_ n5_ n6_ n7_ n8_ n9_ n10_ n11_; clear hb hbox hg; have hnb43 := NB230_196.out; have hnc43 := NB196_230.out; obtain ⟨z44_0, z44_1, z44_2, z44_3, z44_4, z44_5, z44_6, z44_7, z44_8, z44_9, z44_10⟩ := Hand.Cz.c11 BK230.out; obtain ⟨y44_0, y44_1, y44_2, y44_3, y44_4, y44_5, y44_6, y44_7, y44_8, y44_9, y44_10⟩ := Hand.Cz.f11 BK230.out; obtain ⟨Ao45, co45, eo45⟩ := Kd.R_slice HO222.out; subst eo45; obtain ⟨Ao46, co46, eo46⟩ := Kd.R_slice HO225.out; subst eo46; obtain ⟨Ao47, co47, eo47⟩ := Kd.R_slice HO228.out; subst eo47) | (go_at_call 21; (refine (winnowref05_Same.calls kj15 t212 t213 t214 t215 t216 t217 t218 t219 _ _ t220 _ _ t223 _ _ t226 0 0 0 0 0 0 0 false _ _ ([] : List (S76)) _ _ ([] : List (S92)) _ _ ([] : List Int) true _ ?side1 ?side2 ?side3 ?side4 ?side5 ?side6 ?side7 ?side8 ?side9 ?side10 ?side11 ?side12 A31.out).mono ?_); (case side1 => refine (Kd.R_reads' (e := 76) (base := w.heap.size) (ok := fun k_ => True) (n := t220.length) (c := co45) ?_).2.2; exact (by (with_reducible skip); exact (Kd.R_mono (Kd.R_far (p := ⟨gb230, 10, none⟩) (Kd.R_far (p := ⟨gb230, 9, none⟩) (Kd.R_far (p := ⟨gb230, 8, none⟩) (Kd.R_far (p := ⟨gb230, 7, none⟩) (Kd.R_far (p := ⟨gb230, 6, none⟩) (Kd.R_far (p := ⟨gb230, 5, none⟩) (Kd.R_far (p := ⟨gb230, 4, none⟩) (Kd.R_far (p := ⟨gb230, 3, none⟩) (Kd.R_far (p := ⟨gb230, 2, none⟩) (Kd.R_far (p := ⟨gb230, 1, none⟩) (Kd.R_far (p := ⟨gb230, 0, none⟩) (Kd.R_types HO222.out BK230.out (by decide)) (fun _ hk => hk.2) (.int .i64 t212)) (fun _ hk => hk.2) (.int .u64 t213)) (fun _ hk => hk.2) (.int .u64 t214)) (fun _ hk => hk.2) (.int .u64 t215)) (fun _ hk => hk.2) (.int .u64 t216)) (fun _ hk => hk.2) (.int .u64 t217)) (fun _ hk => hk.2) (.int .i64 t218)) (fun _ hk => hk.2) (.bool t219)) (fun _ hk => hk.2) (.slice Ao45 t220.length co45)) (fun _ hk => hk.2) (.slice Ao46 t223.length co46)) (fun _ hk => hk.2) (.slice Ao47 t226.length co47)) (fun _ h_ => h_.1)))); (case side2 => exact (Kd.R_reads' HO222.out).2.1); (case side3 => refine (Kd.R_reads' (e := 92) (base := w.heap.size) (ok := fun k_ => True) (n := t223.length) (c := co46) ?_).2.2; exact (by (with_reducible skip); exact (Kd.R_mono (Kd.R_far (p := ⟨gb230, 10, none⟩) (Kd.R_far (p := ⟨gb230, 9, none⟩) (Kd.R_far (p := ⟨gb230, 8, none⟩) (Kd.R_far (p := ⟨gb230, 7, none⟩) (Kd.R_far (p := ⟨gb230, 6, none⟩) (Kd.R_far (p := ⟨gb230, 5, none⟩) (Kd.R_far (p := ⟨gb230, 4, none⟩) (Kd.R_far (p := ⟨gb230, 3, none⟩) (Kd.R_far (p := ⟨gb230, 2, none⟩) (Kd.R_far (p := ⟨gb230, 1, none⟩) (Kd.R_far (p := ⟨gb230, 0, none⟩) (Kd.R_types HO225.out BK230.out (by decide)) (fun _ hk => hk.2) (.int .i64 t212)) (fun _ hk => hk.2) (.int .u64 t213)) (fun _ hk => hk.2) (.int .u64 t214)) (fun _ hk => hk.2) (.int .u64 t215)) (fun _ hk => hk.2) (.int .u64 t216)) (fun _ hk => hk.2) (.int .u64 t217)) (fun _ hk => hk.2) (.int .i64 t218)) (fun _ hk => hk.2) (.bool t219)) (fun _ hk => hk.2) (.slice Ao45 t220.length co45)) (fun _ hk => hk.2) (.slice Ao46 t223.length co46)) (fun _ hk => hk.2) (.slice Ao47 t226.length co47)) (fun _ h_ => h_.1)))); (case side4 => exact (Kd.R_reads' HO225.out).2.1); (case side5 => refine (Kd.R_reads' (e := 22) (base := w.heap.size) (ok := fun k_ => True) (n := t226.length) (c := co47) ?_).2.2; exact (by (with_reducible skip); exact (Kd.R_mono (Kd.R_far (p := ⟨gb230, 10, none⟩) (Kd.R_far (p := ⟨gb230, 9, none⟩) (Kd.R_far (p := ⟨gb230, 8, none⟩) (Kd.R_far (p := ⟨gb230, 7, none⟩) (Kd.R_far (p := ⟨gb230, 6, none⟩) (Kd.R_far (p := ⟨gb230, 5, none⟩) (Kd.R_far (p := ⟨gb230, 4, none⟩) (Kd.R_far (p := ⟨gb230, 3, none⟩) (Kd.R_far (p := ⟨gb230, 2, none⟩) (Kd.R_far (p := ⟨gb230, 1, none⟩) (Kd.R_far (p := ⟨gb230, 0, none⟩) (Kd.R_types HO228.out BK230.out (by decide)) (fun _ hk => hk.2) (.int .i64 t212)) (fun _ hk => hk.2) (.int .u64 t213)) (fun _ hk => hk.2) (.int .u64 t214)) (fun _ hk => hk.2) (.int .u64 t215)) (fun _ hk => hk.2) (.int .u64 t216)) (fun _ hk => hk.2) (.int .u64 t217)) (fun _ hk => hk.2) (.int .i64 t218)) (fun _ hk => hk.2) (.bool t219)) (fun _ hk => hk.2) (.slice Ao45 t220.length co45)) (fun _ hk => hk.2) (.slice Ao46 t223.length co46)) (fun _ hk => hk.2) (.slice Ao47 t226.length co47)) (fun _ h_ => h_.1)))); (case side6 => exact (Kd.R_reads' HO228.out).2.1); (case side7 => exact Kd.C_nil _ _); (case side8 => exact Nat.le_refl _); (case side9 => exact Kd.C_nil _ _); (case side10 => exact Nat.le_refl _); (case side11 => exact Kd.C_nil _ _); (case side12 => exact Nat.le_refl _); rintro e w48 ⟨rfl, hb⟩; have n0_ := Aside0.mk (Kd.R_below (by (with_reducible skip); exact (Kd.R_mono (Kd.R_far (p := ⟨gb230, 10, none⟩) (Kd.R_far (p := ⟨gb230, 9, none⟩) (Kd.R_far (p := ⟨gb230, 8, none⟩) (Kd.R_far (p := ⟨gb230, 7, none⟩) (Kd.R_far (p := ⟨gb230, 6, none⟩) (Kd.R_far (p := ⟨gb230, 5, none⟩) (Kd.R_far (p := ⟨gb230, 4, none⟩) (Kd.R_far (p := ⟨gb230, 3, none⟩) (Kd.R_far (p := ⟨gb230, 2, none⟩) (Kd.R_far (p := ⟨gb230, 1, none⟩) (Kd.R_far (p := ⟨gb230, 0, none⟩) (Kd.R_types HO_7.out BK230.out (by decide)) (fun _ hk => hk.2) (.int .i64 t212)) (fun _ hk => hk.2) (.int .u64 t213)) (fun _ hk => hk.2) (.int .u64 t214)) (fun _ hk => hk.2) (.int .u64 t215)) (fun _ hk => hk.2) (.int .u64 t216)) (fun _ hk => hk.2) (.int .u64 t217)) (fun _ hk => hk.2) (.int .i64 t218)) (fun _ hk => hk.2) (.bool t219)) (fun _ hk => hk.2) (.slice Ao45 t220.length co45)) (fun _ hk => hk.2) (.slice Ao46 t223.length co46)) (fun _ hk => hk.2) (.slice Ao47 t226.length co47)) (fun _ h_ => h_.1))) hb); have n1_ := Aside0.mk (Kd.R_below (by (with_reducible skip); exact (Kd.R_mono (Kd.R_far (p := ⟨gb230, 10, none⟩) (Kd.R_far (p := ⟨gb230, 9, none⟩) (Kd.R_far (p := ⟨gb230, 8, none⟩) (Kd.R_far (p := ⟨gb230, 7, none⟩) (Kd.R_far (p := ⟨gb230, 6, none⟩) (Kd.R_far (p := ⟨gb230, 5, none⟩) (Kd.R_far (p := ⟨gb230, 4, none⟩) (Kd.R_far (p := ⟨gb230, 3, none⟩) (Kd.R_far (p := ⟨gb230, 2, none⟩) (Kd.R_far (p := ⟨gb230, 1, none⟩) (Kd.R_far (p := ⟨gb230, 0, none⟩) (Kd.R_types HO209.out BK230.out (by decide)) (fun _ hk => hk.2) (.int .i64 t212)) (fun _ hk => hk.2) (.int .u64 t213)) (fun _ hk => hk.2) (.int .u64 t214)) (fun _ hk => hk.2) (.int .u64 t215)) (fun _ hk => hk.2) (.int .u64 t216)) (fun _ hk => hk.2) (.int .u64 t217)) (fun _ hk => hk.2) (.int .i64 t218)) (fun _ hk => hk.2) (.bool t219)) (fun _ hk => hk.2) (.slice Ao45 t220.length co45)) (fun _ hk => hk.2) (.slice Ao46 t223.length co46)) (fun _ hk => hk.2) (.slice Ao47 t226.length co47)) (fun _ h_ => h_.1))) hb); have n2_ := Aside0.mk (Kd.R_below (by (with_reducible skip); exact (Kd.R_mono (Kd.R_far (p := ⟨gb230, 10, none⟩) (Kd.R_far (p := ⟨gb230, 9, none⟩) (Kd.R_far (p := ⟨gb230, 8, none⟩) (Kd.R_far (p := ⟨gb230, 7, none⟩) (Kd.R_far (p := ⟨gb230, 6, none⟩) (Kd.R_far (p := ⟨gb230, 5, none⟩) (Kd.R_far (p := ⟨gb230, 4, none⟩) (Kd.R_far (p := ⟨gb230, 3, none⟩) (Kd.R_far (p := ⟨gb230, 2, none⟩) (Kd.R_far (p := ⟨gb230, 1, none⟩) (Kd.R_far (p := ⟨gb230, 0, none⟩) (Kd.R_types HO222.out BK230.out (by decide)) (fun _ hk => hk.2) (.int .i64 t212)) (fun _ hk => hk.2) (.int .u64 t213)) (fun _ hk => hk.2) (.int .u64 t214)) (fun _ hk => hk.2) (.int .u64 t215)) (fun _ hk => hk.2) (.int .u64 t216)) (fun _ hk => hk.2) (.int .u64 t217)) (fun _ hk => hk.2) (.int .i64 t218)) (fun _ hk => hk.2) (.bool t219)) (fun _ hk => hk.2) (.slice Ao45 t220.length co45)) (fun _ hk => hk.2) (.slice Ao46 t223.length co46)) (fun _ hk => hk.2) (.slice Ao47 t226.length co47)) (fun _ h_ => h_.1))) hb); have n3_ := Aside0.mk (Kd.R_below (by (with_reducible skip); exact (Kd.R_mono (Kd.R_far (p := ⟨gb230, 10, none⟩) (Kd.R_far (p := ⟨gb230, 9, none⟩) (Kd.R_far (p := ⟨gb230, 8, none⟩) (Kd.R_far (p := ⟨gb230, 7, none⟩) (Kd.R_far (p := ⟨gb230, 6, none⟩) (Kd.R_far (p := ⟨gb230, 5, none⟩) (Kd.R_far (p := ⟨gb230, 4, none⟩) (Kd.R_far (p := ⟨gb230, 3, none⟩) (Kd.R_far (p := ⟨gb230, 2, none⟩) (Kd.R_far (p := ⟨gb230, 1, none⟩) (Kd.R_far (p := ⟨gb230, 0, none⟩) (Kd.R_types HO225.out BK230.out (by decide)) (fun _ hk => hk.2) (.int .i64 t212)) (fun _ hk => hk.2) (.int .u64 t213)) (fun _ hk => hk.2) (.int .u64 t214)) (fun _ hk => hk.2) (.int .u64 t215)) (fun _ hk => hk.2) (.int .u64 t216)) (fun _ hk => hk.2) (.int .u64 t217)) (fun _ hk => hk.2) (.int .i64 t218)) (fun _ hk => hk.2) (.bool t219)) (fun _ hk => hk.2) (.slice Ao45 t220.length co45)) (fun _ hk => hk.2) (.slice Ao46 t223.length co46)) (fun _ hk => hk.2) (.slice Ao47 t226.length co47)) (fun _ h_ => h_.1))) hb); have n4_ := Aside0.mk (Kd.R_below (by (with_reducible skip); exact (Kd.R_mono (Kd.R_far (p := ⟨gb230, 10, none⟩) (Kd.R_far (p := ⟨gb230, 9, none⟩) (Kd.R_far (p := ⟨gb230, 8, none⟩) (Kd.R_far (p := ⟨gb230, 7, none⟩) (Kd.R_far (p := ⟨gb230, 6, none⟩) (Kd.R_far (p := ⟨gb230, 5, none⟩) (Kd.R_far (p := ⟨gb230, 4, none⟩) (Kd.R_far (p := ⟨gb230, 3, none⟩) (Kd.R_far (p := ⟨gb230, 2, none⟩) (Kd.R_far (p := ⟨gb230, 1, none⟩) (Kd.R_far (p := ⟨gb230, 0, none⟩) (Kd.R_types HO228.out BK230.out (by decide)) (fun _ hk => hk.2) (.int .i64 t212)) (fun _ hk => hk.2) (.int .u64 t213)) (fun _ hk => hk.2) (.int .u64 t214)) (fun _ hk => hk.2) (.int .u64 t215)) (fun _ hk => hk.2) (.int .u64 t216)) (fun _ hk => hk.2) (.int .u64 t217)) (fun _ hk => hk.2) (.int .i64 t218)) (fun _ hk => hk.2) (.bool t219)) (fun _ hk => hk.2) (.slice Ao45 t220.length co45)) (fun _ hk => hk.2) (.slice Ao46 t223.length co46)) (fun _ hk => hk.2) (.slice Ao47 t226.length co47)) (fun _ h_ => h_.1))) hb); have n5_ := Aside0.mk (blk_below (g := gb196) (o := .cells #[.int .i64 a0_0, .int .u64 a0_1, .int .u64 a0_2, .int .u64 a0_3, .int .u64 a0_4, .int .u64 a0_5, .int .i64 a0_6, .bool a0_7, .slice A0_8 l0_8.length c0_8, .slice A0_9 l0_9.length c0_9, .slice A0_10 l0_10.length c0_10] 30 (0, 0)) (by (with_reducible skip); refine blk_far ?_ NB196_230.out _; (with_reducible skip); refine blk_far ?_ NB196_230.out _; (with_reducible skip); refine blk_far ?_ NB196_230.out _; (with_reducible skip); refine blk_far ?_ NB196_230.out _; (with_reducible skip); refine blk_far ?_ NB196_230.out _; (with_reducible skip); refine blk_far ?_ NB196_230.out _; (with_reducible skip); refine blk_far ?_ NB196_230.out _; (with_reducible skip); refine blk_far ?_ NB196_230.out _; (with_reducible skip); refine blk_far ?_ NB196_230.out _; (with_reducible skip); refine blk_far ?_ NB196_230.out _; (with_reducible skip); refine blk_far ?_ NB196_230.out _; (with_reducible skip); exact BK196.out) hb); have n6_ := Aside0.mk (blk_below (g := gb230) (o := .cells #[.int .i64 t212, .int .u64 t213, .int .u64 t214, .int .u64 t215, .int .u64 t216, .int .u64 t217, .int .i64 t218, .bool t219, .slice Ao45 t220.length co45, .slice Ao46 t223.length co46, .slice Ao47 t226.length co47] 30 (0, 0)) (by (with_reducible skip); refine blk_put (cs := #[.int .i64 t212, .int .u64 t213, .int .u64 t214, .int .u64 t215, .int .u64 t216, .int .u64 t217, .int .i64 t218, .bool t219, .slice Ao45 t220.length co45, .slice Ao46 t223.length co46, .slice none 0 0]) ?_ 10 _ rfl; (with_reducible skip); refine blk_put (cs := #[.int .i64 t212, .int .u64 t213, .int .u64 t214, .int .u64 t215, .int .u64 t216, .int .u64 t217, .int .i64 t218, .bool t219, .slice Ao45 t220.length co45, .slice none 0 0, .slice none 0 0]) ?_ 9 _ rfl; (with_reducible skip); refine blk_put (cs := #[.int .i64 t212, .int .u64 t213, .int .u64 t214, .int .u64 t215, .int .u64 t216, .int .u64 t217, .int .i64 t218, .bool t219, .slice none 0 0, .slice none 0 0, .slice none 0 0]) ?_ 8 _ rfl; (with_reducible skip); refine blk_put (cs := #[.int .i64 t212, .int .u64 t213, .int .u64 t214, .int .u64 t215, .int .u64 t216, .int .u64 t217, .int .i64 t218, .bool false, .slice none 0 0, .slice none 0 0, .slice none 0 0]) ?_ 7 _ rfl; (with_reducible skip); refine blk_put (cs := #[.int .i64 t212, .int .u64 t213, .int .u64 t214, .int .u64 t215, .int .u64 t216, .int .u64 t217, .int .i64 0, .bool false, .slice none 0 0, .slice none 0 0, .slice none 0 0]) ?_ 6 _ rfl; (with_reducible skip); refine blk_put (cs := #[.int .i64 t212, .int .u64 t213, .int .u64 t214, .int .u64 t215, .int .u64 t216, .int .u64 0, .int .i64 0, .bool false, .slice none 0 0, .slice none 0 0, .slice none 0 0]) ?_ 5 _ rfl; (with_reducible skip); refine blk_put (cs := #[.int .i64 t212, .int .u64 t213, .int .u64 t214, .int .u64 t215, .int .u64 0, .int .u64 0, .int .i64 0, .bool false, .slice none 0 0, .slice none 0 0, .slice none 0 0]) ?_ 4 _ rfl; (with_reducible skip); refine blk_put (cs := #[.int .i64 t212, .int .u64 t213, .int .u64 t214, .int .u64 0, .int .u64 0, .int .u64 0, .int .i64 0, .bool false, .slice none 0 0, .slice none 0 0, .slice none 0 0]) ?_ 3 _ rfl; (with_reducible skip); refine blk_put (cs := #[.int .i64 t212, .int .u64 t213, .int .u64 0, .int .u64 0, .int .u64 0, .int .u64 0, .int .i64 0, .bool false, .slice none 0 0, .slice none 0 0, .slice none 0 0]) ?_ 2 _ rfl; (with_reducible skip); refine blk_put (cs := #[.int .i64 t212, .int .u64 0, .int .u64 0, .int .u64 0, .int .u64 0, .int .u64 0, .int .i64 0, .bool false, .slice none 0 0, .slice none 0 0, .slice none 0 0]) ?_ 1 _ rfl; (with_reducible skip); refine blk_put (cs := #[.int .i64 0, .int .u64 0, .int .u64 0, .int .u64 0, .int .u64 0, .int .u64 0, .int .i64 0, .bool false, .slice none 0 0, .slice none 0 0, .slice none 0 0]) ?_ 0 _ rfl; (with_reducible skip); exact BK230.out) hb); have n7_ := Aside0.mk (below_step (by repeat (with_reducible first | exact HB.out | refine below_set ?_ GE230.out)) hb); clear HO_7; clear HO209; clear HO222; clear HO225; clear HO228; clear BK196; clear BK230; clear HB; have HO_7 := n0_; have HO209 := n1_; have HO222 := n2_; have HO225 := n3_; have HO228 := n4_; have BK196 := n5_; have BK230 := n6_; have HB := n7_; clear n0_ n1_ n2_ n3_ n4_ n5_ n6_ n7_; (try clear hb)) | (go_at_call 15; (with_reducible refine (winnowlaw05_alive.calls  t232 _ A33.out).mono ?_); rintro e w49 ⟨rfl, hb⟩; have n0_ := Aside0.mk (Kd.R_below (by (with_reducible skip); exact HO_7.out) hb); have n1_ := Aside0.mk (Kd.R_below (by (with_reducible skip); exact HO209.out) hb); have n2_ := Aside0.mk (Kd.R_below (by (with_reducible skip); exact HO222.out) hb); have n3_ := Aside0.mk (Kd.R_below (by (with_reducible skip); exact HO225.out) hb); have n4_ := Aside0.mk (Kd.R_below (by (with_reducible skip); exact HO228.out) hb); have n5_ := Aside0.mk (blk_below (g := gb196) (o := .cells #[.int .i64 a0_0, .int .u64 a0_1, .int .u64 a0_2, .int .u64 a0_3, .int .u64 a0_4, .int .u64 a0_5, .int .i64 a0_6, .bool a0_7, .slice A0_8 l0_8.length c0_8, .slice A0_9 l0_9.length c0_9, .slice A0_10 l0_10.length c0_10] 30 (0, 0)) (by (with_reducible skip); exact BK196.out) hb); have n6_ := Aside0.mk (blk_below (g := gb230) (o := .cells #[.int .i64 t212, .int .u64 t213, .int .u64 t214, .int .u64 t215, .int .u64 t216, .int .u64 t217, .int .i64 t218, .bool t219, .slice Ao45 t220.length co45, .slice Ao46 t223.length co46, .slice Ao47 t226.length co47] 30 (0, 0)) (by (with_reducible skip); exact BK230.out) hb); have n7_ := Aside0.mk (below_step (by repeat (with_reducible (exact HB.out))) hb); clear HO_7; clear HO209; clear HO222; clear HO225; clear HO228; clear BK196; clear BK230; clear HB; have HO_7 := n0_; have HO209 := n1_; have HO222 := n2_; have HO225 := n3_; have HO228 := n4_; have BK196 := n5_; have BK230 := n6_; have HB := n7_; clear n0_ n1_ n2_ n3_ n4_ n5_ n6_ n7_; (try clear hb)))
            go_ret
            exact ⟨by (rfl), by repeat (with_reducible (exact HB.out))⟩
           ·replace c32 := Bool.eq_false_iff.mpr c32
            subst c32
            rw [if_neg (show ¬ (false = true) by decide)] at H
            exact absurd ((Option.some.inj H).trans HRT_.out) (by decide)
          ·rw [if_neg c30] at H
           obtain ⟨c30b0, c30b1⟩ := Hand.Cz.eqF c30
           exact absurd ((Option.some.inj H).trans HRT_.out) (by decide)
         ·rw [if_neg c27] at H
          exact absurd H (by simp)
        ·rw [if_neg c26] at H
         exact absurd H (by simp)
       ·rw [if_neg c25] at H
        exact absurd H (by simp)

def winnowref01_Same.l0 : Nat → List Int → List Int → Int → Option (Bool)
 | 0, _, _, _ => none
 | k + 1, x0, x1, x5 => if x5 < (x0.length : Int) then (if 0 ≤ x5 then (if x5 < (x1.length : Int) then (if (rd x0 x5) = (rd x1 x5) then (winnowref01_Same.l0 k x0 x1 (wrap64 (x5 + 1))) else (some false)) else (none)) else (none)) else (some true)
def winnowref01_Same.f (k : Nat) (l0 : List Int) (l1 : List Int) : Option (Bool) := if (l0.length : Int) = (l1.length : Int) then (winnowref01_Same.l0 k l0 l1 0) else (some false)
set_option maxHeartbeats 40000000 in
set_option maxRecDepth 100000 in
theorem winnowref01_Same.calls (k : Nat) (A0 : Option Addr) (c0 : Nat) (l0 : List Int) (A1 : Option Addr) (c1 : Nat) (l1 : List Int) (r : Bool) (w : World) (hr0 : Kd.C (Kd.int .u8) w A0 l0.length l0) (hc0 : l0.length ≤ c0) (hr1 : Kd.C (Kd.int .u8) w A1 l1.length l1) (hc1 : l1.length ≤ c1) (h : winnowref01_Same.f k l0 l1 = some r) :
  Calls Try.prog 18 #[.slice A0 l0.length c0, .slice A1 l1.length c1] w fun e w' => e = .returned (.bool r) ∧ Drawn0 w w' := by
 have HR0 := Aside0.mk hr0; have HC0 := Aside0.mk hc0; clear hr0 hc0; have HR1 := Aside0.mk hr1; have HC1 := Aside0.mk hc1; clear hr1 hc1; have H : (if (l0.length : Int) = (l1.length : Int) then (winnowref01_Same.l0 k l0 l1 0) else (some false)) = some r := h; clear h
 by_cases c3 : (l0.length : Int) = (l1.length : Int)
 ·rw [if_pos c3] at H
  obtain ⟨c3b0, c3b1⟩ := Hand.Cz.eqT c3
  have c3b2 : (l0.length == l1.length) = true := by (simp at c3 ⊢; omega)
  clear c3
  have H' := Aside0.mk H
  clear H
  go_enter Try.func18, Try.ntmps18
  go_wp2
  go_loopg [5] k (fun kq v5 w' => ∃ (x5_1 : Int), v5 = .int .i64 x5_1 ∧ Aside0 (winnowref01_Same.l0 kq l0 l1 x5_1 = some r) ∧ Aside0 (kq ≤ k) ∧ Drawn0 w w')
  case atStart => exact ⟨(0), (by (rfl)), H', ⟨Nat.le_refl _⟩, by repeat (exact Drawn0.refl _)⟩
  case round =>
   clear H'
   (try clear c3b0); (try clear c3b1); (try clear c3b2)
   obtain ⟨x5_1, rfl, HA, HK1, ⟨m1, rfl⟩⟩ := hrel
   cases gk with
   | zero => exact absurd HA.out (by simp [winnowref01_Same.l0])
   | succ k1 =>
    have H := HA.out; clear HA
    simp only [winnowref01_Same.l0] at H
    by_cases c4 : x5_1 < (l0.length : Int)
    ·rw [if_pos c4] at H
     have c4b0 : decide (x5_1 < (l0.length : Int)) = true := decide_eq_true c4; clear c4
     by_cases c5 : 0 ≤ x5_1
     ·rw [if_pos c5] at H
      have c5b0 : decide (0 ≤ x5_1) = true := decide_eq_true c5; clear c5
      by_cases c6 : x5_1 < (l1.length : Int)
      ·rw [if_pos c6] at H
       have c6b0 : decide (x5_1 < (l1.length : Int)) = true := decide_eq_true c6; clear c6
       by_cases c7 : (rd l0 x5_1) = (rd l1 x5_1)
       ·rw [if_pos c7] at H
        obtain ⟨c7b0, c7b1⟩ := Hand.Cz.eqT c7; clear c7
        have H' := Aside0.mk H
        clear H; have p233 : 0 ≤ (x5_1 : Int) := of_decide_eq_true (by (with_reducible assumption)); have q233 : x5_1 < (l0.length : Int) := of_decide_eq_true (by (with_reducible assumption))
        obtain ⟨ad233, e233, hx233_0⟩ := Kd.at_int HR0.out x5_1 p233 q233
        cases e233
        replace p233 := eq_true p233
        replace q233 := eq_true q233
        have p234 : 0 ≤ (x5_1 : Int) := of_decide_eq_true (by (with_reducible assumption)); have q234 : x5_1 < (l1.length : Int) := of_decide_eq_true (by (with_reducible assumption))
        obtain ⟨ad234, e234, hx234_0⟩ := Kd.at_int HR1.out x5_1 p234 q234
        cases e234
        replace p234 := eq_true p234
        replace q234 := eq_true q234
        go_wp2
        repeat (go_quiet (fail); try go_wp2)
        go_roundg k1
        case measure => have := HK1.out; omega
        case rel => exact ⟨(wrap64 (x5_1 + 1)), (by (rfl)), H', ⟨by have := HK1.out; omega⟩, by repeat (first | exact Drawn0.refl _ | apply Drawn0.step)⟩
       ·rw [if_neg c7] at H
        obtain ⟨c7b0, c7b1⟩ := Hand.Cz.eqF c7
        obtain rfl := Option.some.inj H
        have p233 : 0 ≤ (x5_1 : Int) := of_decide_eq_true (by (with_reducible assumption)); have q233 : x5_1 < (l0.length : Int) := of_decide_eq_true (by (with_reducible assumption))
        obtain ⟨ad233, e233, hx233_0⟩ := Kd.at_int HR0.out x5_1 p233 q233
        cases e233
        replace p233 := eq_true p233
        replace q233 := eq_true q233
        have p234 : 0 ≤ (x5_1 : Int) := of_decide_eq_true (by (with_reducible assumption)); have q234 : x5_1 < (l1.length : Int) := of_decide_eq_true (by (with_reducible assumption))
        obtain ⟨ad234, e234, hx234_0⟩ := Kd.at_int HR1.out x5_1 p234 q234
        cases e234
        replace p234 := eq_true p234
        replace q234 := eq_true q234
        go_wp2
        repeat (go_quiet (fail); try go_wp2)
        go_ret
        exact ⟨by (rfl), by repeat (first | exact Drawn0.refl _ | apply Drawn0.step)⟩
      ·rw [if_neg c6] at H
       exact absurd H (by simp)
     ·rw [if_neg c5] at H
      exact absurd H (by simp)
    ·rw [if_neg c4] at H
     have c4b0 : decide (x5_1 < (l0.length : Int)) = false := decide_eq_false c4; clear c4
     obtain rfl := Option.some.inj H
     go_wp2
     go_ret
     exact ⟨by (rfl), by repeat (first | exact Drawn0.refl _ | apply Drawn0.step)⟩
 rw [if_neg c3] at H
 obtain ⟨c3b0, c3b1⟩ := Hand.Cz.eqF c3
 have c3b2 : (l0.length == l1.length) = false := by (simp at c3 ⊢; omega)
 obtain rfl := Option.some.inj H
 go_enter Try.func18, Try.ntmps18
 go_wp2
 go_ret
 exact ⟨by (rfl), by repeat (exact Drawn0.refl _)⟩

end Go.Proofs.Ytlpnpnjjmpkapaa.PAll
