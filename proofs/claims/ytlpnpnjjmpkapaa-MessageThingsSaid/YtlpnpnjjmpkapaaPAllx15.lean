import Derived.Test.YtlpnpnjjmpkapaaPAllx0
import Derived.Test.YtlpnpnjjmpkapaaPAllx1
import Derived.Test.YtlpnpnjjmpkapaaPAllx10
import Derived.Test.YtlpnpnjjmpkapaaPAllx11
import Derived.Test.YtlpnpnjjmpkapaaPAllx14
namespace Go.Proofs.Ytlpnpnjjmpkapaa.PAll
open Go.RowKit Go.Proofs.YtlpnpnjjmpkapaaW.PrintWords Go.Proofs.YtlpnpnjjmpkapaaW.PrintLast Go.Proofs.YtlpnpnjjmpkapaaW.PrintMore
attribute [local go_sem] max2_int min2_int max_two min_two max_three min_three max_four min_four   -- for this text's walks alone
set_option linter.unusedVariables false
set_option linter.unusedSimpArgs false

attribute [local go_sem high] eqA24
mutual
def winnowref05_Right.j0 : Nat → Bool → Bool → Int → Int → Int → Int → Int → Int → Int → Bool → List (S76) → List (S92) → List Int → Option (Int)
 | 0, _, _, _, _, _, _, _, _, _, _, _, _, _ => none
 | k + 1, x3, x4, x175000, x175001, x175002, x175003, x175004, x175005, x175006, x175007, x175008, x175009, x175010 => if x175006 ≥ 1 then (winnowref05_Right.j1 k x3 x4 (decide (x175006 ≤ 3)) x175000 x175001 x175002 x175003 x175004 x175005 x175006 x175007 x175008 x175009 x175010) else (winnowref05_Right.j1 k x3 x4 false x175000 x175001 x175002 x175003 x175004 x175005 x175006 x175007 x175008 x175009 x175010)
def winnowref05_Right.j1 : Nat → Bool → Bool → Bool → Int → Int → Int → Int → Int → Int → Int → Bool → List (S76) → List (S92) → List Int → Option (Int)
 | 0, _, _, _, _, _, _, _, _, _, _, _, _, _, _ => none
 | k + 1, x3, x4, x5, x175000, x175001, x175002, x175003, x175004, x175005, x175006, x175007, x175008, x175009, x175010 => if x175000 = 1 then (winnowref05_Right.j2 k x3 x4 x5 x175000 (x175000 == 1) x175000 x175001 x175002 x175003 x175004 x175005 x175006 x175007 x175008 x175009 x175010) else (winnowref05_Right.j2 k x3 x4 x5 x175000 (x175000 == 2) x175000 x175001 x175002 x175003 x175004 x175005 x175006 x175007 x175008 x175009 x175010)
def winnowref05_Right.j2 : Nat → Bool → Bool → Bool → Int → Bool → Int → Int → Int → Int → Int → Int → Int → Bool → List (S76) → List (S92) → List Int → Option (Int)
 | 0, _, _, _, _, _, _, _, _, _, _, _, _, _, _, _, _ => none
 | k + 1, x3, x4, x5, x33, x34, x175000, x175001, x175002, x175003, x175004, x175005, x175006, x175007, x175008, x175009, x175010 => if x34 = true then (if x4 = true then ((winnowref05_Spans.f k x175001 x175008).bind fun t193 => (if t193 = true then (some 0) else (some 6))) else (some 6)) else (if x33 = 3 then (if x4 = true then ((winnowref05_Members.f k x175009).bind fun t194 => (if t194 = true then (some 0) else (some 6))) else (some 6)) else (if x33 = 4 then (if x4 = true then (if x175002 = 0 then (some 6) else (some 0)) else (some 6)) else (if x33 = 5 then (if x4 = true then (if x175002 = 0 then (winnowref05_Right.j3 k x3 false x175000 x175001 x175002 x175003 x175004 x175005 x175006 x175007 x175008 x175009 x175010) else (if x175006 = 0 then (winnowref05_Right.j3 k x3 true x175000 x175001 x175002 x175003 x175004 x175005 x175006 x175007 x175008 x175009 x175010) else (if x5 = true then (winnowref05_Right.j3 k x3 (!x3) x175000 x175001 x175002 x175003 x175004 x175005 x175006 x175007 x175008 x175009 x175010) else (winnowref05_Right.j3 k x3 false x175000 x175001 x175002 x175003 x175004 x175005 x175006 x175007 x175008 x175009 x175010)))) else (winnowref05_Right.j3 k x3 false x175000 x175001 x175002 x175003 x175004 x175005 x175006 x175007 x175008 x175009 x175010)) else (if x33 = 6 then (if x4 = true then (if x175002 = 0 then (some 6) else (if x5 = true then (some 0) else (some 6))) else (some 6)) else (if x33 = 7 then (if x4 = true then (if x175002 = 0 then (some 6) else (if ((x175007 == x3) = true) then (some 0) else (some 6))) else (some 6)) else (if x33 = 8 then (if x4 = true then (if x5 = true then (some 0) else (some 6)) else (some 6)) else (if x33 = 9 then (if x4 = true then (if x175002 = 0 then (some 6) else ((winnowref05_Spans.f k x175001 x175008).bind fun t195 => (if t195 = true then (some 0) else (some 6)))) else (some 6)) else (if x33 = 10 then (if x4 = true then ((winnowref05_rise.f k x175010).bind fun t196 => (if t196 = true then (some 0) else (some 6))) else (some 6)) else (some 6)))))))))
def winnowref05_Right.j3 : Nat → Bool → Bool → Int → Int → Int → Int → Int → Int → Int → Bool → List (S76) → List (S92) → List Int → Option (Int)
 | 0, _, _, _, _, _, _, _, _, _, _, _, _, _ => none
 | k + 1, x3, x4, x175000, x175001, x175002, x175003, x175004, x175005, x175006, x175007, x175008, x175009, x175010 => if x175007 = true then (if x4 = true then (if x175006 = 0 then (if x3 = true then (some 0) else (some 6)) else (some 0)) else (some 6)) else (if x4 = true then (if x175006 = 0 then (if x3 = true then (some 6) else (some 0)) else (some 6)) else (some 6))
end
def winnowref05_Right.f (k : Nat) (a0_0 : Int) (a0_1 : Int) (a0_2 : Int) (a0_3 : Int) (a0_4 : Int) (a0_5 : Int) (a0_6 : Int) (a0_7 : Bool) (l0_8 : List (S76)) (l0_9 : List (S92)) (l0_10 : List Int) : Option (Int) := (winnowref05_only.f k a0_0 a0_1 a0_2 a0_3 a0_4 a0_5 a0_6 a0_7 l0_8 l0_9 l0_10).bind fun bt175 => ((winnowref05_Same.f k a0_0 a0_1 a0_2 a0_3 a0_4 a0_5 a0_6 a0_7 l0_8 l0_9 l0_10 bt175.1 bt175.2.1 bt175.2.2.1 bt175.2.2.2.1 bt175.2.2.2.2.1 bt175.2.2.2.2.2.1 bt175.2.2.2.2.2.2.1 bt175.2.2.2.2.2.2.2.1 bt175.2.2.2.2.2.2.2.2.1 bt175.2.2.2.2.2.2.2.2.2.1 bt175.2.2.2.2.2.2.2.2.2.2).bind fun t192 => (if t192 = true then (if a0_0 = 3 then (winnowref05_Right.j0 k (a0_4 == 0 && (a0_5 == 0)) true a0_0 a0_1 a0_2 a0_3 a0_4 a0_5 a0_6 a0_7 l0_8 l0_9 l0_10) else (winnowref05_Right.j0 k (a0_4 == 0 && (a0_5 == 0)) (a0_1 != 0) a0_0 a0_1 a0_2 a0_3 a0_4 a0_5 a0_6 a0_7 l0_8 l0_9 l0_10)) else (winnowref05_Right.j0 k (a0_4 == 0 && (a0_5 == 0)) false a0_0 a0_1 a0_2 a0_3 a0_4 a0_5 a0_6 a0_7 l0_8 l0_9 l0_10)))
def winnowref05_Right.T2 : Bool × List (List Nat × List Nat) := (true, [([], []), ([], []), ([1], [1]), ([0, 2, 2], [0, 2]), ([3, 3], [3]), ([4], [4]), ([5, 4], [4, 5]), ([6, 4], [4, 6]), ([7, 4, 4], [4, 7]), ([8], [8]), ([9, 8], [8, 9]), ([10, 8], [8, 10]), ([8, 11, 4], [4, 8, 11]), ([4, 12], [4, 12]), ([13, 8, 0, 1, 2, 3, 4, 5, 6, 7, 8, 9, 10, 11, 12, 13], [13])])
def winnowref05_Right.B2 : List Nat := [0, 0, 2, 7, 15, 31, 63, 127, 255, 511, 1023, 2047, 4095, 8191, 16383]
theorem winnowref05_Right.tab2 : rtab .any (opsOf Try.f14 2) = winnowref05_Right.T2 := by kernel_rfl
theorem winnowref05_Right.bits2 : waitsOk winnowref05_Right.T2.2 winnowref05_Right.B2 = true := by kernel_rfl
set_option maxHeartbeats 40000000 in
set_option maxRecDepth 100000 in
theorem winnowref05_Right.calls (k : Nat) (a0_0 : Int) (a0_1 : Int) (a0_2 : Int) (a0_3 : Int) (a0_4 : Int) (a0_5 : Int) (a0_6 : Int) (a0_7 : Bool) (A0_8 : Option Addr) (c0_8 : Nat) (l0_8 : List (S76)) (A0_9 : Option Addr) (c0_9 : Nat) (l0_9 : List (S92)) (A0_10 : Option Addr) (c0_10 : Nat) (l0_10 : List Int) (r : Int) (w : World) (hr0_8 : Kd.C k76 w A0_8 l0_8.length l0_8) (hc0_8 : l0_8.length ≤ c0_8) (hr0_9 : Kd.C k92 w A0_9 l0_9.length l0_9) (hc0_9 : l0_9.length ≤ c0_9) (hr0_10 : Kd.C (Kd.int .u64) w A0_10 l0_10.length l0_10) (hc0_10 : l0_10.length ≤ c0_10) (h : winnowref05_Right.f k a0_0 a0_1 a0_2 a0_3 a0_4 a0_5 a0_6 a0_7 l0_8 l0_9 l0_10 = some r) :
  Calls Try.prog 14 #[.agg #[.int .i64 a0_0, .int .u64 a0_1, .int .u64 a0_2, .int .u64 a0_3, .int .u64 a0_4, .int .u64 a0_5, .int .i64 a0_6, .bool a0_7, .slice A0_8 l0_8.length c0_8, .slice A0_9 l0_9.length c0_9, .slice A0_10 l0_10.length c0_10]] w fun e w' => e = .returned (.int .i64 r) ∧ Below w.heap.size w w' := by
 have hu30 := Try.underlying30; have hu24 := Try.underlying24; have HR0_8 := Aside0.mk hr0_8; have HC0_8 := Aside0.mk hc0_8; clear hr0_8 hc0_8; have HR0_9 := Aside0.mk hr0_9; have HC0_9 := Aside0.mk hc0_9; clear hr0_9 hc0_9; have HR0_10 := Aside0.mk hr0_10; have HC0_10 := Aside0.mk hc0_10; clear hr0_10 hc0_10; have HB := Aside0.mk (Below.refl w.heap.size w)
 have H : ((winnowref05_only.f k a0_0 a0_1 a0_2 a0_3 a0_4 a0_5 a0_6 a0_7 l0_8 l0_9 l0_10).bind fun bt175 => ((winnowref05_Same.f k a0_0 a0_1 a0_2 a0_3 a0_4 a0_5 a0_6 a0_7 l0_8 l0_9 l0_10 bt175.1 bt175.2.1 bt175.2.2.1 bt175.2.2.2.1 bt175.2.2.2.2.1 bt175.2.2.2.2.2.1 bt175.2.2.2.2.2.2.1 bt175.2.2.2.2.2.2.2.1 bt175.2.2.2.2.2.2.2.2.1 bt175.2.2.2.2.2.2.2.2.2.1 bt175.2.2.2.2.2.2.2.2.2.2).bind fun t192 => (if t192 = true then (if a0_0 = 3 then (winnowref05_Right.j0 k (a0_4 == 0 && (a0_5 == 0)) true a0_0 a0_1 a0_2 a0_3 a0_4 a0_5 a0_6 a0_7 l0_8 l0_9 l0_10) else (winnowref05_Right.j0 k (a0_4 == 0 && (a0_5 == 0)) (a0_1 != 0) a0_0 a0_1 a0_2 a0_3 a0_4 a0_5 a0_6 a0_7 l0_8 l0_9 l0_10)) else (winnowref05_Right.j0 k (a0_4 == 0 && (a0_5 == 0)) false a0_0 a0_1 a0_2 a0_3 a0_4 a0_5 a0_6 a0_7 l0_8 l0_9 l0_10)))) = some r := h
 clear h; have HC2 := Aside0.mk H; clear H
 go_enter Try.func14, Try.ntmps14
 go_upto_region 2 with ((with_reducible refine gate_dst (N := 1) rfl ?_); refine box_event ?hg (N := 1) ?hd (cs := #[.int .i64 a0_0, .int .u64 a0_1, .int .u64 a0_2, .int .u64 a0_3, .int .u64 a0_4, .int .u64 a0_5, .int .i64 a0_6, .bool a0_7, .slice A0_8 l0_8.length c0_8, .slice A0_9 l0_9.length c0_9, .slice A0_10 l0_10.length c0_10]) (t := 30) ?hr ?_; (case hd => rfl); (case hg => rfl); (case hr => (go_simp; done)); intro gb174 hg w3 hbox hb; have n0_ := Aside0.mk (below_step (by repeat (with_reducible (exact HB.out))) hb); have n1_ := Aside0.mk (hbox); have n2_ := Aside0.mk ((by rw [hg]; exact (below_size (by repeat (with_reducible (exact HB.out)))) : w.heap.size ≤ gb174)); have n3_ := n2_; clear HB; have HB := n0_; have BK174 := n1_; have GW174 := n2_; have GE174 := n3_; clear n0_ n1_ n2_ n3_; clear hb hbox hg; obtain ⟨z4_0, z4_1, z4_2, z4_3, z4_4, z4_5, z4_6, z4_7, z4_8, z4_9, z4_10⟩ := Hand.Cz.c11 BK174.out; obtain ⟨y4_0, y4_1, y4_2, y4_3, y4_4, y4_5, y4_6, y4_7, y4_8, y4_9, y4_10⟩ := Hand.Cz.f11 BK174.out)
 go_cut [4] (fun v4 wc => ∃ (kq : Nat) (x4_1 : Bool), v4 = .bool x4_1 ∧ Aside0 (winnowref05_Right.j0 kq (a0_4 == 0 && (a0_5 == 0)) x4_1 a0_0 a0_1 a0_2 a0_3 a0_4 a0_5 a0_6 a0_7 l0_8 l0_9 l0_10 = some r) ∧ Aside0 (kq ≤ k) ∧ Aside0 (wc.heap[gb174]? = some (.cells #[.int .i64 a0_0, .int .u64 a0_1, .int .u64 a0_2, .int .u64 a0_3, .int .u64 a0_4, .int .u64 a0_5, .int .i64 a0_6, .bool a0_7, (.slice A0_8 l0_8.length c0_8), (.slice A0_9 l0_9.length c0_9), (.slice A0_10 l0_10.length c0_10)] 30 (0, 0))) ∧ Aside0 (Below w.heap.size w wc))
 case first =>
  have H := HC2.out; clear HC2
  replace H := Option.bind_eq_some_iff.mp H
  obtain ⟨⟨t175, t176, t177, t178, t179, t180, t181, t182, t183, t186, t189⟩, A50, H⟩ := H
  (try dsimp only at H)
  have A5 := Aside0.mk A50; clear A50
  replace H := Option.bind_eq_some_iff.mp H
  obtain ⟨t192, A60, H⟩ := H
  (try dsimp only at H)
  have A6 := Aside0.mk A60; clear A60
  by_cases c7 : t192 = true
  ·subst c7
   rw [if_pos rfl] at H
   by_cases c8 : a0_0 = 3
   ·rw [if_pos c8] at H
    obtain ⟨c8b0, c8b1⟩ := Hand.Cz.eqT c8; clear c8
    (skip)
    have H' := Aside0.mk H
    clear H
    try go_wp2
    have n0_ := Aside0.mk (blk_drew BK174.out); have n1_ := Aside0.mk (below_drew1 HB.out); clear BK174; clear HB; have BK174 := n0_; have HB := n1_; clear n0_ n1_
    refine start_ (n := 15) (S := fun w' => w'.cell? ⟨gb174, 0, none⟩ = some (.int .i64 a0_0) ∧ w'.cell? ⟨gb174, 1, none⟩ = some (.int .u64 a0_1) ∧ w'.cell? ⟨gb174, 2, none⟩ = some (.int .u64 a0_2) ∧ w'.cell? ⟨gb174, 3, none⟩ = some (.int .u64 a0_3) ∧ w'.cell? ⟨gb174, 4, none⟩ = some (.int .u64 a0_4) ∧ w'.cell? ⟨gb174, 5, none⟩ = some (.int .u64 a0_5) ∧ w'.cell? ⟨gb174, 6, none⟩ = some (.int .i64 a0_6) ∧ w'.cell? ⟨gb174, 7, none⟩ = some (.bool a0_7) ∧ w'.cell? ⟨gb174, 8, none⟩ = some (.slice A0_8 l0_8.length c0_8) ∧ w'.cell? ⟨gb174, 9, none⟩ = some (.slice A0_9 l0_9.length c0_9) ∧ w'.cell? ⟨gb174, 10, none⟩ = some (.slice A0_10 l0_10.length c0_10)) (ds := []) #[false, false, false, false, false, false, false, false, false, false, false, false, false, false, false] (by kernel_rfl) rfl rfl ⟨(blk_cell BK174.out 0).trans rfl, (blk_cell BK174.out 1).trans rfl, (blk_cell BK174.out 2).trans rfl, (blk_cell BK174.out 3).trans rfl, (blk_cell BK174.out 4).trans rfl, (blk_cell BK174.out 5).trans rfl, (blk_cell BK174.out 6).trans rfl, (blk_cell BK174.out 7).trans rfl, (blk_cell BK174.out 8).trans rfl, (blk_cell BK174.out 9).trans rfl, (blk_cell BK174.out 10).trans rfl⟩ (fun hHeld => ?_); refine with_tabW winnowref05_Right.tab2 winnowref05_Right.bits2 (fun HT_ HW_ => ?_)
    generalize w3.drew = w9 at BK174 HB hHeld ⊢
    refine take_ (i := 0) (N := some 10) (v := ?_) (a' := ?_) #[true, false, false, false, false, false, false, false, false, false, false, false, false, false, false] rfl rfl (take_ofW HT_.out HW_.out (by kernel_rfl)) (fun _ _ _ h => h) (Or.inl ⟨by rfl, ?_⟩) hHeld ?_ ?_
    rotate_left
    ·rintro w' ⟨s0, s1, s2, s3, s4, s5, s6, s7, s8, s9, s10⟩; go_simp; with_reducible rfl
    rotate_left
    ·simp only [Act.put, List.setIfInBounds_toArray, List.set_cons_zero, List.set_cons_succ, i64_w, i32_w]; rfl
    refine take_ (i := 1) (N := some 11) (v := ?_) (a' := ?_) #[true, true, false, false, false, false, false, false, false, false, false, false, false, false, false] rfl rfl (take_ofW HT_.out HW_.out (by kernel_rfl)) (fun _ _ _ h => h) (Or.inl ⟨by rfl, ?_⟩) hHeld ?_ ?_
    rotate_left
    ·rintro w' ⟨s0, s1, s2, s3, s4, s5, s6, s7, s8, s9, s10⟩; go_simp; with_reducible rfl
    rotate_left
    ·simp only [Act.put, List.setIfInBounds_toArray, List.set_cons_zero, List.set_cons_succ, i64_w, i32_w]; rfl
    refine one_ (i := 2) (N := some 12) #[true, true, true, false, false, false, false, false, false, false, false, false, false, false, false] rfl rfl (one_of HT_.out (by kernel_rfl)) (by decide) (fun K hK => ?_)
    refine goes_ Try.func32 (by kernel_rfl) rfl #[.agg #[.int .i64 a0_0, .int .u64 a0_1, .int .u64 a0_2, .int .u64 a0_3, .int .u64 a0_4, .int .u64 a0_5, .int .i64 a0_6, .bool a0_7, .slice A0_8 l0_8.length c0_8, .slice A0_9 l0_9.length c0_9, .slice A0_10 l0_10.length c0_10]] (by rfl) rfl rfl (by (try simp only [List.map_toArray, List.map_cons, List.map_nil]); (rfl)) ?_
    with_reducible refine (winnowref05_only.calls k a0_0 a0_1 a0_2 a0_3 a0_4 a0_5 a0_6 a0_7 (fun k_ => k_ < w.heap.size) _ _ l0_8 (fun k_ => k_ < w.heap.size) _ _ l0_9 (fun k_ => k_ < w.heap.size) _ _ l0_10 t175 t176 t177 t178 t179 t180 t181 t182 t183 t186 t189 _ ?side1 ?side2 ?side3 A5.out).mono ?_
    (case side1 => exact Kd.V_mk HC0_8.out (Kd.F_below (Kd.C_F k76_heap HR0_8.out) (by repeat (with_reducible (exact HB.out)))))
    (case side2 => exact Kd.V_mk HC0_9.out (Kd.F_below (Kd.C_F k92_heap HR0_9.out) (by repeat (with_reducible (exact HB.out)))))
    (case side3 => exact Kd.V_mk HC0_10.out (Kd.F_below (Kd.C_F (Kd.heap_int .u64) HR0_10.out) (by repeat (with_reducible (exact HB.out)))))
    rintro e w10 ⟨v184, v187, v190, rfl, ho0, ho1, ho2, hb⟩
    refine ⟨_, rfl, ?_⟩
    have n0_ := Aside0.mk (Kd.V_lower (Kd.V_mono (ok' := fun k_ => k_ ≠ gb174) ho0 (fun k_ hk_ => Or.elim hk_ (fun hs_ => Or.elim hs_ (fun hs_ => fun e_ => Nat.not_le.2 hs_ (by rw [e_]; exact GW174.out)) (fun hs_ => Or.elim hs_ (fun hs_ => fun e_ => Nat.not_le.2 hs_ (by rw [e_]; exact GW174.out)) (fun hs_ => fun e_ => Nat.not_le.2 hs_ (by rw [e_]; exact GW174.out)))) (fun hn_ => (Kd.freshB (g := gb174) (o := .cells #[.int .i64 a0_0, .int .u64 a0_1, .int .u64 a0_2, .int .u64 a0_3, .int .u64 a0_4, .int .u64 a0_5, .int .i64 a0_6, .bool a0_7, .slice A0_8 l0_8.length c0_8, .slice A0_9 l0_9.length c0_9, .slice A0_10 l0_10.length c0_10] 30 (0, 0)) (by (with_reducible skip); exact BK174.out) k_ hn_)))) (below_size (by repeat (with_reducible (exact HB.out)))))
    have n1_ := Aside0.mk (Kd.V_lower (Kd.V_mono (ok' := fun k_ => k_ ≠ gb174) ho1 (fun k_ hk_ => Or.elim hk_ (fun hs_ => Or.elim hs_ (fun hs_ => fun e_ => Nat.not_le.2 hs_ (by rw [e_]; exact GW174.out)) (fun hs_ => Or.elim hs_ (fun hs_ => fun e_ => Nat.not_le.2 hs_ (by rw [e_]; exact GW174.out)) (fun hs_ => fun e_ => Nat.not_le.2 hs_ (by rw [e_]; exact GW174.out)))) (fun hn_ => (Kd.freshB (g := gb174) (o := .cells #[.int .i64 a0_0, .int .u64 a0_1, .int .u64 a0_2, .int .u64 a0_3, .int .u64 a0_4, .int .u64 a0_5, .int .i64 a0_6, .bool a0_7, .slice A0_8 l0_8.length c0_8, .slice A0_9 l0_9.length c0_9, .slice A0_10 l0_10.length c0_10] 30 (0, 0)) (by (with_reducible skip); exact BK174.out) k_ hn_)))) (below_size (by repeat (with_reducible (exact HB.out)))))
    have n2_ := Aside0.mk (Kd.V_lower (Kd.V_mono (ok' := fun k_ => k_ ≠ gb174) ho2 (fun k_ hk_ => Or.elim hk_ (fun hs_ => Or.elim hs_ (fun hs_ => fun e_ => Nat.not_le.2 hs_ (by rw [e_]; exact GW174.out)) (fun hs_ => Or.elim hs_ (fun hs_ => fun e_ => Nat.not_le.2 hs_ (by rw [e_]; exact GW174.out)) (fun hs_ => fun e_ => Nat.not_le.2 hs_ (by rw [e_]; exact GW174.out)))) (fun hn_ => (Kd.freshB (g := gb174) (o := .cells #[.int .i64 a0_0, .int .u64 a0_1, .int .u64 a0_2, .int .u64 a0_3, .int .u64 a0_4, .int .u64 a0_5, .int .i64 a0_6, .bool a0_7, .slice A0_8 l0_8.length c0_8, .slice A0_9 l0_9.length c0_9, .slice A0_10 l0_10.length c0_10] 30 (0, 0)) (by (with_reducible skip); exact BK174.out) k_ hn_)))) (below_size (by repeat (with_reducible (exact HB.out)))))
    have n3_ := Aside0.mk (blk_below (g := gb174) (o := .cells #[.int .i64 a0_0, .int .u64 a0_1, .int .u64 a0_2, .int .u64 a0_3, .int .u64 a0_4, .int .u64 a0_5, .int .i64 a0_6, .bool a0_7, .slice A0_8 l0_8.length c0_8, .slice A0_9 l0_9.length c0_9, .slice A0_10 l0_10.length c0_10] 30 (0, 0)) (by (with_reducible skip); exact BK174.out) hb); have n4_ := Aside0.mk (below_step (by repeat (with_reducible (exact HB.out))) hb); clear BK174; clear HB; have HO185 := n0_; have HO188 := n1_; have HO191 := n2_; have BK174 := n3_; have HB := n4_; clear n0_ n1_ n2_ n3_ n4_; (try clear hb); (try clear ho0); (try clear ho1); (try clear ho2)
    obtain ⟨Ao11, co11, eo11⟩ := Kd.V_slice HO185.out
    (subst eo11)
    obtain ⟨Ao12, co12, eo12⟩ := Kd.V_slice HO188.out
    (subst eo12)
    obtain ⟨Ao13, co13, eo13⟩ := Kd.V_slice HO191.out
    (subst eo13)
    refine hK.out _ _ ⟨(blk_cell BK174.out 0).trans rfl, (blk_cell BK174.out 1).trans rfl, (blk_cell BK174.out 2).trans rfl, (blk_cell BK174.out 3).trans rfl, (blk_cell BK174.out 4).trans rfl, (blk_cell BK174.out 5).trans rfl, (blk_cell BK174.out 6).trans rfl, (blk_cell BK174.out 7).trans rfl, (blk_cell BK174.out 8).trans rfl, (blk_cell BK174.out 9).trans rfl, (blk_cell BK174.out 10).trans rfl⟩ (fun hHeld => ?_)
    clear hK K
    refine norm_ (a' := ?_) ?_ ?_
    rotate_left
    ·show Act.put _ (some 12) _ = _; simp only [Act.put, List.setIfInBounds_toArray, List.set_cons_zero, List.set_cons_succ, i64_w, i32_w]; rfl
    refine one_ (i := 3) (N := some 13) #[true, true, true, true, false, false, false, false, false, false, false, false, false, false, false] rfl rfl (one_of HT_.out (by kernel_rfl)) (by decide) (fun K hK => ?_)
    refine goes_ Try.func21 (by kernel_rfl) rfl #[.agg #[.int .i64 a0_0, .int .u64 a0_1, .int .u64 a0_2, .int .u64 a0_3, .int .u64 a0_4, .int .u64 a0_5, .int .i64 a0_6, .bool a0_7, .slice A0_8 l0_8.length c0_8, .slice A0_9 l0_9.length c0_9, .slice A0_10 l0_10.length c0_10], .agg #[.int .i64 t175, .int .u64 t176, .int .u64 t177, .int .u64 t178, .int .u64 t179, .int .u64 t180, .int .i64 t181, .bool t182, .slice Ao11 t183.length co11, .slice Ao12 t186.length co12, .slice Ao13 t189.length co13]] (by rfl) rfl rfl (by (try simp only [List.map_toArray, List.map_cons, List.map_nil]); (rfl)) ?_
    with_reducible refine (winnowref05_Same.calls k a0_0 a0_1 a0_2 a0_3 a0_4 a0_5 a0_6 a0_7 _ _ l0_8 _ _ l0_9 _ _ l0_10 t175 t176 t177 t178 t179 t180 t181 t182 _ _ t183 _ _ t186 _ _ t189 true _ ?side1 ?side2 ?side3 ?side4 ?side5 ?side6 ?side7 ?side8 ?side9 ?side10 ?side11 ?side12 A6.out).mono ?_
    (case side1 => repeat (exact (Kd.C_below HR0_8.out HB.out)))
    (case side2 => exact HC0_8.out)
    (case side3 => repeat (exact (Kd.C_below HR0_9.out HB.out)))
    (case side4 => exact HC0_9.out)
    (case side5 => repeat (exact (Kd.C_below HR0_10.out HB.out)))
    (case side6 => exact HC0_10.out)
    (case side7 => repeat (exact (Kd.V_reads' HO185.out).2.2))
    (case side8 => exact (Kd.V_reads' HO185.out).2.1)
    (case side9 => repeat (exact (Kd.V_reads' HO188.out).2.2))
    (case side10 => exact (Kd.V_reads' HO188.out).2.1)
    (case side11 => repeat (exact (Kd.V_reads' HO191.out).2.2))
    (case side12 => exact (Kd.V_reads' HO191.out).2.1)
    rintro e w14 ⟨rfl, hb⟩
    refine ⟨_, rfl, ?_⟩
    have n0_ := Aside0.mk (Kd.V_below (by (with_reducible skip); exact HO185.out) hb); have n1_ := Aside0.mk (Kd.V_below (by (with_reducible skip); exact HO188.out) hb); have n2_ := Aside0.mk (Kd.V_below (by (with_reducible skip); exact HO191.out) hb); have n3_ := Aside0.mk (blk_below (g := gb174) (o := .cells #[.int .i64 a0_0, .int .u64 a0_1, .int .u64 a0_2, .int .u64 a0_3, .int .u64 a0_4, .int .u64 a0_5, .int .i64 a0_6, .bool a0_7, .slice A0_8 l0_8.length c0_8, .slice A0_9 l0_9.length c0_9, .slice A0_10 l0_10.length c0_10] 30 (0, 0)) (by (with_reducible skip); exact BK174.out) hb); have n4_ := Aside0.mk (below_step (by repeat (with_reducible (exact HB.out))) hb); clear HO185; clear HO188; clear HO191; clear BK174; clear HB; have HO185 := n0_; have HO188 := n1_; have HO191 := n2_; have BK174 := n3_; have HB := n4_; clear n0_ n1_ n2_ n3_ n4_; (try clear hb)
    refine hK.out _ _ ⟨(blk_cell BK174.out 0).trans rfl, (blk_cell BK174.out 1).trans rfl, (blk_cell BK174.out 2).trans rfl, (blk_cell BK174.out 3).trans rfl, (blk_cell BK174.out 4).trans rfl, (blk_cell BK174.out 5).trans rfl, (blk_cell BK174.out 6).trans rfl, (blk_cell BK174.out 7).trans rfl, (blk_cell BK174.out 8).trans rfl, (blk_cell BK174.out 9).trans rfl, (blk_cell BK174.out 10).trans rfl⟩ (fun hHeld => ?_)
    clear hK K
    refine norm_ (a' := ?_) ?_ ?_
    rotate_left
    ·show Act.put _ (some 13) _ = _; simp only [Act.put, List.setIfInBounds_toArray, List.set_cons_zero, List.set_cons_succ, i64_w, i32_w]; rfl
    refine pure_ (i := 4) (N := some 14) (v := ?_) (a' := ?_) #[true, true, true, true, true, false, false, false, false, false, false, false, false, false, false] rfl rfl (any_of HT_.out (by kernel_rfl)) (fun _ _ _ h => h) (Or.inl ⟨by rfl, ?_⟩) ?_ ?_
    rotate_left
    ·intro w'; go_simp; with_reducible rfl
    rotate_left
    ·simp only [Act.put, List.setIfInBounds_toArray, List.set_cons_zero, List.set_cons_succ, i64_w, i32_w]; rfl
    refine pure_ (i := 5) (N := some 15) (v := ?_) (a' := ?_) #[true, true, true, true, true, true, false, false, false, false, false, false, false, false, false] rfl rfl (any_of HT_.out (by kernel_rfl)) (fun _ _ _ h => h) (Or.inl ⟨by rfl, ?_⟩) ?_ ?_
    rotate_left
    ·intro w'; go_simp; with_reducible rfl
    rotate_left
    ·simp only [Act.put, List.setIfInBounds_toArray, List.set_cons_zero, List.set_cons_succ, i64_w, i32_w]; rfl
    refine take_ (i := 6) (N := some 16) (v := ?_) (a' := ?_) #[true, true, true, true, true, true, true, false, false, false, false, false, false, false, false] rfl rfl (take_ofW HT_.out HW_.out (by kernel_rfl)) (fun _ _ _ h => h) (Or.inl ⟨by rfl, ?_⟩) hHeld ?_ ?_
    rotate_left
    ·rintro w' ⟨s0, s1, s2, s3, s4, s5, s6, s7, s8, s9, s10⟩; go_simp; with_reducible rfl
    rotate_left
    ·simp only [Act.put, List.setIfInBounds_toArray, List.set_cons_zero, List.set_cons_succ, i64_w, i32_w]; rfl
    refine pure_ (i := 7) (N := some 17) (v := ?_) (a' := ?_) #[true, true, true, true, true, true, true, true, false, false, false, false, false, false, false] rfl rfl (any_of HT_.out (by kernel_rfl)) (fun _ _ _ h => h) (Or.inl ⟨by rfl, ?_⟩) ?_ ?_
    rotate_left
    ·intro w'; go_simp; with_reducible rfl
    rotate_left
    ·simp only [Act.put, List.setIfInBounds_toArray, List.set_cons_zero, List.set_cons_succ, i64_w, i32_w]; rfl
    refine pure_ (i := 8) (N := some 18) (v := ?_) (a' := ?_) #[true, true, true, true, true, true, true, true, true, false, false, false, false, false, false] rfl rfl (any_of HT_.out (by kernel_rfl)) (fun _ _ _ h => h) (Or.inl ⟨by rfl, ?_⟩) ?_ ?_
    rotate_left
    ·intro w'; go_simp; with_reducible rfl
    rotate_left
    ·simp only [Act.put, List.setIfInBounds_toArray, List.set_cons_zero, List.set_cons_succ, i64_w, i32_w]; rfl
    refine pure_ (i := 9) (N := some 19) (v := undef) (a' := ?_) #[true, true, true, true, true, true, true, true, true, true, false, false, false, false, false] rfl rfl (any_of HT_.out (by kernel_rfl)) (fun _ _ _ h => h) (Or.inr ⟨by rfl, rfl⟩) ?_ ?_
    rotate_left
    ·simp only [Act.put, List.setIfInBounds_toArray, List.set_cons_zero, List.set_cons_succ, i64_w, i32_w]; rfl
    refine pure_ (i := 10) (N := some 20) (v := undef) (a' := ?_) #[true, true, true, true, true, true, true, true, true, true, true, false, false, false, false] rfl rfl (any_of HT_.out (by kernel_rfl)) (fun _ _ _ h => h) (Or.inr ⟨by rfl, rfl⟩) ?_ ?_
    rotate_left
    ·simp only [Act.put, List.setIfInBounds_toArray, List.set_cons_zero, List.set_cons_succ, i64_w, i32_w]; rfl
    refine pure_ (i := 11) (N := some 21) (v := undef) (a' := ?_) #[true, true, true, true, true, true, true, true, true, true, true, true, false, false, false] rfl rfl (any_of HT_.out (by kernel_rfl)) (fun _ _ _ h => h) (Or.inr ⟨by rfl, rfl⟩) ?_ ?_
    rotate_left
    ·simp only [Act.put, List.setIfInBounds_toArray, List.set_cons_zero, List.set_cons_succ, i64_w, i32_w]; rfl
    refine pure_ (i := 12) (N := some 22) (v := ?_) (a' := ?_) #[true, true, true, true, true, true, true, true, true, true, true, true, true, false, false] rfl rfl (any_of HT_.out (by kernel_rfl)) (fun _ _ _ h => h) (Or.inl ⟨by rfl, ?_⟩) ?_ ?_
    rotate_left
    ·intro w'; go_simp; with_reducible rfl
    rotate_left
    ·simp only [Act.put, List.setIfInBounds_toArray, List.set_cons_zero, List.set_cons_succ, i64_w, i32_w]; rfl
    refine pure_ (i := 13) (N := some 23) (v := ?_) (a' := ?_) #[true, true, true, true, true, true, true, true, true, true, true, true, true, true, false] rfl rfl (any_of HT_.out (by kernel_rfl)) (fun _ _ _ h => h) (Or.inl ⟨by rfl, ?_⟩) ?_ ?_
    rotate_left
    ·intro w'; go_simp; with_reducible rfl
    rotate_left
    ·simp only [Act.put, List.setIfInBounds_toArray, List.set_cons_zero, List.set_cons_succ, i64_w, i32_w]; rfl
    refine pure_ (i := 14) (N := some 4) (v := ?_) (a' := ?_) #[true, true, true, true, true, true, true, true, true, true, true, true, true, true, true] rfl rfl (any_of HT_.out (by kernel_rfl)) (fun _ _ _ h => h) (Or.inl ⟨by rfl, ?_⟩) ?_ ?_
    rotate_left
    ·intro w'; go_simp; with_reducible rfl
    rotate_left
    ·simp only [Act.put, List.setIfInBounds_toArray, List.set_cons_zero, List.set_cons_succ, i64_w, i32_w]; rfl
    refine done_ (done_of HT_.out (by kernel_rfl)) ?_
    try go_wp2
    go_meet
    case rel => exact ⟨_, (true), (by (rfl)), H', ⟨by (omega)⟩, ⟨by (with_reducible skip); exact BK174.out⟩, ⟨by repeat (with_reducible (exact HB.out))⟩⟩
   ·rw [if_neg c8] at H
    obtain ⟨c8b0, c8b1⟩ := Hand.Cz.eqF c8
    (skip)
    have H' := Aside0.mk H
    clear H
    try go_wp2
    have n0_ := Aside0.mk (blk_drew BK174.out); have n1_ := Aside0.mk (below_drew1 HB.out); clear BK174; clear HB; have BK174 := n0_; have HB := n1_; clear n0_ n1_
    refine start_ (n := 15) (S := fun w' => w'.cell? ⟨gb174, 0, none⟩ = some (.int .i64 a0_0) ∧ w'.cell? ⟨gb174, 1, none⟩ = some (.int .u64 a0_1) ∧ w'.cell? ⟨gb174, 2, none⟩ = some (.int .u64 a0_2) ∧ w'.cell? ⟨gb174, 3, none⟩ = some (.int .u64 a0_3) ∧ w'.cell? ⟨gb174, 4, none⟩ = some (.int .u64 a0_4) ∧ w'.cell? ⟨gb174, 5, none⟩ = some (.int .u64 a0_5) ∧ w'.cell? ⟨gb174, 6, none⟩ = some (.int .i64 a0_6) ∧ w'.cell? ⟨gb174, 7, none⟩ = some (.bool a0_7) ∧ w'.cell? ⟨gb174, 8, none⟩ = some (.slice A0_8 l0_8.length c0_8) ∧ w'.cell? ⟨gb174, 9, none⟩ = some (.slice A0_9 l0_9.length c0_9) ∧ w'.cell? ⟨gb174, 10, none⟩ = some (.slice A0_10 l0_10.length c0_10)) (ds := []) #[false, false, false, false, false, false, false, false, false, false, false, false, false, false, false] (by kernel_rfl) rfl rfl ⟨(blk_cell BK174.out 0).trans rfl, (blk_cell BK174.out 1).trans rfl, (blk_cell BK174.out 2).trans rfl, (blk_cell BK174.out 3).trans rfl, (blk_cell BK174.out 4).trans rfl, (blk_cell BK174.out 5).trans rfl, (blk_cell BK174.out 6).trans rfl, (blk_cell BK174.out 7).trans rfl, (blk_cell BK174.out 8).trans rfl, (blk_cell BK174.out 9).trans rfl, (blk_cell BK174.out 10).trans rfl⟩ (fun hHeld => ?_); refine with_tabW winnowref05_Right.tab2 winnowref05_Right.bits2 (fun HT_ HW_ => ?_)
    generalize w3.drew = w15 at BK174 HB hHeld ⊢
    refine take_ (i := 0) (N := some 10) (v := ?_) (a' := ?_) #[true, false, false, false, false, false, false, false, false, false, false, false, false, false, false] rfl rfl (take_ofW HT_.out HW_.out (by kernel_rfl)) (fun _ _ _ h => h) (Or.inl ⟨by rfl, ?_⟩) hHeld ?_ ?_
    rotate_left
    ·rintro w' ⟨s0, s1, s2, s3, s4, s5, s6, s7, s8, s9, s10⟩; go_simp; with_reducible rfl
    rotate_left
    ·simp only [Act.put, List.setIfInBounds_toArray, List.set_cons_zero, List.set_cons_succ, i64_w, i32_w]; rfl
    refine take_ (i := 1) (N := some 11) (v := ?_) (a' := ?_) #[true, true, false, false, false, false, false, false, false, false, false, false, false, false, false] rfl rfl (take_ofW HT_.out HW_.out (by kernel_rfl)) (fun _ _ _ h => h) (Or.inl ⟨by rfl, ?_⟩) hHeld ?_ ?_
    rotate_left
    ·rintro w' ⟨s0, s1, s2, s3, s4, s5, s6, s7, s8, s9, s10⟩; go_simp; with_reducible rfl
    rotate_left
    ·simp only [Act.put, List.setIfInBounds_toArray, List.set_cons_zero, List.set_cons_succ, i64_w, i32_w]; rfl
    refine one_ (i := 2) (N := some 12) #[true, true, true, false, false, false, false, false, false, false, false, false, false, false, false] rfl rfl (one_of HT_.out (by kernel_rfl)) (by decide) (fun K hK => ?_)
    refine goes_ Try.func32 (by kernel_rfl) rfl #[.agg #[.int .i64 a0_0, .int .u64 a0_1, .int .u64 a0_2, .int .u64 a0_3, .int .u64 a0_4, .int .u64 a0_5, .int .i64 a0_6, .bool a0_7, .slice A0_8 l0_8.length c0_8, .slice A0_9 l0_9.length c0_9, .slice A0_10 l0_10.length c0_10]] (by rfl) rfl rfl (by (try simp only [List.map_toArray, List.map_cons, List.map_nil]); (rfl)) ?_
    with_reducible refine (winnowref05_only.calls k a0_0 a0_1 a0_2 a0_3 a0_4 a0_5 a0_6 a0_7 (fun k_ => k_ < w.heap.size) _ _ l0_8 (fun k_ => k_ < w.heap.size) _ _ l0_9 (fun k_ => k_ < w.heap.size) _ _ l0_10 t175 t176 t177 t178 t179 t180 t181 t182 t183 t186 t189 _ ?side1 ?side2 ?side3 A5.out).mono ?_
    (case side1 => exact Kd.V_mk HC0_8.out (Kd.F_below (Kd.C_F k76_heap HR0_8.out) (by repeat (with_reducible (exact HB.out)))))
    (case side2 => exact Kd.V_mk HC0_9.out (Kd.F_below (Kd.C_F k92_heap HR0_9.out) (by repeat (with_reducible (exact HB.out)))))
    (case side3 => exact Kd.V_mk HC0_10.out (Kd.F_below (Kd.C_F (Kd.heap_int .u64) HR0_10.out) (by repeat (with_reducible (exact HB.out)))))
    rintro e w16 ⟨v184, v187, v190, rfl, ho0, ho1, ho2, hb⟩
    refine ⟨_, rfl, ?_⟩
    have n0_ := Aside0.mk (Kd.V_lower (Kd.V_mono (ok' := fun k_ => k_ ≠ gb174) ho0 (fun k_ hk_ => Or.elim hk_ (fun hs_ => Or.elim hs_ (fun hs_ => fun e_ => Nat.not_le.2 hs_ (by rw [e_]; exact GW174.out)) (fun hs_ => Or.elim hs_ (fun hs_ => fun e_ => Nat.not_le.2 hs_ (by rw [e_]; exact GW174.out)) (fun hs_ => fun e_ => Nat.not_le.2 hs_ (by rw [e_]; exact GW174.out)))) (fun hn_ => (Kd.freshB (g := gb174) (o := .cells #[.int .i64 a0_0, .int .u64 a0_1, .int .u64 a0_2, .int .u64 a0_3, .int .u64 a0_4, .int .u64 a0_5, .int .i64 a0_6, .bool a0_7, .slice A0_8 l0_8.length c0_8, .slice A0_9 l0_9.length c0_9, .slice A0_10 l0_10.length c0_10] 30 (0, 0)) (by (with_reducible skip); exact BK174.out) k_ hn_)))) (below_size (by repeat (with_reducible (exact HB.out)))))
    have n1_ := Aside0.mk (Kd.V_lower (Kd.V_mono (ok' := fun k_ => k_ ≠ gb174) ho1 (fun k_ hk_ => Or.elim hk_ (fun hs_ => Or.elim hs_ (fun hs_ => fun e_ => Nat.not_le.2 hs_ (by rw [e_]; exact GW174.out)) (fun hs_ => Or.elim hs_ (fun hs_ => fun e_ => Nat.not_le.2 hs_ (by rw [e_]; exact GW174.out)) (fun hs_ => fun e_ => Nat.not_le.2 hs_ (by rw [e_]; exact GW174.out)))) (fun hn_ => (Kd.freshB (g := gb174) (o := .cells #[.int .i64 a0_0, .int .u64 a0_1, .int .u64 a0_2, .int .u64 a0_3, .int .u64 a0_4, .int .u64 a0_5, .int .i64 a0_6, .bool a0_7, .slice A0_8 l0_8.length c0_8, .slice A0_9 l0_9.length c0_9, .slice A0_10 l0_10.length c0_10] 30 (0, 0)) (by (with_reducible skip); exact BK174.out) k_ hn_)))) (below_size (by repeat (with_reducible (exact HB.out)))))
    have n2_ := Aside0.mk (Kd.V_lower (Kd.V_mono (ok' := fun k_ => k_ ≠ gb174) ho2 (fun k_ hk_ => Or.elim hk_ (fun hs_ => Or.elim hs_ (fun hs_ => fun e_ => Nat.not_le.2 hs_ (by rw [e_]; exact GW174.out)) (fun hs_ => Or.elim hs_ (fun hs_ => fun e_ => Nat.not_le.2 hs_ (by rw [e_]; exact GW174.out)) (fun hs_ => fun e_ => Nat.not_le.2 hs_ (by rw [e_]; exact GW174.out)))) (fun hn_ => (Kd.freshB (g := gb174) (o := .cells #[.int .i64 a0_0, .int .u64 a0_1, .int .u64 a0_2, .int .u64 a0_3, .int .u64 a0_4, .int .u64 a0_5, .int .i64 a0_6, .bool a0_7, .slice A0_8 l0_8.length c0_8, .slice A0_9 l0_9.length c0_9, .slice A0_10 l0_10.length c0_10] 30 (0, 0)) (by (with_reducible skip); exact BK174.out) k_ hn_)))) (below_size (by repeat (with_reducible (exact HB.out)))))
    have n3_ := Aside0.mk (blk_below (g := gb174) (o := .cells #[.int .i64 a0_0, .int .u64 a0_1, .int .u64 a0_2, .int .u64 a0_3, .int .u64 a0_4, .int .u64 a0_5, .int .i64 a0_6, .bool a0_7, .slice A0_8 l0_8.length c0_8, .slice A0_9 l0_9.length c0_9, .slice A0_10 l0_10.length c0_10] 30 (0, 0)) (by (with_reducible skip); exact BK174.out) hb); have n4_ := Aside0.mk (below_step (by repeat (with_reducible (exact HB.out))) hb); clear BK174; clear HB; have HO185 := n0_; have HO188 := n1_; have HO191 := n2_; have BK174 := n3_; have HB := n4_; clear n0_ n1_ n2_ n3_ n4_; (try clear hb); (try clear ho0); (try clear ho1); (try clear ho2)
    obtain ⟨Ao17, co17, eo17⟩ := Kd.V_slice HO185.out
    (subst eo17)
    obtain ⟨Ao18, co18, eo18⟩ := Kd.V_slice HO188.out
    (subst eo18)
    obtain ⟨Ao19, co19, eo19⟩ := Kd.V_slice HO191.out
    (subst eo19)
    refine hK.out _ _ ⟨(blk_cell BK174.out 0).trans rfl, (blk_cell BK174.out 1).trans rfl, (blk_cell BK174.out 2).trans rfl, (blk_cell BK174.out 3).trans rfl, (blk_cell BK174.out 4).trans rfl, (blk_cell BK174.out 5).trans rfl, (blk_cell BK174.out 6).trans rfl, (blk_cell BK174.out 7).trans rfl, (blk_cell BK174.out 8).trans rfl, (blk_cell BK174.out 9).trans rfl, (blk_cell BK174.out 10).trans rfl⟩ (fun hHeld => ?_)
    clear hK K
    refine norm_ (a' := ?_) ?_ ?_
    rotate_left
    ·show Act.put _ (some 12) _ = _; simp only [Act.put, List.setIfInBounds_toArray, List.set_cons_zero, List.set_cons_succ, i64_w, i32_w]; rfl
    refine one_ (i := 3) (N := some 13) #[true, true, true, true, false, false, false, false, false, false, false, false, false, false, false] rfl rfl (one_of HT_.out (by kernel_rfl)) (by decide) (fun K hK => ?_)
    refine goes_ Try.func21 (by kernel_rfl) rfl #[.agg #[.int .i64 a0_0, .int .u64 a0_1, .int .u64 a0_2, .int .u64 a0_3, .int .u64 a0_4, .int .u64 a0_5, .int .i64 a0_6, .bool a0_7, .slice A0_8 l0_8.length c0_8, .slice A0_9 l0_9.length c0_9, .slice A0_10 l0_10.length c0_10], .agg #[.int .i64 t175, .int .u64 t176, .int .u64 t177, .int .u64 t178, .int .u64 t179, .int .u64 t180, .int .i64 t181, .bool t182, .slice Ao17 t183.length co17, .slice Ao18 t186.length co18, .slice Ao19 t189.length co19]] (by rfl) rfl rfl (by (try simp only [List.map_toArray, List.map_cons, List.map_nil]); (rfl)) ?_
    with_reducible refine (winnowref05_Same.calls k a0_0 a0_1 a0_2 a0_3 a0_4 a0_5 a0_6 a0_7 _ _ l0_8 _ _ l0_9 _ _ l0_10 t175 t176 t177 t178 t179 t180 t181 t182 _ _ t183 _ _ t186 _ _ t189 true _ ?side1 ?side2 ?side3 ?side4 ?side5 ?side6 ?side7 ?side8 ?side9 ?side10 ?side11 ?side12 A6.out).mono ?_
    (case side1 => repeat (exact (Kd.C_below HR0_8.out HB.out)))
    (case side2 => exact HC0_8.out)
    (case side3 => repeat (exact (Kd.C_below HR0_9.out HB.out)))
    (case side4 => exact HC0_9.out)
    (case side5 => repeat (exact (Kd.C_below HR0_10.out HB.out)))
    (case side6 => exact HC0_10.out)
    (case side7 => repeat (exact (Kd.V_reads' HO185.out).2.2))
    (case side8 => exact (Kd.V_reads' HO185.out).2.1)
    (case side9 => repeat (exact (Kd.V_reads' HO188.out).2.2))
    (case side10 => exact (Kd.V_reads' HO188.out).2.1)
    (case side11 => repeat (exact (Kd.V_reads' HO191.out).2.2))
    (case side12 => exact (Kd.V_reads' HO191.out).2.1)
    rintro e w20 ⟨rfl, hb⟩
    refine ⟨_, rfl, ?_⟩
    have n0_ := Aside0.mk (Kd.V_below (by (with_reducible skip); exact HO185.out) hb); have n1_ := Aside0.mk (Kd.V_below (by (with_reducible skip); exact HO188.out) hb); have n2_ := Aside0.mk (Kd.V_below (by (with_reducible skip); exact HO191.out) hb); have n3_ := Aside0.mk (blk_below (g := gb174) (o := .cells #[.int .i64 a0_0, .int .u64 a0_1, .int .u64 a0_2, .int .u64 a0_3, .int .u64 a0_4, .int .u64 a0_5, .int .i64 a0_6, .bool a0_7, .slice A0_8 l0_8.length c0_8, .slice A0_9 l0_9.length c0_9, .slice A0_10 l0_10.length c0_10] 30 (0, 0)) (by (with_reducible skip); exact BK174.out) hb); have n4_ := Aside0.mk (below_step (by repeat (with_reducible (exact HB.out))) hb); clear HO185; clear HO188; clear HO191; clear BK174; clear HB; have HO185 := n0_; have HO188 := n1_; have HO191 := n2_; have BK174 := n3_; have HB := n4_; clear n0_ n1_ n2_ n3_ n4_; (try clear hb)
    refine hK.out _ _ ⟨(blk_cell BK174.out 0).trans rfl, (blk_cell BK174.out 1).trans rfl, (blk_cell BK174.out 2).trans rfl, (blk_cell BK174.out 3).trans rfl, (blk_cell BK174.out 4).trans rfl, (blk_cell BK174.out 5).trans rfl, (blk_cell BK174.out 6).trans rfl, (blk_cell BK174.out 7).trans rfl, (blk_cell BK174.out 8).trans rfl, (blk_cell BK174.out 9).trans rfl, (blk_cell BK174.out 10).trans rfl⟩ (fun hHeld => ?_)
    clear hK K
    refine norm_ (a' := ?_) ?_ ?_
    rotate_left
    ·show Act.put _ (some 13) _ = _; simp only [Act.put, List.setIfInBounds_toArray, List.set_cons_zero, List.set_cons_succ, i64_w, i32_w]; rfl
    refine pure_ (i := 4) (N := some 14) (v := ?_) (a' := ?_) #[true, true, true, true, true, false, false, false, false, false, false, false, false, false, false] rfl rfl (any_of HT_.out (by kernel_rfl)) (fun _ _ _ h => h) (Or.inl ⟨by rfl, ?_⟩) ?_ ?_
    rotate_left
    ·intro w'; go_simp; with_reducible rfl
    rotate_left
    ·simp only [Act.put, List.setIfInBounds_toArray, List.set_cons_zero, List.set_cons_succ, i64_w, i32_w]; rfl
    refine pure_ (i := 5) (N := some 15) (v := ?_) (a' := ?_) #[true, true, true, true, true, true, false, false, false, false, false, false, false, false, false] rfl rfl (any_of HT_.out (by kernel_rfl)) (fun _ _ _ h => h) (Or.inl ⟨by rfl, ?_⟩) ?_ ?_
    rotate_left
    ·intro w'; go_simp; with_reducible rfl
    rotate_left
    ·simp only [Act.put, List.setIfInBounds_toArray, List.set_cons_zero, List.set_cons_succ, i64_w, i32_w]; rfl
    refine take_ (i := 6) (N := some 16) (v := ?_) (a' := ?_) #[true, true, true, true, true, true, true, false, false, false, false, false, false, false, false] rfl rfl (take_ofW HT_.out HW_.out (by kernel_rfl)) (fun _ _ _ h => h) (Or.inl ⟨by rfl, ?_⟩) hHeld ?_ ?_
    rotate_left
    ·rintro w' ⟨s0, s1, s2, s3, s4, s5, s6, s7, s8, s9, s10⟩; go_simp; with_reducible rfl
    rotate_left
    ·simp only [Act.put, List.setIfInBounds_toArray, List.set_cons_zero, List.set_cons_succ, i64_w, i32_w]; rfl
    refine pure_ (i := 7) (N := some 17) (v := ?_) (a' := ?_) #[true, true, true, true, true, true, true, true, false, false, false, false, false, false, false] rfl rfl (any_of HT_.out (by kernel_rfl)) (fun _ _ _ h => h) (Or.inl ⟨by rfl, ?_⟩) ?_ ?_
    rotate_left
    ·intro w'; go_simp; with_reducible rfl
    rotate_left
    ·simp only [Act.put, List.setIfInBounds_toArray, List.set_cons_zero, List.set_cons_succ, i64_w, i32_w]; rfl
    refine pure_ (i := 8) (N := some 18) (v := ?_) (a' := ?_) #[true, true, true, true, true, true, true, true, true, false, false, false, false, false, false] rfl rfl (any_of HT_.out (by kernel_rfl)) (fun _ _ _ h => h) (Or.inl ⟨by rfl, ?_⟩) ?_ ?_
    rotate_left
    ·intro w'; go_simp; with_reducible rfl
    rotate_left
    ·simp only [Act.put, List.setIfInBounds_toArray, List.set_cons_zero, List.set_cons_succ, i64_w, i32_w]; rfl
    refine pure_ (i := 9) (N := some 19) (v := ?_) (a' := ?_) #[true, true, true, true, true, true, true, true, true, true, false, false, false, false, false] rfl rfl (any_of HT_.out (by kernel_rfl)) (fun _ _ _ h => h) (Or.inl ⟨by rfl, ?_⟩) ?_ ?_
    rotate_left
    ·intro w'; go_simp; with_reducible rfl
    rotate_left
    ·simp only [Act.put, List.setIfInBounds_toArray, List.set_cons_zero, List.set_cons_succ, i64_w, i32_w]; rfl
    refine take_ (i := 10) (N := some 20) (v := ?_) (a' := ?_) #[true, true, true, true, true, true, true, true, true, true, true, false, false, false, false] rfl rfl (take_ofW HT_.out HW_.out (by kernel_rfl)) (fun _ _ _ h => h) (Or.inl ⟨by rfl, ?_⟩) hHeld ?_ ?_
    rotate_left
    ·rintro w' ⟨s0, s1, s2, s3, s4, s5, s6, s7, s8, s9, s10⟩; go_simp; with_reducible rfl
    rotate_left
    ·simp only [Act.put, List.setIfInBounds_toArray, List.set_cons_zero, List.set_cons_succ, i64_w, i32_w]; rfl
    refine pure_ (i := 11) (N := some 21) (v := ?_) (a' := ?_) #[true, true, true, true, true, true, true, true, true, true, true, true, false, false, false] rfl rfl (any_of HT_.out (by kernel_rfl)) (fun _ _ _ h => h) (Or.inl ⟨by rfl, ?_⟩) ?_ ?_
    rotate_left
    ·intro w'; go_simp; with_reducible rfl
    rotate_left
    ·simp only [Act.put, List.setIfInBounds_toArray, List.set_cons_zero, List.set_cons_succ, i64_w, i32_w]; rfl
    refine pure_ (i := 12) (N := some 22) (v := ?_) (a' := ?_) #[true, true, true, true, true, true, true, true, true, true, true, true, true, false, false] rfl rfl (any_of HT_.out (by kernel_rfl)) (fun _ _ _ h => h) (Or.inl ⟨by rfl, ?_⟩) ?_ ?_
    rotate_left
    ·intro w'; go_simp; with_reducible rfl
    rotate_left
    ·simp only [Act.put, List.setIfInBounds_toArray, List.set_cons_zero, List.set_cons_succ, i64_w, i32_w]; rfl
    refine pure_ (i := 13) (N := some 23) (v := ?_) (a' := ?_) #[true, true, true, true, true, true, true, true, true, true, true, true, true, true, false] rfl rfl (any_of HT_.out (by kernel_rfl)) (fun _ _ _ h => h) (Or.inl ⟨by rfl, ?_⟩) ?_ ?_
    rotate_left
    ·intro w'; go_simp; with_reducible rfl
    rotate_left
    ·simp only [Act.put, List.setIfInBounds_toArray, List.set_cons_zero, List.set_cons_succ, i64_w, i32_w]; rfl
    refine pure_ (i := 14) (N := some 4) (v := ?_) (a' := ?_) #[true, true, true, true, true, true, true, true, true, true, true, true, true, true, true] rfl rfl (any_of HT_.out (by kernel_rfl)) (fun _ _ _ h => h) (Or.inl ⟨by rfl, ?_⟩) ?_ ?_
    rotate_left
    ·intro w'; go_simp; with_reducible rfl
    rotate_left
    ·simp only [Act.put, List.setIfInBounds_toArray, List.set_cons_zero, List.set_cons_succ, i64_w, i32_w]; rfl
    refine done_ (done_of HT_.out (by kernel_rfl)) ?_
    try go_wp2
    go_meet
    case rel => exact ⟨_, ((a0_1 != 0)), (by (rfl)), H', ⟨by (omega)⟩, ⟨by (with_reducible skip); exact BK174.out⟩, ⟨by repeat (with_reducible (exact HB.out))⟩⟩
  ·replace c7 := Bool.eq_false_iff.mpr c7
   subst c7
   rw [if_neg (show ¬ (false = true) by decide)] at H
   have H' := Aside0.mk H
   clear H
   try go_wp2
   have n0_ := Aside0.mk (blk_drew BK174.out); have n1_ := Aside0.mk (below_drew1 HB.out); clear BK174; clear HB; have BK174 := n0_; have HB := n1_; clear n0_ n1_
   refine start_ (n := 15) (S := fun w' => w'.cell? ⟨gb174, 0, none⟩ = some (.int .i64 a0_0) ∧ w'.cell? ⟨gb174, 1, none⟩ = some (.int .u64 a0_1) ∧ w'.cell? ⟨gb174, 2, none⟩ = some (.int .u64 a0_2) ∧ w'.cell? ⟨gb174, 3, none⟩ = some (.int .u64 a0_3) ∧ w'.cell? ⟨gb174, 4, none⟩ = some (.int .u64 a0_4) ∧ w'.cell? ⟨gb174, 5, none⟩ = some (.int .u64 a0_5) ∧ w'.cell? ⟨gb174, 6, none⟩ = some (.int .i64 a0_6) ∧ w'.cell? ⟨gb174, 7, none⟩ = some (.bool a0_7) ∧ w'.cell? ⟨gb174, 8, none⟩ = some (.slice A0_8 l0_8.length c0_8) ∧ w'.cell? ⟨gb174, 9, none⟩ = some (.slice A0_9 l0_9.length c0_9) ∧ w'.cell? ⟨gb174, 10, none⟩ = some (.slice A0_10 l0_10.length c0_10)) (ds := []) #[false, false, false, false, false, false, false, false, false, false, false, false, false, false, false] (by kernel_rfl) rfl rfl ⟨(blk_cell BK174.out 0).trans rfl, (blk_cell BK174.out 1).trans rfl, (blk_cell BK174.out 2).trans rfl, (blk_cell BK174.out 3).trans rfl, (blk_cell BK174.out 4).trans rfl, (blk_cell BK174.out 5).trans rfl, (blk_cell BK174.out 6).trans rfl, (blk_cell BK174.out 7).trans rfl, (blk_cell BK174.out 8).trans rfl, (blk_cell BK174.out 9).trans rfl, (blk_cell BK174.out 10).trans rfl⟩ (fun hHeld => ?_); refine with_tabW winnowref05_Right.tab2 winnowref05_Right.bits2 (fun HT_ HW_ => ?_)
   generalize w3.drew = w21 at BK174 HB hHeld ⊢
   refine take_ (i := 0) (N := some 10) (v := ?_) (a' := ?_) #[true, false, false, false, false, false, false, false, false, false, false, false, false, false, false] rfl rfl (take_ofW HT_.out HW_.out (by kernel_rfl)) (fun _ _ _ h => h) (Or.inl ⟨by rfl, ?_⟩) hHeld ?_ ?_
   rotate_left
   ·rintro w' ⟨s0, s1, s2, s3, s4, s5, s6, s7, s8, s9, s10⟩; go_simp; with_reducible rfl
   rotate_left
   ·simp only [Act.put, List.setIfInBounds_toArray, List.set_cons_zero, List.set_cons_succ, i64_w, i32_w]; rfl
   refine take_ (i := 1) (N := some 11) (v := ?_) (a' := ?_) #[true, true, false, false, false, false, false, false, false, false, false, false, false, false, false] rfl rfl (take_ofW HT_.out HW_.out (by kernel_rfl)) (fun _ _ _ h => h) (Or.inl ⟨by rfl, ?_⟩) hHeld ?_ ?_
   rotate_left
   ·rintro w' ⟨s0, s1, s2, s3, s4, s5, s6, s7, s8, s9, s10⟩; go_simp; with_reducible rfl
   rotate_left
   ·simp only [Act.put, List.setIfInBounds_toArray, List.set_cons_zero, List.set_cons_succ, i64_w, i32_w]; rfl
   refine one_ (i := 2) (N := some 12) #[true, true, true, false, false, false, false, false, false, false, false, false, false, false, false] rfl rfl (one_of HT_.out (by kernel_rfl)) (by decide) (fun K hK => ?_)
   refine goes_ Try.func32 (by kernel_rfl) rfl #[.agg #[.int .i64 a0_0, .int .u64 a0_1, .int .u64 a0_2, .int .u64 a0_3, .int .u64 a0_4, .int .u64 a0_5, .int .i64 a0_6, .bool a0_7, .slice A0_8 l0_8.length c0_8, .slice A0_9 l0_9.length c0_9, .slice A0_10 l0_10.length c0_10]] (by rfl) rfl rfl (by (try simp only [List.map_toArray, List.map_cons, List.map_nil]); (rfl)) ?_
   with_reducible refine (winnowref05_only.calls k a0_0 a0_1 a0_2 a0_3 a0_4 a0_5 a0_6 a0_7 (fun k_ => k_ < w.heap.size) _ _ l0_8 (fun k_ => k_ < w.heap.size) _ _ l0_9 (fun k_ => k_ < w.heap.size) _ _ l0_10 t175 t176 t177 t178 t179 t180 t181 t182 t183 t186 t189 _ ?side1 ?side2 ?side3 A5.out).mono ?_
   (case side1 => exact Kd.V_mk HC0_8.out (Kd.F_below (Kd.C_F k76_heap HR0_8.out) (by repeat (with_reducible (exact HB.out)))))
   (case side2 => exact Kd.V_mk HC0_9.out (Kd.F_below (Kd.C_F k92_heap HR0_9.out) (by repeat (with_reducible (exact HB.out)))))
   (case side3 => exact Kd.V_mk HC0_10.out (Kd.F_below (Kd.C_F (Kd.heap_int .u64) HR0_10.out) (by repeat (with_reducible (exact HB.out)))))
   rintro e w22 ⟨v184, v187, v190, rfl, ho0, ho1, ho2, hb⟩
   refine ⟨_, rfl, ?_⟩
   have n0_ := Aside0.mk (Kd.V_lower (Kd.V_mono (ok' := fun k_ => k_ ≠ gb174) ho0 (fun k_ hk_ => Or.elim hk_ (fun hs_ => Or.elim hs_ (fun hs_ => fun e_ => Nat.not_le.2 hs_ (by rw [e_]; exact GW174.out)) (fun hs_ => Or.elim hs_ (fun hs_ => fun e_ => Nat.not_le.2 hs_ (by rw [e_]; exact GW174.out)) (fun hs_ => fun e_ => Nat.not_le.2 hs_ (by rw [e_]; exact GW174.out)))) (fun hn_ => (Kd.freshB (g := gb174) (o := .cells #[.int .i64 a0_0, .int .u64 a0_1, .int .u64 a0_2, .int .u64 a0_3, .int .u64 a0_4, .int .u64 a0_5, .int .i64 a0_6, .bool a0_7, .slice A0_8 l0_8.length c0_8, .slice A0_9 l0_9.length c0_9, .slice A0_10 l0_10.length c0_10] 30 (0, 0)) (by (with_reducible skip); exact BK174.out) k_ hn_)))) (below_size (by repeat (with_reducible (exact HB.out)))))
   have n1_ := Aside0.mk (Kd.V_lower (Kd.V_mono (ok' := fun k_ => k_ ≠ gb174) ho1 (fun k_ hk_ => Or.elim hk_ (fun hs_ => Or.elim hs_ (fun hs_ => fun e_ => Nat.not_le.2 hs_ (by rw [e_]; exact GW174.out)) (fun hs_ => Or.elim hs_ (fun hs_ => fun e_ => Nat.not_le.2 hs_ (by rw [e_]; exact GW174.out)) (fun hs_ => fun e_ => Nat.not_le.2 hs_ (by rw [e_]; exact GW174.out)))) (fun hn_ => (Kd.freshB (g := gb174) (o := .cells #[.int .i64 a0_0, .int .u64 a0_1, .int .u64 a0_2, .int .u64 a0_3, .int .u64 a0_4, .int .u64 a0_5, .int .i64 a0_6, .bool a0_7, .slice A0_8 l0_8.length c0_8, .slice A0_9 l0_9.length c0_9, .slice A0_10 l0_10.length c0_10] 30 (0, 0)) (by (with_reducible skip); exact BK174.out) k_ hn_)))) (below_size (by repeat (with_reducible (exact HB.out)))))
   have n2_ := Aside0.mk (Kd.V_lower (Kd.V_mono (ok' := fun k_ => k_ ≠ gb174) ho2 (fun k_ hk_ => Or.elim hk_ (fun hs_ => Or.elim hs_ (fun hs_ => fun e_ => Nat.not_le.2 hs_ (by rw [e_]; exact GW174.out)) (fun hs_ => Or.elim hs_ (fun hs_ => fun e_ => Nat.not_le.2 hs_ (by rw [e_]; exact GW174.out)) (fun hs_ => fun e_ => Nat.not_le.2 hs_ (by rw [e_]; exact GW174.out)))) (fun hn_ => (Kd.freshB (g := gb174) (o := .cells #[.int .i64 a0_0, .int .u64 a0_1, .int .u64 a0_2, .int .u64 a0_3, .int .u64 a0_4, .int .u64 a0_5, .int .i64 a0_6, .bool a0_7, .slice A0_8 l0_8.length c0_8, .slice A0_9 l0_9.length c0_9, .slice A0_10 l0_10.length c0_10] 30 (0, 0)) (by (with_reducible skip); exact BK174.out) k_ hn_)))) (below_size (by repeat (with_reducible (exact HB.out)))))
   have n3_ := Aside0.mk (blk_below (g := gb174) (o := .cells #[.int .i64 a0_0, .int .u64 a0_1, .int .u64 a0_2, .int .u64 a0_3, .int .u64 a0_4, .int .u64 a0_5, .int .i64 a0_6, .bool a0_7, .slice A0_8 l0_8.length c0_8, .slice A0_9 l0_9.length c0_9, .slice A0_10 l0_10.length c0_10] 30 (0, 0)) (by (with_reducible skip); exact BK174.out) hb); have n4_ := Aside0.mk (below_step (by repeat (with_reducible (exact HB.out))) hb); clear BK174; clear HB; have HO185 := n0_; have HO188 := n1_; have HO191 := n2_; have BK174 := n3_; have HB := n4_; clear n0_ n1_ n2_ n3_ n4_; (try clear hb); (try clear ho0); (try clear ho1); (try clear ho2)
   obtain ⟨Ao23, co23, eo23⟩ := Kd.V_slice HO185.out
   (subst eo23)
   obtain ⟨Ao24, co24, eo24⟩ := Kd.V_slice HO188.out
   (subst eo24)
   obtain ⟨Ao25, co25, eo25⟩ := Kd.V_slice HO191.out
   (subst eo25)
   refine hK.out _ _ ⟨(blk_cell BK174.out 0).trans rfl, (blk_cell BK174.out 1).trans rfl, (blk_cell BK174.out 2).trans rfl, (blk_cell BK174.out 3).trans rfl, (blk_cell BK174.out 4).trans rfl, (blk_cell BK174.out 5).trans rfl, (blk_cell BK174.out 6).trans rfl, (blk_cell BK174.out 7).trans rfl, (blk_cell BK174.out 8).trans rfl, (blk_cell BK174.out 9).trans rfl, (blk_cell BK174.out 10).trans rfl⟩ (fun hHeld => ?_)
   clear hK K
   refine norm_ (a' := ?_) ?_ ?_
   rotate_left
   ·show Act.put _ (some 12) _ = _; simp only [Act.put, List.setIfInBounds_toArray, List.set_cons_zero, List.set_cons_succ, i64_w, i32_w]; rfl
   refine one_ (i := 3) (N := some 13) #[true, true, true, true, false, false, false, false, false, false, false, false, false, false, false] rfl rfl (one_of HT_.out (by kernel_rfl)) (by decide) (fun K hK => ?_)
   refine goes_ Try.func21 (by kernel_rfl) rfl #[.agg #[.int .i64 a0_0, .int .u64 a0_1, .int .u64 a0_2, .int .u64 a0_3, .int .u64 a0_4, .int .u64 a0_5, .int .i64 a0_6, .bool a0_7, .slice A0_8 l0_8.length c0_8, .slice A0_9 l0_9.length c0_9, .slice A0_10 l0_10.length c0_10], .agg #[.int .i64 t175, .int .u64 t176, .int .u64 t177, .int .u64 t178, .int .u64 t179, .int .u64 t180, .int .i64 t181, .bool t182, .slice Ao23 t183.length co23, .slice Ao24 t186.length co24, .slice Ao25 t189.length co25]] (by rfl) rfl rfl (by (try simp only [List.map_toArray, List.map_cons, List.map_nil]); (rfl)) ?_
   with_reducible refine (winnowref05_Same.calls k a0_0 a0_1 a0_2 a0_3 a0_4 a0_5 a0_6 a0_7 _ _ l0_8 _ _ l0_9 _ _ l0_10 t175 t176 t177 t178 t179 t180 t181 t182 _ _ t183 _ _ t186 _ _ t189 false _ ?side1 ?side2 ?side3 ?side4 ?side5 ?side6 ?side7 ?side8 ?side9 ?side10 ?side11 ?side12 A6.out).mono ?_
   (case side1 => repeat (exact (Kd.C_below HR0_8.out HB.out)))
   (case side2 => exact HC0_8.out)
   (case side3 => repeat (exact (Kd.C_below HR0_9.out HB.out)))
   (case side4 => exact HC0_9.out)
   (case side5 => repeat (exact (Kd.C_below HR0_10.out HB.out)))
   (case side6 => exact HC0_10.out)
   (case side7 => repeat (exact (Kd.V_reads' HO185.out).2.2))
   (case side8 => exact (Kd.V_reads' HO185.out).2.1)
   (case side9 => repeat (exact (Kd.V_reads' HO188.out).2.2))
   (case side10 => exact (Kd.V_reads' HO188.out).2.1)
   (case side11 => repeat (exact (Kd.V_reads' HO191.out).2.2))
   (case side12 => exact (Kd.V_reads' HO191.out).2.1)
   rintro e w26 ⟨rfl, hb⟩
   refine ⟨_, rfl, ?_⟩
   have n0_ := Aside0.mk (Kd.V_below (by (with_reducible skip); exact HO185.out) hb); have n1_ := Aside0.mk (Kd.V_below (by (with_reducible skip); exact HO188.out) hb); have n2_ := Aside0.mk (Kd.V_below (by (with_reducible skip); exact HO191.out) hb); have n3_ := Aside0.mk (blk_below (g := gb174) (o := .cells #[.int .i64 a0_0, .int .u64 a0_1, .int .u64 a0_2, .int .u64 a0_3, .int .u64 a0_4, .int .u64 a0_5, .int .i64 a0_6, .bool a0_7, .slice A0_8 l0_8.length c0_8, .slice A0_9 l0_9.length c0_9, .slice A0_10 l0_10.length c0_10] 30 (0, 0)) (by (with_reducible skip); exact BK174.out) hb); have n4_ := Aside0.mk (below_step (by repeat (with_reducible (exact HB.out))) hb); clear HO185; clear HO188; clear HO191; clear BK174; clear HB; have HO185 := n0_; have HO188 := n1_; have HO191 := n2_; have BK174 := n3_; have HB := n4_; clear n0_ n1_ n2_ n3_ n4_; (try clear hb)
   refine hK.out _ _ ⟨(blk_cell BK174.out 0).trans rfl, (blk_cell BK174.out 1).trans rfl, (blk_cell BK174.out 2).trans rfl, (blk_cell BK174.out 3).trans rfl, (blk_cell BK174.out 4).trans rfl, (blk_cell BK174.out 5).trans rfl, (blk_cell BK174.out 6).trans rfl, (blk_cell BK174.out 7).trans rfl, (blk_cell BK174.out 8).trans rfl, (blk_cell BK174.out 9).trans rfl, (blk_cell BK174.out 10).trans rfl⟩ (fun hHeld => ?_)
   clear hK K
   refine norm_ (a' := ?_) ?_ ?_
   rotate_left
   ·show Act.put _ (some 13) _ = _; simp only [Act.put, List.setIfInBounds_toArray, List.set_cons_zero, List.set_cons_succ, i64_w, i32_w]; rfl
   refine pure_ (i := 4) (N := some 14) (v := ?_) (a' := ?_) #[true, true, true, true, true, false, false, false, false, false, false, false, false, false, false] rfl rfl (any_of HT_.out (by kernel_rfl)) (fun _ _ _ h => h) (Or.inl ⟨by rfl, ?_⟩) ?_ ?_
   rotate_left
   ·intro w'; go_simp; with_reducible rfl
   rotate_left
   ·simp only [Act.put, List.setIfInBounds_toArray, List.set_cons_zero, List.set_cons_succ, i64_w, i32_w]; rfl
   refine pure_ (i := 5) (N := some 15) (v := undef) (a' := ?_) #[true, true, true, true, true, true, false, false, false, false, false, false, false, false, false] rfl rfl (any_of HT_.out (by kernel_rfl)) (fun _ _ _ h => h) (Or.inr ⟨by rfl, rfl⟩) ?_ ?_
   rotate_left
   ·simp only [Act.put, List.setIfInBounds_toArray, List.set_cons_zero, List.set_cons_succ, i64_w, i32_w]; rfl
   refine pure_ (i := 6) (N := some 16) (v := undef) (a' := ?_) #[true, true, true, true, true, true, true, false, false, false, false, false, false, false, false] rfl rfl (any_of HT_.out (by kernel_rfl)) (fun _ _ _ h => h) (Or.inr ⟨by rfl, rfl⟩) ?_ ?_
   rotate_left
   ·simp only [Act.put, List.setIfInBounds_toArray, List.set_cons_zero, List.set_cons_succ, i64_w, i32_w]; rfl
   refine pure_ (i := 7) (N := some 17) (v := undef) (a' := ?_) #[true, true, true, true, true, true, true, true, false, false, false, false, false, false, false] rfl rfl (any_of HT_.out (by kernel_rfl)) (fun _ _ _ h => h) (Or.inr ⟨by rfl, rfl⟩) ?_ ?_
   rotate_left
   ·simp only [Act.put, List.setIfInBounds_toArray, List.set_cons_zero, List.set_cons_succ, i64_w, i32_w]; rfl
   refine pure_ (i := 8) (N := some 18) (v := undef) (a' := ?_) #[true, true, true, true, true, true, true, true, true, false, false, false, false, false, false] rfl rfl (any_of HT_.out (by kernel_rfl)) (fun _ _ _ h => h) (Or.inr ⟨by rfl, rfl⟩) ?_ ?_
   rotate_left
   ·simp only [Act.put, List.setIfInBounds_toArray, List.set_cons_zero, List.set_cons_succ, i64_w, i32_w]; rfl
   refine pure_ (i := 9) (N := some 19) (v := undef) (a' := ?_) #[true, true, true, true, true, true, true, true, true, true, false, false, false, false, false] rfl rfl (any_of HT_.out (by kernel_rfl)) (fun _ _ _ h => h) (Or.inr ⟨by rfl, rfl⟩) ?_ ?_
   rotate_left
   ·simp only [Act.put, List.setIfInBounds_toArray, List.set_cons_zero, List.set_cons_succ, i64_w, i32_w]; rfl
   refine pure_ (i := 10) (N := some 20) (v := undef) (a' := ?_) #[true, true, true, true, true, true, true, true, true, true, true, false, false, false, false] rfl rfl (any_of HT_.out (by kernel_rfl)) (fun _ _ _ h => h) (Or.inr ⟨by rfl, rfl⟩) ?_ ?_
   rotate_left
   ·simp only [Act.put, List.setIfInBounds_toArray, List.set_cons_zero, List.set_cons_succ, i64_w, i32_w]; rfl
   refine pure_ (i := 11) (N := some 21) (v := undef) (a' := ?_) #[true, true, true, true, true, true, true, true, true, true, true, true, false, false, false] rfl rfl (any_of HT_.out (by kernel_rfl)) (fun _ _ _ h => h) (Or.inr ⟨by rfl, rfl⟩) ?_ ?_
   rotate_left
   ·simp only [Act.put, List.setIfInBounds_toArray, List.set_cons_zero, List.set_cons_succ, i64_w, i32_w]; rfl
   refine pure_ (i := 12) (N := some 22) (v := undef) (a' := ?_) #[true, true, true, true, true, true, true, true, true, true, true, true, true, false, false] rfl rfl (any_of HT_.out (by kernel_rfl)) (fun _ _ _ h => h) (Or.inr ⟨by rfl, rfl⟩) ?_ ?_
   rotate_left
   ·simp only [Act.put, List.setIfInBounds_toArray, List.set_cons_zero, List.set_cons_succ, i64_w, i32_w]; rfl
   refine pure_ (i := 13) (N := some 23) (v := ?_) (a' := ?_) #[true, true, true, true, true, true, true, true, true, true, true, true, true, true, false] rfl rfl (any_of HT_.out (by kernel_rfl)) (fun _ _ _ h => h) (Or.inl ⟨by rfl, ?_⟩) ?_ ?_
   rotate_left
   ·intro w'; go_simp; with_reducible rfl
   rotate_left
   ·simp only [Act.put, List.setIfInBounds_toArray, List.set_cons_zero, List.set_cons_succ, i64_w, i32_w]; rfl
   refine pure_ (i := 14) (N := some 4) (v := ?_) (a' := ?_) #[true, true, true, true, true, true, true, true, true, true, true, true, true, true, true] rfl rfl (any_of HT_.out (by kernel_rfl)) (fun _ _ _ h => h) (Or.inl ⟨by rfl, ?_⟩) ?_ ?_
   rotate_left
   ·intro w'; go_simp; with_reducible rfl
   rotate_left
   ·simp only [Act.put, List.setIfInBounds_toArray, List.set_cons_zero, List.set_cons_succ, i64_w, i32_w]; rfl
   refine done_ (done_of HT_.out (by kernel_rfl)) ?_
   try go_wp2
   go_meet
   case rel => exact ⟨_, (false), (by (rfl)), H', ⟨by (omega)⟩, ⟨by (with_reducible skip); exact BK174.out⟩, ⟨by repeat (with_reducible (exact HB.out))⟩⟩
 case rest =>
  clear HC2
  obtain ⟨kq, x4_1, rfl, HA, HJ1, BK174, HB⟩ := hcut
  cases kq with
  | zero => exact absurd HA.out (by simp [winnowref05_Right.j0])
  | succ kj1 =>
   have H := HA.out; clear HA
   simp only [winnowref05_Right.j0] at H
   have HC27 := Aside0.mk H; clear H
   go_upto_region 3 with (fail)
   go_cut [5] (fun v5 wc => ∃ (kq : Nat) (x5_26 : Bool), v5 = .bool x5_26 ∧ Aside0 (winnowref05_Right.j1 kq (a0_4 == 0 && (a0_5 == 0)) x4_1 x5_26 a0_0 a0_1 a0_2 a0_3 a0_4 a0_5 a0_6 a0_7 l0_8 l0_9 l0_10 = some r) ∧ Aside0 (kq ≤ kj1) ∧ Aside0 (wc.heap[gb174]? = some (.cells #[.int .i64 a0_0, .int .u64 a0_1, .int .u64 a0_2, .int .u64 a0_3, .int .u64 a0_4, .int .u64 a0_5, .int .i64 a0_6, .bool a0_7, (.slice A0_8 l0_8.length c0_8), (.slice A0_9 l0_9.length c0_9), (.slice A0_10 l0_10.length c0_10)] 30 (0, 0))) ∧ Aside0 (Below w.heap.size w wc))
   case first =>
    have H := HC27.out; clear HC27
    by_cases c28 : a0_6 ≥ 1
    ·rw [if_pos c28] at H
     have c28b0 : decide (1 ≤ a0_6) = true := decide_eq_true c28; clear c28
     (skip)
     have H' := Aside0.mk H
     clear H
     obtain ⟨z29_0, z29_1, z29_2, z29_3, z29_4, z29_5, z29_6, z29_7, z29_8, z29_9, z29_10⟩ := Hand.Cz.c11 BK174.out
     obtain ⟨y29_0, y29_1, y29_2, y29_3, y29_4, y29_5, y29_6, y29_7, y29_8, y29_9, y29_10⟩ := Hand.Cz.f11 BK174.out
     go_wp2
     go_meet
     case rel => exact ⟨_, (decide (a0_6 ≤ 3)), (by (rfl)), H', ⟨by have := HJ1.out; (omega)⟩, ⟨by (with_reducible skip); exact BK174.out⟩, ⟨by repeat (with_reducible (exact HB.out))⟩⟩
    ·rw [if_neg c28] at H
     have c28b0 : decide (1 ≤ a0_6) = false := decide_eq_false c28; clear c28
     (skip)
     have H' := Aside0.mk H
     clear H
     obtain ⟨z30_0, z30_1, z30_2, z30_3, z30_4, z30_5, z30_6, z30_7, z30_8, z30_9, z30_10⟩ := Hand.Cz.c11 BK174.out
     obtain ⟨y30_0, y30_1, y30_2, y30_3, y30_4, y30_5, y30_6, y30_7, y30_8, y30_9, y30_10⟩ := Hand.Cz.f11 BK174.out
     go_wp2
     go_meet
     case rel => exact ⟨_, (false), (by (rfl)), H', ⟨by have := HJ1.out; (omega)⟩, ⟨by (with_reducible skip); exact BK174.out⟩, ⟨by repeat (with_reducible (exact HB.out))⟩⟩
   case rest =>
    clear HC27
    obtain ⟨kq, x5_26, rfl, HA, HJ26, BK174, HB⟩ := hcut
    cases kq with
    | zero => exact absurd HA.out (by simp [winnowref05_Right.j1])
    | succ kj26 =>
     have H := HA.out; clear HA
     simp only [winnowref05_Right.j1] at H
     have HC31 := Aside0.mk H; clear H
     obtain ⟨z32_0, z32_1, z32_2, z32_3, z32_4, z32_5, z32_6, z32_7, z32_8, z32_9, z32_10⟩ := Hand.Cz.c11 BK174.out
     obtain ⟨y32_0, y32_1, y32_2, y32_3, y32_4, y32_5, y32_6, y32_7, y32_8, y32_9, y32_10⟩ := Hand.Cz.f11 BK174.out
     go_upto_if 34 with (fail)
     go_cut [34] (fun v34 wc => ∃ (kq : Nat) (x34_30 : Bool), v34 = .bool x34_30 ∧ Aside0 (winnowref05_Right.j2 kq (a0_4 == 0 && (a0_5 == 0)) x4_1 x5_26 a0_0 x34_30 a0_0 a0_1 a0_2 a0_3 a0_4 a0_5 a0_6 a0_7 l0_8 l0_9 l0_10 = some r) ∧ Aside0 (kq ≤ kj26) ∧ Aside0 (wc.heap[gb174]? = some (.cells #[.int .i64 a0_0, .int .u64 a0_1, .int .u64 a0_2, .int .u64 a0_3, .int .u64 a0_4, .int .u64 a0_5, .int .i64 a0_6, .bool a0_7, (.slice A0_8 l0_8.length c0_8), (.slice A0_9 l0_9.length c0_9), (.slice A0_10 l0_10.length c0_10)] 30 (0, 0))) ∧ Aside0 (Below w.heap.size w wc))
     case first =>
      have H := HC31.out; clear HC31
      by_cases c33 : a0_0 = 1
      ·rw [if_pos c33] at H
       obtain ⟨c33b0, c33b1⟩ := Hand.Cz.eqT c33; clear c33
       (rw [c33b0])
       have H' := Aside0.mk H
       clear H
       go_wp2
       go_meet
       case rel => exact ⟨_, ((a0_0 == 1)), (by (simp [*]; done)), H', ⟨by have := HJ1.out; have := HJ26.out; (omega)⟩, ⟨by (with_reducible skip); exact BK174.out⟩, ⟨by repeat (with_reducible (exact HB.out))⟩⟩
      ·rw [if_neg c33] at H
       obtain ⟨c33b0, c33b1⟩ := Hand.Cz.eqF c33
       (rw [c33b0])
       have H' := Aside0.mk H
       clear H
       go_wp2
       go_meet
       case rel => exact ⟨_, ((a0_0 == 2)), (by (rfl)), H', ⟨by have := HJ1.out; have := HJ26.out; (omega)⟩, ⟨by (with_reducible skip); exact BK174.out⟩, ⟨by repeat (with_reducible (exact HB.out))⟩⟩
     case rest =>
      clear HC31; (try clear z32_0 z32_1 z32_2 z32_3 z32_4 z32_5 z32_6 z32_7 z32_8 z32_9 z32_10); (try clear y32_0 y32_1 y32_2 y32_3 y32_4 y32_5 y32_6 y32_7 y32_8 y32_9 y32_10)
      obtain ⟨kq, x34_30, rfl, HA, HJ30, BK174, HB⟩ := hcut
      cases kq with
      | zero => exact absurd HA.out (by simp [winnowref05_Right.j2])
      | succ kj30 =>
       have H := HA.out; clear HA
       simp only [winnowref05_Right.j2] at H
       by_cases c34 : x34_30 = true
       ·subst c34
        rw [if_pos rfl] at H
        by_cases c35 : x4_1 = true
        ·subst c35
         rw [if_pos rfl] at H
         replace H := Option.bind_eq_some_iff.mp H
         obtain ⟨t193, A360, H⟩ := H
         (try dsimp only at H)
         have A36 := Aside0.mk A360; clear A360
         by_cases c37 : t193 = true
         ·subst c37
          rw [if_pos rfl] at H
          obtain rfl := Option.some.inj H
          obtain ⟨z38_0, z38_1, z38_2, z38_3, z38_4, z38_5, z38_6, z38_7, z38_8, z38_9, z38_10⟩ := Hand.Cz.c11 BK174.out
          obtain ⟨y38_0, y38_1, y38_2, y38_3, y38_4, y38_5, y38_6, y38_7, y38_8, y38_9, y38_10⟩ := Hand.Cz.f11 BK174.out
          go_wp2_with (go_at_call 33; (with_reducible refine (winnowref05_Spans.calls kj30 a0_1 _ _ l0_8 true _ ?side1 ?side2 A36.out).mono ?_); (case side1 => repeat (exact (Kd.C_below HR0_8.out HB.out))); (case side2 => exact HC0_8.out); rintro e w39 ⟨rfl, hb⟩; have n0_ := Aside0.mk (blk_below (g := gb174) (o := .cells #[.int .i64 a0_0, .int .u64 a0_1, .int .u64 a0_2, .int .u64 a0_3, .int .u64 a0_4, .int .u64 a0_5, .int .i64 a0_6, .bool a0_7, .slice A0_8 l0_8.length c0_8, .slice A0_9 l0_9.length c0_9, .slice A0_10 l0_10.length c0_10] 30 (0, 0)) (by (with_reducible skip); exact BK174.out) hb); have n1_ := Aside0.mk (below_step (by repeat (with_reducible (exact HB.out))) hb); clear BK174; clear HB; have BK174 := n0_; have HB := n1_; clear n0_ n1_; (try clear hb))
          go_ret
          exact ⟨by (rfl), by repeat (with_reducible (exact HB.out))⟩
         ·replace c37 := Bool.eq_false_iff.mpr c37
          subst c37
          rw [if_neg (show ¬ (false = true) by decide)] at H
          obtain rfl := Option.some.inj H
          obtain ⟨z40_0, z40_1, z40_2, z40_3, z40_4, z40_5, z40_6, z40_7, z40_8, z40_9, z40_10⟩ := Hand.Cz.c11 BK174.out
          obtain ⟨y40_0, y40_1, y40_2, y40_3, y40_4, y40_5, y40_6, y40_7, y40_8, y40_9, y40_10⟩ := Hand.Cz.f11 BK174.out
          go_wp2_with (go_at_call 33; (with_reducible refine (winnowref05_Spans.calls kj30 a0_1 _ _ l0_8 false _ ?side1 ?side2 A36.out).mono ?_); (case side1 => repeat (exact (Kd.C_below HR0_8.out HB.out))); (case side2 => exact HC0_8.out); rintro e w41 ⟨rfl, hb⟩; have n0_ := Aside0.mk (blk_below (g := gb174) (o := .cells #[.int .i64 a0_0, .int .u64 a0_1, .int .u64 a0_2, .int .u64 a0_3, .int .u64 a0_4, .int .u64 a0_5, .int .i64 a0_6, .bool a0_7, .slice A0_8 l0_8.length c0_8, .slice A0_9 l0_9.length c0_9, .slice A0_10 l0_10.length c0_10] 30 (0, 0)) (by (with_reducible skip); exact BK174.out) hb); have n1_ := Aside0.mk (below_step (by repeat (with_reducible (exact HB.out))) hb); clear BK174; clear HB; have BK174 := n0_; have HB := n1_; clear n0_ n1_; (try clear hb))
          go_ret
          exact ⟨by (rfl), by repeat (with_reducible (exact HB.out))⟩
        ·replace c35 := Bool.eq_false_iff.mpr c35
         subst c35
         rw [if_neg (show ¬ (false = true) by decide)] at H
         obtain rfl := Option.some.inj H
         go_wp2
         go_ret
         exact ⟨by (rfl), by repeat (with_reducible (exact HB.out))⟩
       ·replace c34 := Bool.eq_false_iff.mpr c34
        subst c34
        rw [if_neg (show ¬ (false = true) by decide)] at H
        by_cases c42 : a0_0 = 3
        ·rw [if_pos c42] at H
         obtain ⟨c42b0, c42b1⟩ := Hand.Cz.eqT c42; clear c42
         by_cases c43 : x4_1 = true
         ·subst c43
          rw [if_pos rfl] at H
          replace H := Option.bind_eq_some_iff.mp H
          obtain ⟨t194, A440, H⟩ := H
          (try dsimp only at H)
          have A44 := Aside0.mk A440; clear A440
          by_cases c45 : t194 = true
          ·subst c45
           rw [if_pos rfl] at H
           obtain rfl := Option.some.inj H
           obtain ⟨z46_0, z46_1, z46_2, z46_3, z46_4, z46_5, z46_6, z46_7, z46_8, z46_9, z46_10⟩ := Hand.Cz.c11 BK174.out
           obtain ⟨y46_0, y46_1, y46_2, y46_3, y46_4, y46_5, y46_6, y46_7, y46_8, y46_9, y46_10⟩ := Hand.Cz.f11 BK174.out
           go_wp2_with (go_at_call 34; (with_reducible refine (winnowref05_Members.calls kj30 _ _ l0_9 true _ ?side1 ?side2 A44.out).mono ?_); (case side1 => repeat (exact (Kd.C_below HR0_9.out HB.out))); (case side2 => exact HC0_9.out); rintro e w47 ⟨rfl, hb⟩; have n0_ := Aside0.mk (blk_below (g := gb174) (o := .cells #[.int .i64 a0_0, .int .u64 a0_1, .int .u64 a0_2, .int .u64 a0_3, .int .u64 a0_4, .int .u64 a0_5, .int .i64 a0_6, .bool a0_7, .slice A0_8 l0_8.length c0_8, .slice A0_9 l0_9.length c0_9, .slice A0_10 l0_10.length c0_10] 30 (0, 0)) (by (with_reducible skip); exact BK174.out) hb); have n1_ := Aside0.mk (below_step (by repeat (with_reducible (exact HB.out))) hb); clear BK174; clear HB; have BK174 := n0_; have HB := n1_; clear n0_ n1_; (try clear hb))
           go_ret
           exact ⟨by (rfl), by repeat (with_reducible (exact HB.out))⟩
          ·replace c45 := Bool.eq_false_iff.mpr c45
           subst c45
           rw [if_neg (show ¬ (false = true) by decide)] at H
           obtain rfl := Option.some.inj H
           obtain ⟨z48_0, z48_1, z48_2, z48_3, z48_4, z48_5, z48_6, z48_7, z48_8, z48_9, z48_10⟩ := Hand.Cz.c11 BK174.out
           obtain ⟨y48_0, y48_1, y48_2, y48_3, y48_4, y48_5, y48_6, y48_7, y48_8, y48_9, y48_10⟩ := Hand.Cz.f11 BK174.out
           go_wp2_with (go_at_call 34; (with_reducible refine (winnowref05_Members.calls kj30 _ _ l0_9 false _ ?side1 ?side2 A44.out).mono ?_); (case side1 => repeat (exact (Kd.C_below HR0_9.out HB.out))); (case side2 => exact HC0_9.out); rintro e w49 ⟨rfl, hb⟩; have n0_ := Aside0.mk (blk_below (g := gb174) (o := .cells #[.int .i64 a0_0, .int .u64 a0_1, .int .u64 a0_2, .int .u64 a0_3, .int .u64 a0_4, .int .u64 a0_5, .int .i64 a0_6, .bool a0_7, .slice A0_8 l0_8.length c0_8, .slice A0_9 l0_9.length c0_9, .slice A0_10 l0_10.length c0_10] 30 (0, 0)) (by (with_reducible skip); exact BK174.out) hb); have n1_ := Aside0.mk (below_step (by repeat (with_reducible (exact HB.out))) hb); clear BK174; clear HB; have BK174 := n0_; have HB := n1_; clear n0_ n1_; (try clear hb))
           go_ret
           exact ⟨by (rfl), by repeat (with_reducible (exact HB.out))⟩
         ·replace c43 := Bool.eq_false_iff.mpr c43
          subst c43
          rw [if_neg (show ¬ (false = true) by decide)] at H
          obtain rfl := Option.some.inj H
          go_wp2
          go_ret
          exact ⟨by (rfl), by repeat (with_reducible (exact HB.out))⟩
        ·rw [if_neg c42] at H
         obtain ⟨c42b0, c42b1⟩ := Hand.Cz.eqF c42
         by_cases c50 : a0_0 = 4
         ·rw [if_pos c50] at H
          obtain ⟨c50b0, c50b1⟩ := Hand.Cz.eqT c50; clear c50
          by_cases c51 : x4_1 = true
          ·subst c51
           rw [if_pos rfl] at H
           by_cases c52 : a0_2 = 0
           ·rw [if_pos c52] at H
            obtain ⟨c52b0, c52b1⟩ := Hand.Cz.eqT c52; clear c52
            obtain rfl := Option.some.inj H
            obtain ⟨z53_0, z53_1, z53_2, z53_3, z53_4, z53_5, z53_6, z53_7, z53_8, z53_9, z53_10⟩ := Hand.Cz.c11 BK174.out
            obtain ⟨y53_0, y53_1, y53_2, y53_3, y53_4, y53_5, y53_6, y53_7, y53_8, y53_9, y53_10⟩ := Hand.Cz.f11 BK174.out
            go_wp2
            go_ret
            exact ⟨by (rfl), by repeat (with_reducible (exact HB.out))⟩
           ·rw [if_neg c52] at H
            obtain ⟨c52b0, c52b1⟩ := Hand.Cz.eqF c52
            obtain rfl := Option.some.inj H
            obtain ⟨z54_0, z54_1, z54_2, z54_3, z54_4, z54_5, z54_6, z54_7, z54_8, z54_9, z54_10⟩ := Hand.Cz.c11 BK174.out
            obtain ⟨y54_0, y54_1, y54_2, y54_3, y54_4, y54_5, y54_6, y54_7, y54_8, y54_9, y54_10⟩ := Hand.Cz.f11 BK174.out
            go_wp2
            go_ret
            exact ⟨by (rfl), by repeat (with_reducible (exact HB.out))⟩
          ·replace c51 := Bool.eq_false_iff.mpr c51
           subst c51
           rw [if_neg (show ¬ (false = true) by decide)] at H
           obtain rfl := Option.some.inj H
           go_wp2
           go_ret
           exact ⟨by (rfl), by repeat (with_reducible (exact HB.out))⟩
         ·rw [if_neg c50] at H
          obtain ⟨c50b0, c50b1⟩ := Hand.Cz.eqF c50
          by_cases c55 : a0_0 = 5
          ·rw [if_pos c55] at H
           obtain ⟨c55b0, c55b1⟩ := Hand.Cz.eqT c55; clear c55; have HC56 := Aside0.mk H; clear H
           go_upto_region 14 with (fail)
           go_cut [4] (fun v4 wc => ∃ (kq : Nat) (x4_55 : Bool), v4 = .bool x4_55 ∧ Aside0 (winnowref05_Right.j3 kq (a0_4 == 0 && (a0_5 == 0)) x4_55 a0_0 a0_1 a0_2 a0_3 a0_4 a0_5 a0_6 a0_7 l0_8 l0_9 l0_10 = some r) ∧ Aside0 (kq ≤ kj30) ∧ Aside0 (wc.heap[gb174]? = some (.cells #[.int .i64 a0_0, .int .u64 a0_1, .int .u64 a0_2, .int .u64 a0_3, .int .u64 a0_4, .int .u64 a0_5, .int .i64 a0_6, .bool a0_7, (.slice A0_8 l0_8.length c0_8), (.slice A0_9 l0_9.length c0_9), (.slice A0_10 l0_10.length c0_10)] 30 (0, 0))) ∧ Aside0 (Below w.heap.size w wc))
           case first =>
            have H := HC56.out; clear HC56
            by_cases c57 : x4_1 = true
            ·subst c57
             rw [if_pos rfl] at H
             by_cases c58 : a0_2 = 0
             ·rw [if_pos c58] at H
              obtain ⟨c58b0, c58b1⟩ := Hand.Cz.eqT c58; clear c58
              (skip)
              have H' := Aside0.mk H
              clear H
              obtain ⟨z59_0, z59_1, z59_2, z59_3, z59_4, z59_5, z59_6, z59_7, z59_8, z59_9, z59_10⟩ := Hand.Cz.c11 BK174.out
              obtain ⟨y59_0, y59_1, y59_2, y59_3, y59_4, y59_5, y59_6, y59_7, y59_8, y59_9, y59_10⟩ := Hand.Cz.f11 BK174.out
              go_wp2
              go_meet
              case rel => exact ⟨_, (false), (by (rfl)), H', ⟨by have := HJ1.out; have := HJ26.out; have := HJ30.out; (omega)⟩, ⟨by (with_reducible skip); exact BK174.out⟩, ⟨by repeat (with_reducible (exact HB.out))⟩⟩
             ·rw [if_neg c58] at H
              obtain ⟨c58b0, c58b1⟩ := Hand.Cz.eqF c58
              (skip)
              by_cases c60 : a0_6 = 0
              ·rw [if_pos c60] at H
               obtain ⟨c60b0, c60b1⟩ := Hand.Cz.eqT c60; clear c60
               have H' := Aside0.mk H
               clear H
               obtain ⟨z61_0, z61_1, z61_2, z61_3, z61_4, z61_5, z61_6, z61_7, z61_8, z61_9, z61_10⟩ := Hand.Cz.c11 BK174.out
               obtain ⟨y61_0, y61_1, y61_2, y61_3, y61_4, y61_5, y61_6, y61_7, y61_8, y61_9, y61_10⟩ := Hand.Cz.f11 BK174.out
               go_wp2
               go_meet
               case rel => exact ⟨_, (true), (by (rfl)), H', ⟨by have := HJ1.out; have := HJ26.out; have := HJ30.out; (omega)⟩, ⟨by (with_reducible skip); exact BK174.out⟩, ⟨by repeat (with_reducible (exact HB.out))⟩⟩
              ·rw [if_neg c60] at H
               obtain ⟨c60b0, c60b1⟩ := Hand.Cz.eqF c60
               by_cases c62 : x5_26 = true
               ·subst c62
                rw [if_pos rfl] at H
                have H' := Aside0.mk H
                clear H
                obtain ⟨z63_0, z63_1, z63_2, z63_3, z63_4, z63_5, z63_6, z63_7, z63_8, z63_9, z63_10⟩ := Hand.Cz.c11 BK174.out
                obtain ⟨y63_0, y63_1, y63_2, y63_3, y63_4, y63_5, y63_6, y63_7, y63_8, y63_9, y63_10⟩ := Hand.Cz.f11 BK174.out
                go_wp2
                go_meet
                case rel => exact ⟨_, (!(a0_4 == 0 && (a0_5 == 0))), (by (simp; done)), H', ⟨by have := HJ1.out; have := HJ26.out; have := HJ30.out; (omega)⟩, ⟨by (with_reducible skip); exact BK174.out⟩, ⟨by repeat (with_reducible (exact HB.out))⟩⟩
               ·replace c62 := Bool.eq_false_iff.mpr c62
                subst c62
                rw [if_neg (show ¬ (false = true) by decide)] at H
                have H' := Aside0.mk H
                clear H
                obtain ⟨z64_0, z64_1, z64_2, z64_3, z64_4, z64_5, z64_6, z64_7, z64_8, z64_9, z64_10⟩ := Hand.Cz.c11 BK174.out
                obtain ⟨y64_0, y64_1, y64_2, y64_3, y64_4, y64_5, y64_6, y64_7, y64_8, y64_9, y64_10⟩ := Hand.Cz.f11 BK174.out
                go_wp2
                go_meet
                case rel => exact ⟨_, (false), (by (rfl)), H', ⟨by have := HJ1.out; have := HJ26.out; have := HJ30.out; (omega)⟩, ⟨by (with_reducible skip); exact BK174.out⟩, ⟨by repeat (with_reducible (exact HB.out))⟩⟩
            ·replace c57 := Bool.eq_false_iff.mpr c57
             subst c57
             rw [if_neg (show ¬ (false = true) by decide)] at H
             have H' := Aside0.mk H
             clear H
             go_wp2
             go_meet
             case rel => exact ⟨_, (false), (by (rfl)), H', ⟨by have := HJ1.out; have := HJ26.out; have := HJ30.out; (omega)⟩, ⟨by (with_reducible skip); exact BK174.out⟩, ⟨by repeat (with_reducible (exact HB.out))⟩⟩
           case rest =>
            clear HC56; (try clear c42); (try clear c42b0); (try clear c42b1); (try clear c50); (try clear c50b0); (try clear c50b1); (try clear c55b0); (try clear c55b1)
            obtain ⟨kq, x4_55, rfl, HA, HJ55, BK174, HB⟩ := hcut
            cases kq with
            | zero => exact absurd HA.out (by simp [winnowref05_Right.j3])
            | succ kj55 =>
             have H := HA.out; clear HA
             simp only [winnowref05_Right.j3] at H
             by_cases c65 : a0_7 = true
             ·subst c65
              rw [if_pos rfl] at H
              by_cases c66 : x4_55 = true
              ·subst c66
               rw [if_pos rfl] at H
               by_cases c67 : a0_6 = 0
               ·rw [if_pos c67] at H
                obtain ⟨c67b0, c67b1⟩ := Hand.Cz.eqT c67; clear c67
                by_cases c68 : (a0_4 == 0 && (a0_5 == 0)) = true
                ·rw [if_pos c68] at H
                 have c68b0 : (a0_4 == 0 && (a0_5 == 0)) = true := c68
                 (try (have c68b1 : decide (a0_4 = 0 && (a0_5 == 0)) = true := by simpa using c68))
                 (try (have c68b2 : (a0_4 == 0 && (a0_5 == 0)) = true := by simpa using c68))
                 clear c68
                 obtain rfl := Option.some.inj H
                 obtain ⟨z69_0, z69_1, z69_2, z69_3, z69_4, z69_5, z69_6, z69_7, z69_8, z69_9, z69_10⟩ := Hand.Cz.c11 BK174.out
                 obtain ⟨y69_0, y69_1, y69_2, y69_3, y69_4, y69_5, y69_6, y69_7, y69_8, y69_9, y69_10⟩ := Hand.Cz.f11 BK174.out
                 go_wp2
                 go_ret
                 exact ⟨by (rfl), by repeat (with_reducible (exact HB.out))⟩
                ·rw [if_neg c68] at H
                 have c68b0 : (a0_4 == 0 && (a0_5 == 0)) = false := by simpa using c68
                 (try (have c68b1 : decide (a0_4 = 0 && (a0_5 == 0)) = false := by simpa using c68))
                 (try (have c68b2 : (a0_4 == 0 && (a0_5 == 0)) = false := by simpa using c68))
                 (try (have c68b3 : ¬ (a0_4 = 0 && (a0_5 == 0)) := by simpa using c68))
                 clear c68
                 obtain rfl := Option.some.inj H
                 obtain ⟨z70_0, z70_1, z70_2, z70_3, z70_4, z70_5, z70_6, z70_7, z70_8, z70_9, z70_10⟩ := Hand.Cz.c11 BK174.out
                 obtain ⟨y70_0, y70_1, y70_2, y70_3, y70_4, y70_5, y70_6, y70_7, y70_8, y70_9, y70_10⟩ := Hand.Cz.f11 BK174.out
                 go_wp2
                 go_ret
                 exact ⟨by (rfl), by repeat (with_reducible (exact HB.out))⟩
               ·rw [if_neg c67] at H
                obtain ⟨c67b0, c67b1⟩ := Hand.Cz.eqF c67
                obtain rfl := Option.some.inj H
                obtain ⟨z71_0, z71_1, z71_2, z71_3, z71_4, z71_5, z71_6, z71_7, z71_8, z71_9, z71_10⟩ := Hand.Cz.c11 BK174.out
                obtain ⟨y71_0, y71_1, y71_2, y71_3, y71_4, y71_5, y71_6, y71_7, y71_8, y71_9, y71_10⟩ := Hand.Cz.f11 BK174.out
                go_wp2
                go_ret
                exact ⟨by (rfl), by repeat (with_reducible (exact HB.out))⟩
              ·replace c66 := Bool.eq_false_iff.mpr c66
               subst c66
               rw [if_neg (show ¬ (false = true) by decide)] at H
               obtain rfl := Option.some.inj H
               obtain ⟨z72_0, z72_1, z72_2, z72_3, z72_4, z72_5, z72_6, z72_7, z72_8, z72_9, z72_10⟩ := Hand.Cz.c11 BK174.out
               obtain ⟨y72_0, y72_1, y72_2, y72_3, y72_4, y72_5, y72_6, y72_7, y72_8, y72_9, y72_10⟩ := Hand.Cz.f11 BK174.out
               go_wp2
               go_ret
               exact ⟨by (rfl), by repeat (with_reducible (exact HB.out))⟩
             ·replace c65 := Bool.eq_false_iff.mpr c65
              subst c65
              rw [if_neg (show ¬ (false = true) by decide)] at H
              by_cases c73 : x4_55 = true
              ·subst c73
               rw [if_pos rfl] at H
               by_cases c74 : a0_6 = 0
               ·rw [if_pos c74] at H
                obtain ⟨c74b0, c74b1⟩ := Hand.Cz.eqT c74; clear c74
                by_cases c75 : (a0_4 == 0 && (a0_5 == 0)) = true
                ·rw [if_pos c75] at H
                 have c75b0 : (a0_4 == 0 && (a0_5 == 0)) = true := c75
                 (try (have c75b1 : decide (a0_4 = 0 && (a0_5 == 0)) = true := by simpa using c75))
                 (try (have c75b2 : (a0_4 == 0 && (a0_5 == 0)) = true := by simpa using c75))
                 clear c75
                 obtain rfl := Option.some.inj H
                 obtain ⟨z76_0, z76_1, z76_2, z76_3, z76_4, z76_5, z76_6, z76_7, z76_8, z76_9, z76_10⟩ := Hand.Cz.c11 BK174.out
                 obtain ⟨y76_0, y76_1, y76_2, y76_3, y76_4, y76_5, y76_6, y76_7, y76_8, y76_9, y76_10⟩ := Hand.Cz.f11 BK174.out
                 go_wp2
                 go_ret
                 exact ⟨by (rfl), by repeat (with_reducible (exact HB.out))⟩
                ·rw [if_neg c75] at H
                 have c75b0 : (a0_4 == 0 && (a0_5 == 0)) = false := by simpa using c75
                 (try (have c75b1 : decide (a0_4 = 0 && (a0_5 == 0)) = false := by simpa using c75))
                 (try (have c75b2 : (a0_4 == 0 && (a0_5 == 0)) = false := by simpa using c75))
                 (try (have c75b3 : ¬ (a0_4 = 0 && (a0_5 == 0)) := by simpa using c75))
                 clear c75
                 obtain rfl := Option.some.inj H
                 obtain ⟨z77_0, z77_1, z77_2, z77_3, z77_4, z77_5, z77_6, z77_7, z77_8, z77_9, z77_10⟩ := Hand.Cz.c11 BK174.out
                 obtain ⟨y77_0, y77_1, y77_2, y77_3, y77_4, y77_5, y77_6, y77_7, y77_8, y77_9, y77_10⟩ := Hand.Cz.f11 BK174.out
                 go_wp2
                 go_ret
                 exact ⟨by (rfl), by repeat (with_reducible (exact HB.out))⟩
               ·rw [if_neg c74] at H
                obtain ⟨c74b0, c74b1⟩ := Hand.Cz.eqF c74
                obtain rfl := Option.some.inj H
                obtain ⟨z78_0, z78_1, z78_2, z78_3, z78_4, z78_5, z78_6, z78_7, z78_8, z78_9, z78_10⟩ := Hand.Cz.c11 BK174.out
                obtain ⟨y78_0, y78_1, y78_2, y78_3, y78_4, y78_5, y78_6, y78_7, y78_8, y78_9, y78_10⟩ := Hand.Cz.f11 BK174.out
                go_wp2
                go_ret
                exact ⟨by (rfl), by repeat (with_reducible (exact HB.out))⟩
              ·replace c73 := Bool.eq_false_iff.mpr c73
               subst c73
               rw [if_neg (show ¬ (false = true) by decide)] at H
               obtain rfl := Option.some.inj H
               obtain ⟨z79_0, z79_1, z79_2, z79_3, z79_4, z79_5, z79_6, z79_7, z79_8, z79_9, z79_10⟩ := Hand.Cz.c11 BK174.out
               obtain ⟨y79_0, y79_1, y79_2, y79_3, y79_4, y79_5, y79_6, y79_7, y79_8, y79_9, y79_10⟩ := Hand.Cz.f11 BK174.out
               go_wp2
               go_ret
               exact ⟨by (rfl), by repeat (with_reducible (exact HB.out))⟩
          ·rw [if_neg c55] at H
           obtain ⟨c55b0, c55b1⟩ := Hand.Cz.eqF c55
           by_cases c80 : a0_0 = 6
           ·rw [if_pos c80] at H
            obtain ⟨c80b0, c80b1⟩ := Hand.Cz.eqT c80; clear c80
            by_cases c81 : x4_1 = true
            ·subst c81
             rw [if_pos rfl] at H
             by_cases c82 : a0_2 = 0
             ·rw [if_pos c82] at H
              obtain ⟨c82b0, c82b1⟩ := Hand.Cz.eqT c82; clear c82
              obtain rfl := Option.some.inj H
              obtain ⟨z83_0, z83_1, z83_2, z83_3, z83_4, z83_5, z83_6, z83_7, z83_8, z83_9, z83_10⟩ := Hand.Cz.c11 BK174.out
              obtain ⟨y83_0, y83_1, y83_2, y83_3, y83_4, y83_5, y83_6, y83_7, y83_8, y83_9, y83_10⟩ := Hand.Cz.f11 BK174.out
              go_wp2
              go_ret
              exact ⟨by (rfl), by repeat (with_reducible (exact HB.out))⟩
             ·rw [if_neg c82] at H
              obtain ⟨c82b0, c82b1⟩ := Hand.Cz.eqF c82
              by_cases c84 : x5_26 = true
              ·subst c84
               rw [if_pos rfl] at H
               obtain rfl := Option.some.inj H
               obtain ⟨z85_0, z85_1, z85_2, z85_3, z85_4, z85_5, z85_6, z85_7, z85_8, z85_9, z85_10⟩ := Hand.Cz.c11 BK174.out
               obtain ⟨y85_0, y85_1, y85_2, y85_3, y85_4, y85_5, y85_6, y85_7, y85_8, y85_9, y85_10⟩ := Hand.Cz.f11 BK174.out
               go_wp2
               go_ret
               exact ⟨by (rfl), by repeat (with_reducible (exact HB.out))⟩
              ·replace c84 := Bool.eq_false_iff.mpr c84
               subst c84
               rw [if_neg (show ¬ (false = true) by decide)] at H
               obtain rfl := Option.some.inj H
               obtain ⟨z86_0, z86_1, z86_2, z86_3, z86_4, z86_5, z86_6, z86_7, z86_8, z86_9, z86_10⟩ := Hand.Cz.c11 BK174.out
               obtain ⟨y86_0, y86_1, y86_2, y86_3, y86_4, y86_5, y86_6, y86_7, y86_8, y86_9, y86_10⟩ := Hand.Cz.f11 BK174.out
               go_wp2
               go_ret
               exact ⟨by (rfl), by repeat (with_reducible (exact HB.out))⟩
            ·replace c81 := Bool.eq_false_iff.mpr c81
             subst c81
             rw [if_neg (show ¬ (false = true) by decide)] at H
             obtain rfl := Option.some.inj H
             go_wp2
             go_ret
             exact ⟨by (rfl), by repeat (with_reducible (exact HB.out))⟩
           ·rw [if_neg c80] at H
            obtain ⟨c80b0, c80b1⟩ := Hand.Cz.eqF c80
            by_cases c87 : a0_0 = 7
            ·rw [if_pos c87] at H
             obtain ⟨c87b0, c87b1⟩ := Hand.Cz.eqT c87; clear c87
             by_cases c88 : x4_1 = true
             ·subst c88
              rw [if_pos rfl] at H
              by_cases c89 : a0_2 = 0
              ·rw [if_pos c89] at H
               obtain ⟨c89b0, c89b1⟩ := Hand.Cz.eqT c89; clear c89
               obtain rfl := Option.some.inj H
               obtain ⟨z90_0, z90_1, z90_2, z90_3, z90_4, z90_5, z90_6, z90_7, z90_8, z90_9, z90_10⟩ := Hand.Cz.c11 BK174.out
               obtain ⟨y90_0, y90_1, y90_2, y90_3, y90_4, y90_5, y90_6, y90_7, y90_8, y90_9, y90_10⟩ := Hand.Cz.f11 BK174.out
               go_wp2
               go_ret
               exact ⟨by (rfl), by repeat (with_reducible (exact HB.out))⟩
              ·rw [if_neg c89] at H
               obtain ⟨c89b0, c89b1⟩ := Hand.Cz.eqF c89
               by_cases c91 : ((a0_7 == (a0_4 == 0 && (a0_5 == 0))) = true)
               ·rw [if_pos c91] at H
                have c91b0 : (a0_7 == (a0_4 == 0 && (a0_5 == 0))) = true := c91
                (try (have c91b1 : decide (a0_7 = (a0_4 == 0 && (a0_5 == 0))) = true := by simpa using c91))
                (try (have c91b2 : (a0_7 == (a0_4 == 0 && (a0_5 == 0))) = true := by simpa using c91))
                clear c91
                obtain rfl := Option.some.inj H
                obtain ⟨z92_0, z92_1, z92_2, z92_3, z92_4, z92_5, z92_6, z92_7, z92_8, z92_9, z92_10⟩ := Hand.Cz.c11 BK174.out
                obtain ⟨y92_0, y92_1, y92_2, y92_3, y92_4, y92_5, y92_6, y92_7, y92_8, y92_9, y92_10⟩ := Hand.Cz.f11 BK174.out
                go_wp2
                go_ret
                exact ⟨by (rfl), by repeat (with_reducible (exact HB.out))⟩
               ·rw [if_neg c91] at H
                have c91b0 : (a0_7 == (a0_4 == 0 && (a0_5 == 0))) = false := by simpa using c91
                (try (have c91b1 : decide (a0_7 = (a0_4 == 0 && (a0_5 == 0))) = false := by simpa using c91))
                (try (have c91b2 : (a0_7 == (a0_4 == 0 && (a0_5 == 0))) = false := by simpa using c91))
                (try (have c91b3 : ¬ (a0_7 = (a0_4 == 0 && (a0_5 == 0))) := by simpa using c91))
                clear c91
                obtain rfl := Option.some.inj H
                obtain ⟨z93_0, z93_1, z93_2, z93_3, z93_4, z93_5, z93_6, z93_7, z93_8, z93_9, z93_10⟩ := Hand.Cz.c11 BK174.out
                obtain ⟨y93_0, y93_1, y93_2, y93_3, y93_4, y93_5, y93_6, y93_7, y93_8, y93_9, y93_10⟩ := Hand.Cz.f11 BK174.out
                go_wp2
                go_ret
                exact ⟨by (rfl), by repeat (with_reducible (exact HB.out))⟩
             ·replace c88 := Bool.eq_false_iff.mpr c88
              subst c88
              rw [if_neg (show ¬ (false = true) by decide)] at H
              obtain rfl := Option.some.inj H
              go_wp2
              go_ret
              exact ⟨by (rfl), by repeat (with_reducible (exact HB.out))⟩
            ·rw [if_neg c87] at H
             obtain ⟨c87b0, c87b1⟩ := Hand.Cz.eqF c87
             by_cases c94 : a0_0 = 8
             ·rw [if_pos c94] at H
              obtain ⟨c94b0, c94b1⟩ := Hand.Cz.eqT c94; clear c94
              by_cases c95 : x4_1 = true
              ·subst c95
               rw [if_pos rfl] at H
               by_cases c96 : x5_26 = true
               ·subst c96
                rw [if_pos rfl] at H
                obtain rfl := Option.some.inj H
                go_wp2
                go_ret
                exact ⟨by (rfl), by repeat (with_reducible (exact HB.out))⟩
               ·replace c96 := Bool.eq_false_iff.mpr c96
                subst c96
                rw [if_neg (show ¬ (false = true) by decide)] at H
                obtain rfl := Option.some.inj H
                go_wp2
                go_ret
                exact ⟨by (rfl), by repeat (with_reducible (exact HB.out))⟩
              ·replace c95 := Bool.eq_false_iff.mpr c95
               subst c95
               rw [if_neg (show ¬ (false = true) by decide)] at H
               obtain rfl := Option.some.inj H
               go_wp2
               go_ret
               exact ⟨by (rfl), by repeat (with_reducible (exact HB.out))⟩
             ·rw [if_neg c94] at H
              obtain ⟨c94b0, c94b1⟩ := Hand.Cz.eqF c94
              by_cases c97 : a0_0 = 9
              ·rw [if_pos c97] at H
               obtain ⟨c97b0, c97b1⟩ := Hand.Cz.eqT c97; clear c97
               by_cases c98 : x4_1 = true
               ·subst c98
                rw [if_pos rfl] at H
                by_cases c99 : a0_2 = 0
                ·rw [if_pos c99] at H
                 obtain ⟨c99b0, c99b1⟩ := Hand.Cz.eqT c99; clear c99
                 obtain rfl := Option.some.inj H
                 obtain ⟨z100_0, z100_1, z100_2, z100_3, z100_4, z100_5, z100_6, z100_7, z100_8, z100_9, z100_10⟩ := Hand.Cz.c11 BK174.out
                 obtain ⟨y100_0, y100_1, y100_2, y100_3, y100_4, y100_5, y100_6, y100_7, y100_8, y100_9, y100_10⟩ := Hand.Cz.f11 BK174.out
                 go_wp2
                 go_ret
                 exact ⟨by (rfl), by repeat (with_reducible (exact HB.out))⟩
                ·rw [if_neg c99] at H
                 obtain ⟨c99b0, c99b1⟩ := Hand.Cz.eqF c99
                 replace H := Option.bind_eq_some_iff.mp H
                 obtain ⟨t195, A1010, H⟩ := H
                 (try dsimp only at H)
                 have A101 := Aside0.mk A1010; clear A1010
                 by_cases c102 : t195 = true
                 ·subst c102
                  rw [if_pos rfl] at H
                  obtain rfl := Option.some.inj H
                  obtain ⟨z103_0, z103_1, z103_2, z103_3, z103_4, z103_5, z103_6, z103_7, z103_8, z103_9, z103_10⟩ := Hand.Cz.c11 BK174.out
                  obtain ⟨y103_0, y103_1, y103_2, y103_3, y103_4, y103_5, y103_6, y103_7, y103_8, y103_9, y103_10⟩ := Hand.Cz.f11 BK174.out
                  go_wp2_with (go_at_call 33; (with_reducible refine (winnowref05_Spans.calls kj30 a0_1 _ _ l0_8 true _ ?side1 ?side2 A101.out).mono ?_); (case side1 => repeat (exact (Kd.C_below HR0_8.out HB.out))); (case side2 => exact HC0_8.out); rintro e w104 ⟨rfl, hb⟩; have n0_ := Aside0.mk (blk_below (g := gb174) (o := .cells #[.int .i64 a0_0, .int .u64 a0_1, .int .u64 a0_2, .int .u64 a0_3, .int .u64 a0_4, .int .u64 a0_5, .int .i64 a0_6, .bool a0_7, .slice A0_8 l0_8.length c0_8, .slice A0_9 l0_9.length c0_9, .slice A0_10 l0_10.length c0_10] 30 (0, 0)) (by (with_reducible skip); exact BK174.out) hb); have n1_ := Aside0.mk (below_step (by repeat (with_reducible (exact HB.out))) hb); clear BK174; clear HB; have BK174 := n0_; have HB := n1_; clear n0_ n1_; (try clear hb))
                  go_ret
                  exact ⟨by (rfl), by repeat (with_reducible (exact HB.out))⟩
                 ·replace c102 := Bool.eq_false_iff.mpr c102
                  subst c102
                  rw [if_neg (show ¬ (false = true) by decide)] at H
                  obtain rfl := Option.some.inj H
                  obtain ⟨z105_0, z105_1, z105_2, z105_3, z105_4, z105_5, z105_6, z105_7, z105_8, z105_9, z105_10⟩ := Hand.Cz.c11 BK174.out
                  obtain ⟨y105_0, y105_1, y105_2, y105_3, y105_4, y105_5, y105_6, y105_7, y105_8, y105_9, y105_10⟩ := Hand.Cz.f11 BK174.out
                  go_wp2_with (go_at_call 33; (with_reducible refine (winnowref05_Spans.calls kj30 a0_1 _ _ l0_8 false _ ?side1 ?side2 A101.out).mono ?_); (case side1 => repeat (exact (Kd.C_below HR0_8.out HB.out))); (case side2 => exact HC0_8.out); rintro e w106 ⟨rfl, hb⟩; have n0_ := Aside0.mk (blk_below (g := gb174) (o := .cells #[.int .i64 a0_0, .int .u64 a0_1, .int .u64 a0_2, .int .u64 a0_3, .int .u64 a0_4, .int .u64 a0_5, .int .i64 a0_6, .bool a0_7, .slice A0_8 l0_8.length c0_8, .slice A0_9 l0_9.length c0_9, .slice A0_10 l0_10.length c0_10] 30 (0, 0)) (by (with_reducible skip); exact BK174.out) hb); have n1_ := Aside0.mk (below_step (by repeat (with_reducible (exact HB.out))) hb); clear BK174; clear HB; have BK174 := n0_; have HB := n1_; clear n0_ n1_; (try clear hb))
                  go_ret
                  exact ⟨by (rfl), by repeat (with_reducible (exact HB.out))⟩
               ·replace c98 := Bool.eq_false_iff.mpr c98
                subst c98
                rw [if_neg (show ¬ (false = true) by decide)] at H
                obtain rfl := Option.some.inj H
                go_wp2
                go_ret
                exact ⟨by (rfl), by repeat (with_reducible (exact HB.out))⟩
              ·rw [if_neg c97] at H
               obtain ⟨c97b0, c97b1⟩ := Hand.Cz.eqF c97
               by_cases c107 : a0_0 = 10
               ·rw [if_pos c107] at H
                obtain ⟨c107b0, c107b1⟩ := Hand.Cz.eqT c107; clear c107
                by_cases c108 : x4_1 = true
                ·subst c108
                 rw [if_pos rfl] at H
                 replace H := Option.bind_eq_some_iff.mp H
                 obtain ⟨t196, A1090, H⟩ := H
                 (try dsimp only at H)
                 have A109 := Aside0.mk A1090; clear A1090
                 by_cases c110 : t196 = true
                 ·subst c110
                  rw [if_pos rfl] at H
                  obtain rfl := Option.some.inj H
                  obtain ⟨z111_0, z111_1, z111_2, z111_3, z111_4, z111_5, z111_6, z111_7, z111_8, z111_9, z111_10⟩ := Hand.Cz.c11 BK174.out
                  obtain ⟨y111_0, y111_1, y111_2, y111_3, y111_4, y111_5, y111_6, y111_7, y111_8, y111_9, y111_10⟩ := Hand.Cz.f11 BK174.out
                  go_wp2_with (go_at_call 35; (with_reducible refine (winnowref05_rise.calls kj30 _ _ l0_10 true _ ?side1 ?side2 A109.out).mono ?_); (case side1 => repeat (exact (Kd.C_below HR0_10.out HB.out))); (case side2 => exact HC0_10.out); rintro e w' ⟨rfl, ⟨nd, rfl⟩⟩)
                  go_ret
                  exact ⟨by (rfl), by repeat (with_reducible first | exact HB.out | apply pw_below_drewN)⟩
                 ·replace c110 := Bool.eq_false_iff.mpr c110
                  subst c110
                  rw [if_neg (show ¬ (false = true) by decide)] at H
                  obtain rfl := Option.some.inj H
                  obtain ⟨z112_0, z112_1, z112_2, z112_3, z112_4, z112_5, z112_6, z112_7, z112_8, z112_9, z112_10⟩ := Hand.Cz.c11 BK174.out
                  obtain ⟨y112_0, y112_1, y112_2, y112_3, y112_4, y112_5, y112_6, y112_7, y112_8, y112_9, y112_10⟩ := Hand.Cz.f11 BK174.out
                  go_wp2_with (go_at_call 35; (with_reducible refine (winnowref05_rise.calls kj30 _ _ l0_10 false _ ?side1 ?side2 A109.out).mono ?_); (case side1 => repeat (exact (Kd.C_below HR0_10.out HB.out))); (case side2 => exact HC0_10.out); rintro e w' ⟨rfl, ⟨nd, rfl⟩⟩)
                  go_ret
                  exact ⟨by (rfl), by repeat (with_reducible first | exact HB.out | apply pw_below_drewN)⟩
                ·replace c108 := Bool.eq_false_iff.mpr c108
                 subst c108
                 rw [if_neg (show ¬ (false = true) by decide)] at H
                 obtain rfl := Option.some.inj H
                 go_wp2
                 go_ret
                 exact ⟨by (rfl), by repeat (with_reducible (exact HB.out))⟩
               ·rw [if_neg c107] at H
                obtain ⟨c107b0, c107b1⟩ := Hand.Cz.eqF c107
                obtain rfl := Option.some.inj H
                go_wp2
                go_ret
                exact ⟨by (rfl), by repeat (with_reducible (exact HB.out))⟩

end Go.Proofs.Ytlpnpnjjmpkapaa.PAll
