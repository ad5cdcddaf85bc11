-- Laid by the kit's print.py, called for several functions at once (our call).
import Derived.Test.YtigcdbeaachkoaaPAllx0
import Derived.Test.YtigcdbeaachkoaaPAllx1
import Derived.Test.YtigcdbeaachkoaaPAllx3
import Derived.Test.YtigcdbeaachkoaaPAllx8
namespace Go.Proofs.Ytigcdbeaachkoaa.PAll
open Go.RowKit Go.Proofs.YtigcdbeaachkoaaW.PrintWords Go.Proofs.YtigcdbeaachkoaaW.PrintLast Go.Proofs.YtigcdbeaachkoaaW.PrintMore
attribute [local go_sem] max2_int min2_int max_two min_two max_three min_three max_four min_four   -- for this text's walks alone
set_option linter.unusedVariables false
set_option linter.unusedSimpArgs false

attribute [local go_sem high] eqA28
/-! ### winnowlaw03_SpanSorted: function 11 -/
mutual
def winnowlaw03_SpanSorted.l0 : Nat → List (S28) → List (S28) → Int → Option (Bool)
  | 0, _, _, _ => none
  | k + 1, x0, x3, x4 => if x4 < (x3.length : Int) then (if 0 ≤ x4 then (if 0 ≤ (wrap64 (x4 - 1)) then (if (wrap64 (x4 - 1)) < (x3.length : Int) then ((span_Less.f k ((rd_T28 x3 x4).f0) ((rd_T28 x3 x4).f1) ((rd_T28 x3 x4).f2) ((rd_T28 x3 x4).f3) ((rd_T28 x3 x4).f4) ((rd_T28 x3 x4).f5) ((rd_T28 x3 x4).f6) ((rd_T28 x3 x4).f7) ((rd_T28 x3 (wrap64 (x4 - 1))).f0) ((rd_T28 x3 (wrap64 (x4 - 1))).f1) ((rd_T28 x3 (wrap64 (x4 - 1))).f2) ((rd_T28 x3 (wrap64 (x4 - 1))).f3) ((rd_T28 x3 (wrap64 (x4 - 1))).f4) ((rd_T28 x3 (wrap64 (x4 - 1))).f5) ((rd_T28 x3 (wrap64 (x4 - 1))).f6) ((rd_T28 x3 (wrap64 (x4 - 1))).f7)).bind fun t252 => (if t252 = true then (some false) else (winnowlaw03_SpanSorted.l0 k x0 x3 (wrap64 (x4 + 1))))) else (none)) else (none)) else (none)) else (winnowlaw03_SpanSorted.l1 k x0 x3 0)
def winnowlaw03_SpanSorted.l1 : Nat → List (S28) → List (S28) → Int → Option (Bool)
  | 0, _, _, _ => none
  | k + 1, x0, x3, x5 => if x5 < (x0.length : Int) then (winnowlaw03_SpanSorted.l2 k x0 x3 x5 0 0) else ((winnowlaw03_alive.f).bind fun t253 => (some t253))
def winnowlaw03_SpanSorted.l2 : Nat → List (S28) → List (S28) → Int → Int → Int → Option (Bool)
  | 0, _, _, _, _, _ => none
  | k + 1, x0, x3, x5, x6, x7 => if x7 < (x0.length : Int) then (if 0 ≤ x7 then (if 0 ≤ x5 then (if x5 < (x0.length : Int) then (if (((rd_T28 x0 x7).f0) == ((rd_T28 x0 x5).f0) && (((rd_T28 x0 x7).f1) == ((rd_T28 x0 x5).f1) && (((rd_T28 x0 x7).f2) == ((rd_T28 x0 x5).f2) && (((rd_T28 x0 x7).f3) == ((rd_T28 x0 x5).f3) && (((rd_T28 x0 x7).f4) == ((rd_T28 x0 x5).f4) && ((((rd_T28 x0 x7).f5).toList) == (((rd_T28 x0 x5).f5).toList) && ((((rd_T28 x0 x7).f6).toList) == (((rd_T28 x0 x5).f6).toList) && (((rd_T28 x0 x7).f7) == ((rd_T28 x0 x5).f7))))))))) = true then (if x7 < (x3.length : Int) then (if (((rd_T28 x3 x7).f0) == ((rd_T28 x0 x5).f0) && (((rd_T28 x3 x7).f1) == ((rd_T28 x0 x5).f1) && (((rd_T28 x3 x7).f2) == ((rd_T28 x0 x5).f2) && (((rd_T28 x3 x7).f3) == ((rd_T28 x0 x5).f3) && (((rd_T28 x3 x7).f4) == ((rd_T28 x0 x5).f4) && ((((rd_T28 x3 x7).f5).toList) == (((rd_T28 x0 x5).f5).toList) && ((((rd_T28 x3 x7).f6).toList) == (((rd_T28 x0 x5).f6).toList) && (((rd_T28 x3 x7).f7) == ((rd_T28 x0 x5).f7))))))))) = true then (winnowlaw03_SpanSorted.l2 k x0 x3 x5 (wrap64 ((wrap64 (x6 + 1)) - 1)) (wrap64 (x7 + 1))) else (winnowlaw03_SpanSorted.l2 k x0 x3 x5 (wrap64 (x6 + 1)) (wrap64 (x7 + 1)))) else (none)) else (if x7 < (x3.length : Int) then (if (((rd_T28 x3 x7).f0) == ((rd_T28 x0 x5).f0) && (((rd_T28 x3 x7).f1) == ((rd_T28 x0 x5).f1) && (((rd_T28 x3 x7).f2) == ((rd_T28 x0 x5).f2) && (((rd_T28 x3 x7).f3) == ((rd_T28 x0 x5).f3) && (((rd_T28 x3 x7).f4) == ((rd_T28 x0 x5).f4) && ((((rd_T28 x3 x7).f5).toList) == (((rd_T28 x0 x5).f5).toList) && ((((rd_T28 x3 x7).f6).toList) == (((rd_T28 x0 x5).f6).toList) && (((rd_T28 x3 x7).f7) == ((rd_T28 x0 x5).f7))))))))) = true then (winnowlaw03_SpanSorted.l2 k x0 x3 x5 (wrap64 (x6 - 1)) (wrap64 (x7 + 1))) else (winnowlaw03_SpanSorted.l2 k x0 x3 x5 x6 (wrap64 (x7 + 1)))) else (none))) else (none)) else (none)) else (none)) else (if x6 = 0 then (winnowlaw03_SpanSorted.l1 k x0 x3 (wrap64 (x5 + 1))) else (some false))
end
def winnowlaw03_SpanSorted.f (k : Nat) (l0 : List (S28)) : Option (Bool) := if (l0.length : Int) > 100 then ((winnowlaw03_alive.f).bind fun t246 => (some t246)) else ((span_Sort.f k l0).bind fun t247 => (if (t247.length : Int) = (l0.length : Int) then (winnowlaw03_SpanSorted.l0 k l0 t247 1) else (some false)))
theorem winnowlaw03_SpanSorted.mono_l : ∀ k, (∀ y0 y1 y2, LeO (winnowlaw03_SpanSorted.l0 k y0 y1 y2) (winnowlaw03_SpanSorted.l0 (k + 1) y0 y1 y2)) ∧ (∀ y0 y1 y2, LeO (winnowlaw03_SpanSorted.l1 k y0 y1 y2) (winnowlaw03_SpanSorted.l1 (k + 1) y0 y1 y2)) ∧ (∀ y0 y1 y2 y3 y4, LeO (winnowlaw03_SpanSorted.l2 k y0 y1 y2 y3 y4) (winnowlaw03_SpanSorted.l2 (k + 1) y0 y1 y2 y3 y4))
  | 0 => ⟨fun _ _ _ r h => by simp [winnowlaw03_SpanSorted.l0] at h, fun _ _ _ r h => by simp [winnowlaw03_SpanSorted.l1] at h, fun _ _ _ _ _ r h => by simp [winnowlaw03_SpanSorted.l2] at h⟩
  | k + 1 => by
    obtain ⟨ih0, ih1, ih2⟩ := winnowlaw03_SpanSorted.mono_l k
    refine ⟨?_, ?_, ?_⟩
    · intro y0 y1 y2
      unfold winnowlaw03_SpanSorted.l0
      repeat' first
      | (with_reducible exact ih0 _ _ _)
      | (with_reducible exact ih1 _ _ _)
      | (with_reducible exact ih2 _ _ _ _ _)
      | (with_reducible exact span_Less.mono _ _ _ _ _ _ _ _ _ _ _ _ _ _ _ _ _)
      | (with_reducible exact span_Sort.mono _ _)
      | (with_reducible exact LeO.refl _)
      | (with_reducible exact LeO.none _)
      | (with_reducible refine LeO.ite ?_ ?_)
      | (with_reducible refine LeO.bind ?_ (fun _ => ?_))
      | exact ih0 _ _ _
      | exact ih1 _ _ _
      | exact ih2 _ _ _ _ _
      | exact span_Less.mono _ _ _ _ _ _ _ _ _ _ _ _ _ _ _ _ _
      | exact span_Sort.mono _ _
      | exact LeO.none _
      | refine LeO.ite ?_ ?_
      | refine LeO.bind ?_ (fun _ => ?_)
    · intro y0 y1 y2
      unfold winnowlaw03_SpanSorted.l1
      repeat' first
      | (with_reducible exact ih0 _ _ _)
      | (with_reducible exact ih1 _ _ _)
      | (with_reducible exact ih2 _ _ _ _ _)
      | (with_reducible exact span_Less.mono _ _ _ _ _ _ _ _ _ _ _ _ _ _ _ _ _)
      | (with_reducible exact span_Sort.mono _ _)
      | (with_reducible exact LeO.refl _)
      | (with_reducible exact LeO.none _)
      | (with_reducible refine LeO.ite ?_ ?_)
      | (with_reducible refine LeO.bind ?_ (fun _ => ?_))
      | exact ih0 _ _ _
      | exact ih1 _ _ _
      | exact ih2 _ _ _ _ _
      | exact span_Less.mono _ _ _ _ _ _ _ _ _ _ _ _ _ _ _ _ _
      | exact span_Sort.mono _ _
      | exact LeO.none _
      | refine LeO.ite ?_ ?_
      | refine LeO.bind ?_ (fun _ => ?_)
    · intro y0 y1 y2 y3 y4
      unfold winnowlaw03_SpanSorted.l2
      repeat' first
      | (with_reducible exact ih0 _ _ _)
      | (with_reducible exact ih1 _ _ _)
      | (with_reducible exact ih2 _ _ _ _ _)
      | (with_reducible exact span_Less.mono _ _ _ _ _ _ _ _ _ _ _ _ _ _ _ _ _)
      | (with_reducible exact span_Sort.mono _ _)
      | (with_reducible exact LeO.refl _)
      | (with_reducible exact LeO.none _)
      | (with_reducible refine LeO.ite ?_ ?_)
      | (with_reducible refine LeO.bind ?_ (fun _ => ?_))
      | exact ih0 _ _ _
      | exact ih1 _ _ _
      | exact ih2 _ _ _ _ _
      | exact span_Less.mono _ _ _ _ _ _ _ _ _ _ _ _ _ _ _ _ _
      | exact span_Sort.mono _ _
      | exact LeO.none _
      | refine LeO.ite ?_ ?_
      | refine LeO.bind ?_ (fun _ => ?_)
theorem winnowlaw03_SpanSorted.mono : ∀ a0 k, LeO (winnowlaw03_SpanSorted.f k a0) (winnowlaw03_SpanSorted.f (k + 1) a0) := by
  intro a0 k
  obtain ⟨ih0, ih1, ih2⟩ := winnowlaw03_SpanSorted.mono_l k
  unfold winnowlaw03_SpanSorted.f
  repeat' first
      | (with_reducible exact ih0 _ _ _)
      | (with_reducible exact ih1 _ _ _)
      | (with_reducible exact ih2 _ _ _ _ _)
      | (with_reducible exact span_Less.mono _ _ _ _ _ _ _ _ _ _ _ _ _ _ _ _ _)
      | (with_reducible exact span_Sort.mono _ _)
      | (with_reducible exact LeO.refl _)
      | (with_reducible exact LeO.none _)
      | (with_reducible refine LeO.ite ?_ ?_)
      | (with_reducible refine LeO.bind ?_ (fun _ => ?_))
      | exact ih0 _ _ _
      | exact ih1 _ _ _
      | exact ih2 _ _ _ _ _
      | exact span_Less.mono _ _ _ _ _ _ _ _ _ _ _ _ _ _ _ _ _
      | exact span_Sort.mono _ _
      | exact LeO.none _
      | refine LeO.ite ?_ ?_
      | refine LeO.bind ?_ (fun _ => ?_)
def winnowlaw03_SpanSorted.T9 : Bool × List (List Nat × List Nat) := (true, [([], []), ([], []), ([0, 1], [0, 1]), ([2], [2]), ([], []), ([], []), ([5], [5]), ([4, 6], [4, 6]), ([7], [7]), ([3, 8], [3, 8])])
def winnowlaw03_SpanSorted.B9 : List Nat := [0, 0, 3, 7, 0, 0, 32, 112, 240, 511]
theorem winnowlaw03_SpanSorted.tab9 : rtab .any (opsOf Try.f11 9) = winnowlaw03_SpanSorted.T9 := by kernel_rfl
theorem winnowlaw03_SpanSorted.bits9 : waitsOk winnowlaw03_SpanSorted.T9.2 winnowlaw03_SpanSorted.B9 = true := by kernel_rfl
def winnowlaw03_SpanSorted.T18 : Bool × List (List Nat × List Nat) := (true, [([], []), ([], []), ([0, 1], [0, 1]), ([2], [2]), ([], []), ([], []), ([4, 5], [4, 5]), ([6], [6]), ([3, 7], [3, 7])])
def winnowlaw03_SpanSorted.B18 : List Nat := [0, 0, 3, 7, 0, 0, 48, 112, 255]
theorem winnowlaw03_SpanSorted.tab18 : rtab .any (opsOf Try.f11 18) = winnowlaw03_SpanSorted.T18 := by kernel_rfl
theorem winnowlaw03_SpanSorted.bits18 : waitsOk winnowlaw03_SpanSorted.T18.2 winnowlaw03_SpanSorted.B18 = true := by kernel_rfl
def winnowlaw03_SpanSorted.T20 : Bool × List (List Nat × List Nat) := (true, [([], []), ([], []), ([0, 1], [0, 1]), ([2], [2]), ([], []), ([], []), ([4, 5], [4, 5]), ([6], [6]), ([3, 7], [3, 7])])
def winnowlaw03_SpanSorted.B20 : List Nat := [0, 0, 3, 7, 0, 0, 48, 112, 255]
theorem winnowlaw03_SpanSorted.tab20 : rtab .any (opsOf Try.f11 20) = winnowlaw03_SpanSorted.T20 := by kernel_rfl
theorem winnowlaw03_SpanSorted.bits20 : waitsOk winnowlaw03_SpanSorted.T20.2 winnowlaw03_SpanSorted.B20 = true := by kernel_rfl
set_option maxHeartbeats 40000000 in
set_option maxRecDepth 100000 in
theorem winnowlaw03_SpanSorted.calls (k : Nat) (A0 : Option Addr) (c0 : Nat) (l0 : List (S28)) (r : Bool) (w : World) (hr0 : Kd.C k28 w A0 l0.length l0) (hc0 : l0.length ≤ c0) (hrt_ : r = true) (h : winnowlaw03_SpanSorted.f k l0 = some r) :
    Calls Try.prog 11 #[.slice A0 l0.length c0] w fun e w' => e = .returned (.bool r) ∧ Below w.heap.size w w' := by
  have HRT_ := Aside0.mk hrt_
  clear hrt_
  have hu28 := Try.underlying28
  have HR0 := Aside0.mk hr0
  have HC0 := Aside0.mk hc0
  clear hr0 hc0
  have HB := Aside0.mk (Below.refl w.heap.size w)
  have H : (if (l0.length : Int) > 100 then ((winnowlaw03_alive.f).bind fun t246 => (some t246)) else ((span_Sort.f k l0).bind fun t247 => (if (t247.length : Int) = (l0.length : Int) then (winnowlaw03_SpanSorted.l0 k l0 t247 1) else (some false)))) = some r := h
  clear h
  by_cases c2 : (l0.length : Int) > 100
  · rw [if_pos c2] at H
    have c2b0 : decide (100 < (l0.length : Int)) = true := decide_eq_true c2
    have c2b1 : decide (100 < l0.length) = true := decide_eq_true (by omega)
    clear c2
    replace H := Option.bind_eq_some_iff.mp H
    obtain ⟨t246, A30, H⟩ := H
    replace H : (some t246) = some r := H
    have A3 := Aside0.mk A30
    clear A30
    obtain rfl := Option.some.inj H
    go_enter Try.func11, Try.ntmps11
    go_wp2_with (first | ((with_reducible refine gate_callee (f := 14) rfl ?_); refine goesL_ (some 11) rfl rfl Try.func14 (by kernel_rfl) rfl #[] rfl (by (try simp only [List.map_toArray, List.map_cons, List.map_nil]); first | done | rfl | (simp only [List.length_drop, List.length_take]; rfl)) ?_; (with_reducible refine (winnowlaw03_alive.calls  t246 _ A3.out).mono ?_); rintro e w4 ⟨rfl, hb⟩; refine ⟨_, rfl, ?_⟩; have n0_ := Aside0.mk (below_step (by repeat (first | (with_reducible first | exact HB.out | apply below_alloc | apply pw_below_drewN | apply below_drew1) | exact HB.out)) hb); clear HB; have HB := n0_; clear n0_; (try clear hb); (try clear hb2); (try clear hk); (try clear hi)))
    go_ret
    exact ⟨by first | rfl | (simp [errW_none, errW_some] <;> rfl) | (simp [*, errW_none, errW_some] <;> rfl), by repeat (first | (with_reducible first | exact HB.out | apply below_alloc | apply pw_below_drewN | apply below_drew1) | exact HB.out)⟩
  · rw [if_neg c2] at H
    have c2b0 : decide (100 < (l0.length : Int)) = false := decide_eq_false c2
    have c2b1 : decide (100 < l0.length) = false := decide_eq_false (by omega)
    clear c2
    replace H := Option.bind_eq_some_iff.mp H
    obtain ⟨t247, A50, H⟩ := H
    replace H : (if (t247.length : Int) = (l0.length : Int) then (winnowlaw03_SpanSorted.l0 k l0 t247 1) else (some false)) = some r := H
    have A5 := Aside0.mk A50
    clear A50
    by_cases c6 : (t247.length : Int) = (l0.length : Int)
    · rw [if_pos c6] at H
      have c6b0 : ((t247.length : Int) == (l0.length : Int)) = true := beq_iff_eq.mpr c6
      have c6b1 : ((t247.length : Int) != (l0.length : Int)) = false := bne_eq_false_iff_eq.mpr c6
      have c6b2 : (t247.length == l0.length) = true := by first | simpa using c6 | (simp at c6 ⊢; omega)
      clear c6
      have H' := Aside0.mk H
      clear H
      go_enter Try.func11, Try.ntmps11
      go_wp2_with (first | ((with_reducible refine gate_callee (f := 26) rfl ?_); refine goesL_ (some 13) rfl rfl Try.func26 (by kernel_rfl) rfl #[.slice A0 l0.length c0] rfl (by (try simp only [List.map_toArray, List.map_cons, List.map_nil]); first | done | rfl | (simp only [List.length_drop, List.length_take]; rfl)) ?_; (with_reducible refine (span_Sort.calls k _ _ l0 t247 _ ?side1 ?side2 A5.out).mono ?_); (case side1 => repeat (first | exact HR0.out | (with_reducible refine Kd.C_alloc ?_ _) | (with_reducible refine Kd.C_drewN ?_ _) | (with_reducible refine Kd.C_drew ?_))); (case side2 => exact HC0.out); rintro e w7 ⟨v248, rfl, ho0, hb⟩; refine ⟨_, rfl, ?_⟩; have n0_ := Aside0.mk (Kd.R_lower ho0 (below_size (by repeat (first | (with_reducible first | exact HB.out | apply below_alloc | apply pw_below_drewN | apply below_drew1) | exact HB.out)))); have n1_ := Aside0.mk (below_step (by repeat (first | (with_reducible first | exact HB.out | apply below_alloc | apply pw_below_drewN | apply below_drew1) | exact HB.out)) hb); clear HB; have HO249 := n0_; have HB := n1_; clear n0_ n1_; (try clear hb); (try clear hb2); (try clear hk); (try clear hi); (try clear ho0); obtain ⟨Ao8, co8, eo8⟩ := Kd.R_slice HO249.out; subst eo8))
      (try simp only [Act.put, List.setIfInBounds_toArray, List.set_cons_zero, List.set_cons_succ])
      go_loopg [4] k (fun kq v4 w' => ∃ (x4_1 : Int), v4 = .int .i64 x4_1 ∧ Aside0 (winnowlaw03_SpanSorted.l0 kq l0 t247 x4_1 = some r) ∧ Aside0 (kq ≤ k) ∧ Aside0 (Kd.R k28 28 w' w.heap.size (fun _ => True) (.slice Ao8 t247.length co8) t247) ∧ Aside0 (Below w.heap.size w w'))
      case atStart => exact ⟨(1), (by first | rfl | (simp; done) | (simp [*]; done)), H', ⟨Nat.le_refl _⟩, ⟨by (with_reducible repeat (first | apply Kd.R_alloc | apply Kd.R_drewN | apply Kd.R_drew)); exact HO249.out⟩, ⟨by repeat (first | (with_reducible first | exact HB.out | apply below_alloc | apply pw_below_drewN | apply below_drew1) | exact HB.out)⟩⟩
      case round =>
        clear H'
        (try clear c1); (try clear c2); (try clear c2b0); (try clear c2b1); (try clear p2); (try clear c6); (try clear c6b0); (try clear c6b1); (try clear c6b2)
        obtain ⟨x4_1, rfl, HA, HK1, HO_3, HB⟩ := hrel
        cases gk with
        | zero => exact absurd HA.out (by simp [winnowlaw03_SpanSorted.l0])
        | succ k1 =>
          have H := HA.out
          clear HA
          simp only [winnowlaw03_SpanSorted.l0] at H
          by_cases c9 : x4_1 < (t247.length : Int)
          · rw [if_pos c9] at H
            have c9b0 : decide (x4_1 < (t247.length : Int)) = true := decide_eq_true c9
            clear c9
            by_cases c10 : 0 ≤ x4_1
            · rw [if_pos c10] at H
              have c10b0 : decide (0 ≤ x4_1) = true := decide_eq_true c10
              clear c10
              obtain ⟨ji11, hji11⟩ : ∃ j_ : Int, (wrap64 (x4_1 - 1)) = j_ := ⟨_, rfl⟩
              replace H : (if 0 ≤ (ji11) then (if (ji11) < (t247.length : Int) then ((span_Less.f k1 ((rd_T28 t247 x4_1).f0) ((rd_T28 t247 x4_1).f1) ((rd_T28 t247 x4_1).f2) ((rd_T28 t247 x4_1).f3) ((rd_T28 t247 x4_1).f4) ((rd_T28 t247 x4_1).f5) ((rd_T28 t247 x4_1).f6) ((rd_T28 t247 x4_1).f7) ((rd_T28 t247 (ji11)).f0) ((rd_T28 t247 (ji11)).f1) ((rd_T28 t247 (ji11)).f2) ((rd_T28 t247 (ji11)).f3) ((rd_T28 t247 (ji11)).f4) ((rd_T28 t247 (ji11)).f5) ((rd_T28 t247 (ji11)).f6) ((rd_T28 t247 (ji11)).f7)).bind fun t252 => (if t252 = true then (some false) else (winnowlaw03_SpanSorted.l0 k1 l0 t247 (wrap64 (x4_1 + 1))))) else (none)) else (none)) = some r := by first | (rw [hji11] at H; exact H) | (simp only [hji11] at H ⊢; exact H)
              have hji11w : (IntKind.i64.wrap (x4_1 - 1)) = ji11 := (i64_w _).trans hji11
              by_cases c12 : 0 ≤ (ji11)
              · rw [if_pos c12] at H
                have c12b0 : decide (0 ≤ (ji11)) = true := decide_eq_true c12
                clear c12
                by_cases c13 : (ji11) < (t247.length : Int)
                · rw [if_pos c13] at H
                  have c13b0 : decide ((ji11) < (t247.length : Int)) = true := decide_eq_true c13
                  clear c13
                  replace H := Option.bind_eq_some_iff.mp H
                  obtain ⟨t252, A140, H⟩ := H
                  replace H : (if t252 = true then (some false) else (winnowlaw03_SpanSorted.l0 k1 l0 t247 (wrap64 (x4_1 + 1)))) = some r := H
                  have A14 := Aside0.mk A140
                  clear A140
                  by_cases c15 : t252 = true
                  · subst c15
                    have H1 : (some false) = some r := by rw [if_pos rfl] at H; exact H
                    clear H
                    have H := H1
                    clear H1
                    exact absurd ((Option.some.inj H).trans HRT_.out) (by decide)
                  · replace c15 := Bool.eq_false_iff.mpr c15
                    subst c15
                    have H1 : (winnowlaw03_SpanSorted.l0 k1 l0 t247 (wrap64 (x4_1 + 1))) = some r := by rw [if_neg (show ¬ (false = true) by decide)] at H; exact H
                    clear H
                    have H := H1
                    clear H1
                    have H' := Aside0.mk H
                    clear H
                    try go_wp2
                    have n0_ := Aside0.mk (Kd.R_drew HO_3.out)
                    have n1_ := Aside0.mk (below_drew1 HB.out)
                    clear HO_3
                    clear HB
                    have HO_3 := n0_
                    have HB := n1_
                    clear n0_ n1_
                    have p250 : 0 ≤ (x4_1 : Int) := of_decide_eq_true (by first | (with_reducible assumption) | assumption)
                    have q250 : x4_1 < (t247.length : Int) := of_decide_eq_true (by first | (with_reducible assumption) | assumption)
                    obtain ⟨ad250, e250, hx250_0, hx250_1, hx250_2, hx250_3, hx250_4, hx250_5, hx250_6, hx250_7⟩ := at_T28 (Kd.R_reads' HO_3.out).2.2 x4_1 p250 q250
                    cases e250
                    replace p250 := eq_true p250
                    replace q250 := eq_true q250
                    have p251 : 0 ≤ ((ji11) : Int) := of_decide_eq_true (by first | (with_reducible assumption) | assumption)
                    have q251 : (ji11) < (t247.length : Int) := of_decide_eq_true (by first | (with_reducible assumption) | assumption)
                    obtain ⟨ad251, e251, hx251_0, hx251_1, hx251_2, hx251_3, hx251_4, hx251_5, hx251_6, hx251_7⟩ := at_T28 (Kd.R_reads' HO_3.out).2.2 (ji11) p251 q251
                    obtain rfl : ad250 = ad251 := (by injection e251)
                    replace p251 := eq_true p251
                    replace q251 := eq_true q251
                    refine start_ (n := 10) (S := fun w' => w'.cell? (ad250.add ((x4_1).toNat * 8)) = some (.int .u64 ((rd_T28 t247 x4_1).f0)) ∧ w'.cell? ⟨(ad250.add ((x4_1).toNat * 8)).block, (ad250.add ((x4_1).toNat * 8)).off + 1, none⟩ = some (.int .u64 ((rd_T28 t247 x4_1).f1)) ∧ w'.cell? ⟨(ad250.add ((x4_1).toNat * 8)).block, (ad250.add ((x4_1).toNat * 8)).off + 2, none⟩ = some (.int .u64 ((rd_T28 t247 x4_1).f2)) ∧ w'.cell? ⟨(ad250.add ((x4_1).toNat * 8)).block, (ad250.add ((x4_1).toNat * 8)).off + 3, none⟩ = some (.int .u64 ((rd_T28 t247 x4_1).f3)) ∧ w'.cell? ⟨(ad250.add ((x4_1).toNat * 8)).block, (ad250.add ((x4_1).toNat * 8)).off + 4, none⟩ = some (.int .u64 ((rd_T28 t247 x4_1).f4)) ∧ w'.cell? ⟨(ad250.add ((x4_1).toNat * 8)).block, (ad250.add ((x4_1).toNat * 8)).off + 5, none⟩ = some (.string ((rd_T28 t247 x4_1).f5)) ∧ w'.cell? ⟨(ad250.add ((x4_1).toNat * 8)).block, (ad250.add ((x4_1).toNat * 8)).off + 6, none⟩ = some (.string ((rd_T28 t247 x4_1).f6)) ∧ w'.cell? ⟨(ad250.add ((x4_1).toNat * 8)).block, (ad250.add ((x4_1).toNat * 8)).off + 7, none⟩ = some (.bool ((rd_T28 t247 x4_1).f7)) ∧ w'.cell? (ad250.add (((ji11)).toNat * 8)) = some (.int .u64 ((rd_T28 t247 (ji11)).f0)) ∧ w'.cell? ⟨(ad250.add (((ji11)).toNat * 8)).block, (ad250.add (((ji11)).toNat * 8)).off + 1, none⟩ = some (.int .u64 ((rd_T28 t247 (ji11)).f1)) ∧ w'.cell? ⟨(ad250.add (((ji11)).toNat * 8)).block, (ad250.add (((ji11)).toNat * 8)).off + 2, none⟩ = some (.int .u64 ((rd_T28 t247 (ji11)).f2)) ∧ w'.cell? ⟨(ad250.add (((ji11)).toNat * 8)).block, (ad250.add (((ji11)).toNat * 8)).off + 3, none⟩ = some (.int .u64 ((rd_T28 t247 (ji11)).f3)) ∧ w'.cell? ⟨(ad250.add (((ji11)).toNat * 8)).block, (ad250.add (((ji11)).toNat * 8)).off + 4, none⟩ = some (.int .u64 ((rd_T28 t247 (ji11)).f4)) ∧ w'.cell? ⟨(ad250.add (((ji11)).toNat * 8)).block, (ad250.add (((ji11)).toNat * 8)).off + 5, none⟩ = some (.string ((rd_T28 t247 (ji11)).f5)) ∧ w'.cell? ⟨(ad250.add (((ji11)).toNat * 8)).block, (ad250.add (((ji11)).toNat * 8)).off + 6, none⟩ = some (.string ((rd_T28 t247 (ji11)).f6)) ∧ w'.cell? ⟨(ad250.add (((ji11)).toNat * 8)).block, (ad250.add (((ji11)).toNat * 8)).off + 7, none⟩ = some (.bool ((rd_T28 t247 (ji11)).f7))) (ds := []) #[false, false, false, false, false, false, false, false, false, false] (by kernel_rfl) rfl rfl ⟨hx250_0, hx250_1, hx250_2, hx250_3, hx250_4, hx250_5, hx250_6, hx250_7, hx251_0, hx251_1, hx251_2, hx251_3, hx251_4, hx251_5, hx251_6, hx251_7⟩ (fun hHeld => ?_); refine with_tabW winnowlaw03_SpanSorted.tab9 winnowlaw03_SpanSorted.bits9 (fun HT_ HW_ => ?_)
                    generalize wr.drew = w16 at HO_3 HB hx250_0 hx250_1 hx250_2 hx250_3 hx250_4 hx250_5 hx250_6 hx250_7 hx251_0 hx251_1 hx251_2 hx251_3 hx251_4 hx251_5 hx251_6 hx251_7 hHeld ⊢
                    refine pure_ (i := 0) (N := some 25) (v := ?_) (a' := ?_) #[true, false, false, false, false, false, false, false, false, false] rfl rfl (any_of HT_.out (by kernel_rfl)) (fun _ _ _ h => h) (Or.inl ⟨by rfl, ?_⟩) ?_ ?_
                    rotate_left
                    · intro w'
                      go_simp
                      with_reducible rfl
                    rotate_left
                    · simp only [Act.put, List.setIfInBounds_toArray, List.set_cons_zero, List.set_cons_succ, i64_w, i32_w]
                      rfl
                    refine pure_ (i := 1) (N := some 26) (v := ?_) (a' := ?_) #[true, true, false, false, false, false, false, false, false, false] rfl rfl (any_of HT_.out (by kernel_rfl)) (fun _ _ _ h => h) (Or.inl ⟨by rfl, ?_⟩) ?_ ?_
                    rotate_left
                    · intro w'
                      go_simp
                      with_reducible rfl
                    rotate_left
                    · simp only [Act.put, List.setIfInBounds_toArray, List.set_cons_zero, List.set_cons_succ, i64_w, i32_w]
                      rfl
                    refine pure_ (i := 2) (N := some 27) (v := ?_) (a' := ?_) #[true, true, true, false, false, false, false, false, false, false] rfl rfl (any_of HT_.out (by kernel_rfl)) (fun _ _ _ h => h) (Or.inl ⟨by rfl, ?_⟩) ?_ ?_
                    rotate_left
                    · intro w'
                      go_simp
                      with_reducible rfl
                    rotate_left
                    · simp only [Act.put, List.setIfInBounds_toArray, List.set_cons_zero, List.set_cons_succ, i64_w, i32_w]
                      rfl
                    refine pure_ (i := 4) (N := some 29) (v := ?_) (a' := ?_) #[true, true, true, false, true, false, false, false, false, false] rfl rfl (any_of HT_.out (by kernel_rfl)) (fun _ _ _ h => h) (Or.inl ⟨by rfl, ?_⟩) ?_ ?_
                    rotate_left
                    · intro w'
                      go_simp
                      with_reducible rfl
                    rotate_left
                    · simp only [Act.put, List.setIfInBounds_toArray, List.set_cons_zero, List.set_cons_succ, i64_w, i32_w]
                      rfl
                    refine pure_ (i := 5) (N := some 30) (v := ?_) (a' := ?_) #[true, true, true, false, true, true, false, false, false, false] rfl rfl (any_of HT_.out (by kernel_rfl)) (fun _ _ _ h => h) (Or.inl ⟨by rfl, ?_⟩) ?_ ?_
                    rotate_left
                    · intro w'
                      go_simp
                      with_reducible rfl
                    rotate_left
                    · simp only [Act.put, List.setIfInBounds_toArray, List.set_cons_zero, List.set_cons_succ, i64_w, i32_w]
                      rfl
                    refine pure_ (i := 6) (N := some 31) (v := ?_) (a' := ?_) #[true, true, true, false, true, true, true, false, false, false] rfl rfl (any_of HT_.out (by kernel_rfl)) (fun _ _ _ h => h) (Or.inl ⟨by rfl, ?_⟩) ?_ ?_
                    rotate_left
                    · intro w'
                      go_simp
                      with_reducible rfl
                    rotate_left
                    · simp only [Act.put, List.setIfInBounds_toArray, List.set_cons_zero, List.set_cons_succ, i64_w, i32_w]
                      rfl
                    refine pure_ (i := 7) (N := some 32) (v := ?_) (a' := ?_) #[true, true, true, false, true, true, true, true, false, false] rfl rfl (any_of HT_.out (by kernel_rfl)) (fun _ _ _ h => h) (Or.inl ⟨by rfl, ?_⟩) ?_ ?_
                    rotate_left
                    · intro w'
                      go_simp
                      with_reducible rfl
                    rotate_left
                    · simp only [Act.put, List.setIfInBounds_toArray, List.set_cons_zero, List.set_cons_succ, i64_w, i32_w]
                      rfl
                    refine take_ (i := 3) (N := some 28) (v := ?_) (a' := ?_) #[true, true, true, true, true, true, true, true, false, false] rfl rfl (take_ofW HT_.out HW_.out (by kernel_rfl)) (fun _ _ _ h => h) (Or.inl ⟨by rfl, ?_⟩) hHeld ?_ ?_
                    rotate_left
                    · rintro w' ⟨s0, s1, s2, s3, s4, s5, s6, s7, s8, s9, s10, s11, s12, s13, s14, s15⟩
                      go_simp
                      with_reducible rfl
                    rotate_left
                    · simp only [Act.put, List.setIfInBounds_toArray, List.set_cons_zero, List.set_cons_succ, i64_w, i32_w]
                      rfl
                    refine take_ (i := 8) (N := some 33) (v := ?_) (a' := ?_) #[true, true, true, true, true, true, true, true, true, false] rfl rfl (take_ofW HT_.out HW_.out (by kernel_rfl)) (fun _ _ _ h => h) (Or.inl ⟨by rfl, ?_⟩) hHeld ?_ ?_
                    rotate_left
                    · rintro w' ⟨s0, s1, s2, s3, s4, s5, s6, s7, s8, s9, s10, s11, s12, s13, s14, s15⟩
                      go_simp
                      with_reducible rfl
                    rotate_left
                    · simp only [Act.put, List.setIfInBounds_toArray, List.set_cons_zero, List.set_cons_succ, i64_w, i32_w]
                      rfl
                    refine one_ (i := 9) (N := some 34) #[true, true, true, true, true, true, true, true, true, true] rfl rfl (one_of HT_.out (by kernel_rfl)) (by decide) (fun K hK => ?_)
                    refine goes_ Try.func20 (by kernel_rfl) rfl #[.agg #[.int .u64 ((rd_T28 t247 x4_1).f0), .int .u64 ((rd_T28 t247 x4_1).f1), .int .u64 ((rd_T28 t247 x4_1).f2), .int .u64 ((rd_T28 t247 x4_1).f3), .int .u64 ((rd_T28 t247 x4_1).f4), .string ((rd_T28 t247 x4_1).f5), .string ((rd_T28 t247 x4_1).f6), .bool ((rd_T28 t247 x4_1).f7)], .agg #[.int .u64 ((rd_T28 t247 (ji11)).f0), .int .u64 ((rd_T28 t247 (ji11)).f1), .int .u64 ((rd_T28 t247 (ji11)).f2), .int .u64 ((rd_T28 t247 (ji11)).f3), .int .u64 ((rd_T28 t247 (ji11)).f4), .string ((rd_T28 t247 (ji11)).f5), .string ((rd_T28 t247 (ji11)).f6), .bool ((rd_T28 t247 (ji11)).f7)]] (by rfl) rfl rfl (by (try simp only [List.map_toArray, List.map_cons, List.map_nil]); first | done | (simp only [hji11]; rfl) | rfl | (simp only [List.length_drop, List.length_take]; rfl)) ?_
                    with_reducible refine (span_Less.calls k1 ((rd_T28 t247 x4_1).f0) ((rd_T28 t247 x4_1).f1) ((rd_T28 t247 x4_1).f2) ((rd_T28 t247 x4_1).f3) ((rd_T28 t247 x4_1).f4) ((rd_T28 t247 x4_1).f5) ((rd_T28 t247 x4_1).f6) ((rd_T28 t247 x4_1).f7) ((rd_T28 t247 (ji11)).f0) ((rd_T28 t247 (ji11)).f1) ((rd_T28 t247 (ji11)).f2) ((rd_T28 t247 (ji11)).f3) ((rd_T28 t247 (ji11)).f4) ((rd_T28 t247 (ji11)).f5) ((rd_T28 t247 (ji11)).f6) ((rd_T28 t247 (ji11)).f7) false _ A14.out).mono ?_
                    rintro e w17 ⟨rfl, hb⟩
                    have HS0_ := (hb.cell (World.block_lt_of_cell? _ _ (hHeld.1))).trans (hHeld.1)
                    have HS1_ := (hb.cell (World.block_lt_of_cell? _ _ (hHeld.2.1))).trans (hHeld.2.1)
                    have HS2_ := (hb.cell (World.block_lt_of_cell? _ _ (hHeld.2.2.1))).trans (hHeld.2.2.1)
                    have HS3_ := (hb.cell (World.block_lt_of_cell? _ _ (hHeld.2.2.2.1))).trans (hHeld.2.2.2.1)
                    have HS4_ := (hb.cell (World.block_lt_of_cell? _ _ (hHeld.2.2.2.2.1))).trans (hHeld.2.2.2.2.1)
                    have HS5_ := (hb.cell (World.block_lt_of_cell? _ _ (hHeld.2.2.2.2.2.1))).trans (hHeld.2.2.2.2.2.1)
                    have HS6_ := (hb.cell (World.block_lt_of_cell? _ _ (hHeld.2.2.2.2.2.2.1))).trans (hHeld.2.2.2.2.2.2.1)
                    have HS7_ := (hb.cell (World.block_lt_of_cell? _ _ (hHeld.2.2.2.2.2.2.2.1))).trans (hHeld.2.2.2.2.2.2.2.1)
                    have HS8_ := (hb.cell (World.block_lt_of_cell? _ _ (hHeld.2.2.2.2.2.2.2.2.1))).trans (hHeld.2.2.2.2.2.2.2.2.1)
                    have HS9_ := (hb.cell (World.block_lt_of_cell? _ _ (hHeld.2.2.2.2.2.2.2.2.2.1))).trans (hHeld.2.2.2.2.2.2.2.2.2.1)
                    have HS10_ := (hb.cell (World.block_lt_of_cell? _ _ (hHeld.2.2.2.2.2.2.2.2.2.2.1))).trans (hHeld.2.2.2.2.2.2.2.2.2.2.1)
                    have HS11_ := (hb.cell (World.block_lt_of_cell? _ _ (hHeld.2.2.2.2.2.2.2.2.2.2.2.1))).trans (hHeld.2.2.2.2.2.2.2.2.2.2.2.1)
                    have HS12_ := (hb.cell (World.block_lt_of_cell? _ _ (hHeld.2.2.2.2.2.2.2.2.2.2.2.2.1))).trans (hHeld.2.2.2.2.2.2.2.2.2.2.2.2.1)
                    have HS13_ := (hb.cell (World.block_lt_of_cell? _ _ (hHeld.2.2.2.2.2.2.2.2.2.2.2.2.2.1))).trans (hHeld.2.2.2.2.2.2.2.2.2.2.2.2.2.1)
                    have HS14_ := (hb.cell (World.block_lt_of_cell? _ _ (hHeld.2.2.2.2.2.2.2.2.2.2.2.2.2.2.1))).trans (hHeld.2.2.2.2.2.2.2.2.2.2.2.2.2.2.1)
                    have HS15_ := (hb.cell (World.block_lt_of_cell? _ _ (hHeld.2.2.2.2.2.2.2.2.2.2.2.2.2.2.2))).trans (hHeld.2.2.2.2.2.2.2.2.2.2.2.2.2.2.2)
                    refine ⟨_, rfl, ?_⟩
                    have n0_ := Aside0.mk (Kd.R_below (by (with_reducible repeat (first | apply Kd.R_alloc | apply Kd.R_drewN | apply Kd.R_drew)); exact HO_3.out) hb)
                    have n1_ := Aside0.mk (below_step (by repeat (first | (with_reducible first | exact HB.out | apply below_alloc | apply pw_below_drewN | apply below_drew1) | exact HB.out)) hb)
                    clear HO_3
                    clear HB
                    have HO_3 := n0_
                    have HB := n1_
                    clear n0_ n1_
                    (try clear hb)
                    (try clear hb2)
                    (try clear hk)
                    (try clear hi)
                    refine hK.out _ _ ⟨HS0_, HS1_, HS2_, HS3_, HS4_, HS5_, HS6_, HS7_, HS8_, HS9_, HS10_, HS11_, HS12_, HS13_, HS14_, HS15_⟩ (fun hHeld => ?_)
                    clear hK K
                    refine norm_ (a' := ?_) ?_ ?_
                    rotate_left
                    · show Act.put _ (some 34) _ = _
                      simp only [Act.put, List.setIfInBounds_toArray, List.set_cons_zero, List.set_cons_succ, i64_w, i32_w]
                      rfl
                    refine done_ (done_of HT_.out (by kernel_rfl)) ?_
                    try go_wp2
                    go_roundg k1
                    case measure => have := HK1.out; omega
                    case rel => exact ⟨(wrap64 (x4_1 + 1)), (by first | rfl | (simp; done) | (simp [*]; done)), H', ⟨by have := HK1.out; omega⟩, ⟨by (with_reducible repeat (first | apply Kd.R_alloc | apply Kd.R_drewN | apply Kd.R_drew)); exact HO_3.out⟩, ⟨by repeat (first | (with_reducible first | exact HB.out | apply below_alloc | apply pw_below_drewN | apply below_drew1) | exact HB.out)⟩⟩
                · rw [if_neg c13] at H
                  exact absurd H (by simp)
              · rw [if_neg c12] at H
                exact absurd H (by simp)
            · rw [if_neg c10] at H
              exact absurd H (by simp)
          · rw [if_neg c9] at H
            have c9b0 : decide (x4_1 < (t247.length : Int)) = false := decide_eq_false c9
            clear c9
            have H' := Aside0.mk H
            clear H
            go_wp2
            go_loopg [5] k1 (fun kq v5 w' => ∃ (x5_2 : Int), v5 = .int .i64 x5_2 ∧ Aside0 (winnowlaw03_SpanSorted.l1 kq l0 t247 x5_2 = some r) ∧ Aside0 (kq ≤ k1) ∧ Aside0 (Kd.R k28 28 w' w.heap.size (fun _ => True) (.slice Ao8 t247.length co8) t247) ∧ Aside0 (Below w.heap.size w w'))
            case atStart => exact ⟨(0), (by first | rfl | (simp; done) | (simp [*]; done)), H', ⟨Nat.le_refl _⟩, ⟨by (with_reducible repeat (first | apply Kd.R_alloc | apply Kd.R_drewN | apply Kd.R_drew)); exact HO_3.out⟩, ⟨by repeat (first | (with_reducible first | exact HB.out | apply below_alloc | apply pw_below_drewN | apply below_drew1) | exact HB.out)⟩⟩
            case round =>
              clear H'
              (try clear c1); (try clear c2); (try clear c2b0); (try clear c2b1); (try clear p2); (try clear q2); (try clear hx2); (try clear c6); (try clear c6b0); (try clear c6b1); (try clear c6b2); (try clear p6); (try clear c9); (try clear c9b0); (try clear c10); (try clear c10b0); (try clear c11); (try clear c12); (try clear c12b0); (try clear c13); (try clear c13b0); (try clear c14); (try clear c15); (try clear hx250_0); (try clear hx250_1); (try clear hx250_2); (try clear hx250_3); (try clear hx250_4); (try clear hx250_5); (try clear hx250_6); (try clear hx250_7); (try clear hx251_0); (try clear hx251_1); (try clear hx251_2); (try clear hx251_3); (try clear hx251_4); (try clear hx251_5); (try clear hx251_6); (try clear hx251_7); (try clear p2)
              (try clear p250); (try clear p251); (try clear q250); (try clear q251)
              obtain ⟨x5_2, rfl, HA, HK2, HO_3, HB⟩ := hrel
              cases gk with
              | zero => exact absurd HA.out (by simp [winnowlaw03_SpanSorted.l1])
              | succ k2 =>
                have H := HA.out
                clear HA
                simp only [winnowlaw03_SpanSorted.l1] at H
                by_cases c18 : x5_2 < (l0.length : Int)
                · rw [if_pos c18] at H
                  have c18b0 : decide (x5_2 < (l0.length : Int)) = true := decide_eq_true c18
                  clear c18
                  have H' := Aside0.mk H
                  clear H
                  go_wp2
                  go_loopg [6, 7] k2 (fun kq v6 v7 w' => ∃ (x6_3 : Int) (x7_3 : Int), v6 = .int .i64 x6_3 ∧ v7 = .int .i64 x7_3 ∧ Aside0 (winnowlaw03_SpanSorted.l2 kq l0 t247 x5_2 x6_3 x7_3 = some r) ∧ Aside0 (kq ≤ k2) ∧ Aside0 (Kd.R k28 28 w' w.heap.size (fun _ => True) (.slice Ao8 t247.length co8) t247) ∧ Aside0 (Below w.heap.size w w'))
                  case atStart => exact ⟨(0), (0), (by first | rfl | (simp; done) | (simp [*]; done)), (by first | rfl | (simp; done) | (simp [*]; done)), H', ⟨Nat.le_refl _⟩, ⟨by (with_reducible repeat (first | apply Kd.R_alloc | apply Kd.R_drewN | apply Kd.R_drew)); exact HO_3.out⟩, ⟨by repeat (first | (with_reducible first | exact HB.out | apply below_alloc | apply pw_below_drewN | apply below_drew1) | exact HB.out)⟩⟩
                  case round =>
                    clear H'
                    (try clear c1); (try clear c2); (try clear c2b0); (try clear c2b1); (try clear p2); (try clear q2); (try clear hx2); (try clear c6); (try clear c6b0); (try clear c6b1); (try clear c6b2); (try clear p6); (try clear c9); (try clear c9b0); (try clear c10); (try clear c10b0); (try clear c11); (try clear c12); (try clear c12b0); (try clear c13); (try clear c13b0); (try clear c14); (try clear c15); (try clear c18); (try clear c18b0); (try clear hx250_0); (try clear hx250_1); (try clear hx250_2); (try clear hx250_3); (try clear hx250_4); (try clear hx250_5); (try clear hx250_6); (try clear hx250_7); (try clear hx251_0); (try clear hx251_1); (try clear hx251_2); (try clear hx251_3); (try clear hx251_4); (try clear hx251_5); (try clear hx251_6)
                    (try clear hx251_7); (try clear p2); (try clear p250); (try clear p251); (try clear p6); (try clear q2); (try clear q250); (try clear q251)
                    obtain ⟨x6_3, x7_3, rfl, rfl, HA, HK3, HO_3, HB⟩ := hrel
                    cases gk with
                    | zero => exact absurd HA.out (by simp [winnowlaw03_SpanSorted.l2])
                    | succ k3 =>
                      have H := HA.out
                      clear HA
                      simp only [winnowlaw03_SpanSorted.l2] at H
                      by_cases c19 : x7_3 < (l0.length : Int)
                      · rw [if_pos c19] at H
                        have c19b0 : decide (x7_3 < (l0.length : Int)) = true := decide_eq_true c19
                        clear c19
                        by_cases c20 : 0 ≤ x7_3
                        · rw [if_pos c20] at H
                          have c20b0 : decide (0 ≤ x7_3) = true := decide_eq_true c20
                          clear c20
                          by_cases c21 : 0 ≤ x5_2
                          · rw [if_pos c21] at H
                            have c21b0 : decide (0 ≤ x5_2) = true := decide_eq_true c21
                            clear c21
                            by_cases c22 : x5_2 < (l0.length : Int)
                            · rw [if_pos c22] at H
                              have c22b0 : decide (x5_2 < (l0.length : Int)) = true := decide_eq_true c22
                              clear c22
                              by_cases c23 : (((rd_T28 l0 x7_3).f0) == ((rd_T28 l0 x5_2).f0) && (((rd_T28 l0 x7_3).f1) == ((rd_T28 l0 x5_2).f1) && (((rd_T28 l0 x7_3).f2) == ((rd_T28 l0 x5_2).f2) && (((rd_T28 l0 x7_3).f3) == ((rd_T28 l0 x5_2).f3) && (((rd_T28 l0 x7_3).f4) == ((rd_T28 l0 x5_2).f4) && ((((rd_T28 l0 x7_3).f5).toList) == (((rd_T28 l0 x5_2).f5).toList) && ((((rd_T28 l0 x7_3).f6).toList) == (((rd_T28 l0 x5_2).f6).toList) && (((rd_T28 l0 x7_3).f7) == ((rd_T28 l0 x5_2).f7))))))))) = true
                              · rw [if_pos c23] at H
                                have c23b0 : (((rd_T28 l0 x7_3).f0) == ((rd_T28 l0 x5_2).f0) && (((rd_T28 l0 x7_3).f1) == ((rd_T28 l0 x5_2).f1) && (((rd_T28 l0 x7_3).f2) == ((rd_T28 l0 x5_2).f2) && (((rd_T28 l0 x7_3).f3) == ((rd_T28 l0 x5_2).f3) && (((rd_T28 l0 x7_3).f4) == ((rd_T28 l0 x5_2).f4) && ((((rd_T28 l0 x7_3).f5).toList) == (((rd_T28 l0 x5_2).f5).toList) && ((((rd_T28 l0 x7_3).f6).toList) == (((rd_T28 l0 x5_2).f6).toList) && (((rd_T28 l0 x7_3).f7) == ((rd_T28 l0 x5_2).f7))))))))) = true := c23
                                (try (have c23b1 : decide (((rd_T28 l0 x7_3).f0) = ((rd_T28 l0 x5_2).f0) && (((rd_T28 l0 x7_3).f1) == ((rd_T28 l0 x5_2).f1) && (((rd_T28 l0 x7_3).f2) == ((rd_T28 l0 x5_2).f2) && (((rd_T28 l0 x7_3).f3) == ((rd_T28 l0 x5_2).f3) && (((rd_T28 l0 x7_3).f4) == ((rd_T28 l0 x5_2).f4) && ((((rd_T28 l0 x7_3).f5).toList) == (((rd_T28 l0 x5_2).f5).toList) && ((((rd_T28 l0 x7_3).f6).toList) == (((rd_T28 l0 x5_2).f6).toList) && (((rd_T28 l0 x7_3).f7) == ((rd_T28 l0 x5_2).f7))))))))) = true := by simpa using c23))
                                (try (have c23b2 : (((rd_T28 l0 x7_3).f0) == ((rd_T28 l0 x5_2).f0) && (((rd_T28 l0 x7_3).f1) == ((rd_T28 l0 x5_2).f1) && (((rd_T28 l0 x7_3).f2) == ((rd_T28 l0 x5_2).f2) && (((rd_T28 l0 x7_3).f3) == ((rd_T28 l0 x5_2).f3) && (((rd_T28 l0 x7_3).f4) == ((rd_T28 l0 x5_2).f4) && ((((rd_T28 l0 x7_3).f5).toList) == (((rd_T28 l0 x5_2).f5).toList) && ((((rd_T28 l0 x7_3).f6).toList) == (((rd_T28 l0 x5_2).f6).toList) && (((rd_T28 l0 x7_3).f7) == ((rd_T28 l0 x5_2).f7))))))))) = true := by simpa using c23))
                                clear c23
                                by_cases c24 : x7_3 < (t247.length : Int)
                                · rw [if_pos c24] at H
                                  have c24b0 : decide (x7_3 < (t247.length : Int)) = true := decide_eq_true c24
                                  clear c24
                                  by_cases c25 : (((rd_T28 t247 x7_3).f0) == ((rd_T28 l0 x5_2).f0) && (((rd_T28 t247 x7_3).f1) == ((rd_T28 l0 x5_2).f1) && (((rd_T28 t247 x7_3).f2) == ((rd_T28 l0 x5_2).f2) && (((rd_T28 t247 x7_3).f3) == ((rd_T28 l0 x5_2).f3) && (((rd_T28 t247 x7_3).f4) == ((rd_T28 l0 x5_2).f4) && ((((rd_T28 t247 x7_3).f5).toList) == (((rd_T28 l0 x5_2).f5).toList) && ((((rd_T28 t247 x7_3).f6).toList) == (((rd_T28 l0 x5_2).f6).toList) && (((rd_T28 t247 x7_3).f7) == ((rd_T28 l0 x5_2).f7))))))))) = true
                                  · rw [if_pos c25] at H
                                    have c25b0 : (((rd_T28 t247 x7_3).f0) == ((rd_T28 l0 x5_2).f0) && (((rd_T28 t247 x7_3).f1) == ((rd_T28 l0 x5_2).f1) && (((rd_T28 t247 x7_3).f2) == ((rd_T28 l0 x5_2).f2) && (((rd_T28 t247 x7_3).f3) == ((rd_T28 l0 x5_2).f3) && (((rd_T28 t247 x7_3).f4) == ((rd_T28 l0 x5_2).f4) && ((((rd_T28 t247 x7_3).f5).toList) == (((rd_T28 l0 x5_2).f5).toList) && ((((rd_T28 t247 x7_3).f6).toList) == (((rd_T28 l0 x5_2).f6).toList) && (((rd_T28 t247 x7_3).f7) == ((rd_T28 l0 x5_2).f7))))))))) = true := c25
                                    (try (have c25b1 : decide (((rd_T28 t247 x7_3).f0) = ((rd_T28 l0 x5_2).f0) && (((rd_T28 t247 x7_3).f1) == ((rd_T28 l0 x5_2).f1) && (((rd_T28 t247 x7_3).f2) == ((rd_T28 l0 x5_2).f2) && (((rd_T28 t247 x7_3).f3) == ((rd_T28 l0 x5_2).f3) && (((rd_T28 t247 x7_3).f4) == ((rd_T28 l0 x5_2).f4) && ((((rd_T28 t247 x7_3).f5).toList) == (((rd_T28 l0 x5_2).f5).toList) && ((((rd_T28 t247 x7_3).f6).toList) == (((rd_T28 l0 x5_2).f6).toList) && (((rd_T28 t247 x7_3).f7) == ((rd_T28 l0 x5_2).f7))))))))) = true := by simpa using c25))
                                    (try (have c25b2 : (((rd_T28 t247 x7_3).f0) == ((rd_T28 l0 x5_2).f0) && (((rd_T28 t247 x7_3).f1) == ((rd_T28 l0 x5_2).f1) && (((rd_T28 t247 x7_3).f2) == ((rd_T28 l0 x5_2).f2) && (((rd_T28 t247 x7_3).f3) == ((rd_T28 l0 x5_2).f3) && (((rd_T28 t247 x7_3).f4) == ((rd_T28 l0 x5_2).f4) && ((((rd_T28 t247 x7_3).f5).toList) == (((rd_T28 l0 x5_2).f5).toList) && ((((rd_T28 t247 x7_3).f6).toList) == (((rd_T28 l0 x5_2).f6).toList) && (((rd_T28 t247 x7_3).f7) == ((rd_T28 l0 x5_2).f7))))))))) = true := by simpa using c25))
                                    clear c25
                                    have H' := Aside0.mk H
                                    clear H
                                    try go_wp2
                                    have n0_ := Aside0.mk (Kd.R_drew HO_3.out)
                                    have n1_ := Aside0.mk (below_drew1 HB.out)
                                    clear HO_3
                                    clear HB
                                    have HO_3 := n0_
                                    have HB := n1_
                                    clear n0_ n1_
                                    have p254 : 0 ≤ (x7_3 : Int) := of_decide_eq_true (by first | (with_reducible assumption) | assumption)
                                    have q254 : x7_3 < (l0.length : Int) := of_decide_eq_true (by first | (with_reducible assumption) | assumption)
                                    obtain ⟨ad254, e254, hx254_0, hx254_1, hx254_2, hx254_3, hx254_4, hx254_5, hx254_6, hx254_7⟩ := at_T28 HR0.out x7_3 p254 q254
                                    have hw254_7 := hx254_7
                                    have hw254_6 := hx254_6
                                    have hw254_5 := hx254_5
                                    have hw254_4 := hx254_4
                                    have hw254_3 := hx254_3
                                    have hw254_2 := hx254_2
                                    have hw254_1 := hx254_1
                                    have hw254_0 := hx254_0
                                    cases e254
                                    replace hx254_0 := (HB.out.cell (World.block_lt_of_cell? w _ hx254_0)).trans hx254_0
                                    replace hx254_1 := (HB.out.cell (World.block_lt_of_cell? w _ hx254_1)).trans hx254_1
                                    replace hx254_2 := (HB.out.cell (World.block_lt_of_cell? w _ hx254_2)).trans hx254_2
                                    replace hx254_3 := (HB.out.cell (World.block_lt_of_cell? w _ hx254_3)).trans hx254_3
                                    replace hx254_4 := (HB.out.cell (World.block_lt_of_cell? w _ hx254_4)).trans hx254_4
                                    replace hx254_5 := (HB.out.cell (World.block_lt_of_cell? w _ hx254_5)).trans hx254_5
                                    replace hx254_6 := (HB.out.cell (World.block_lt_of_cell? w _ hx254_6)).trans hx254_6
                                    replace hx254_7 := (HB.out.cell (World.block_lt_of_cell? w _ hx254_7)).trans hx254_7
                                    replace p254 := eq_true p254
                                    replace q254 := eq_true q254
                                    have p255 : 0 ≤ (x5_2 : Int) := of_decide_eq_true (by first | (with_reducible assumption) | assumption)
                                    have q255 : x5_2 < (l0.length : Int) := of_decide_eq_true (by first | (with_reducible assumption) | assumption)
                                    obtain ⟨ad255, e255, hx255_0, hx255_1, hx255_2, hx255_3, hx255_4, hx255_5, hx255_6, hx255_7⟩ := at_T28 HR0.out x5_2 p255 q255
                                    have hw255_7 := hx255_7
                                    have hw255_6 := hx255_6
                                    have hw255_5 := hx255_5
                                    have hw255_4 := hx255_4
                                    have hw255_3 := hx255_3
                                    have hw255_2 := hx255_2
                                    have hw255_1 := hx255_1
                                    have hw255_0 := hx255_0
                                    obtain rfl : ad254 = ad255 := (by injection e255)
                                    replace hx255_0 := (HB.out.cell (World.block_lt_of_cell? w _ hx255_0)).trans hx255_0
                                    replace hx255_1 := (HB.out.cell (World.block_lt_of_cell? w _ hx255_1)).trans hx255_1
                                    replace hx255_2 := (HB.out.cell (World.block_lt_of_cell? w _ hx255_2)).trans hx255_2
                                    replace hx255_3 := (HB.out.cell (World.block_lt_of_cell? w _ hx255_3)).trans hx255_3
                                    replace hx255_4 := (HB.out.cell (World.block_lt_of_cell? w _ hx255_4)).trans hx255_4
                                    replace hx255_5 := (HB.out.cell (World.block_lt_of_cell? w _ hx255_5)).trans hx255_5
                                    replace hx255_6 := (HB.out.cell (World.block_lt_of_cell? w _ hx255_6)).trans hx255_6
                                    replace hx255_7 := (HB.out.cell (World.block_lt_of_cell? w _ hx255_7)).trans hx255_7
                                    replace p255 := eq_true p255
                                    replace q255 := eq_true q255
                                    refine start_ (n := 9) (S := fun w' => w'.cell? (ad254.add ((x7_3).toNat * 8)) = some (.int .u64 ((rd_T28 l0 x7_3).f0)) ∧ w'.cell? ⟨(ad254.add ((x7_3).toNat * 8)).block, (ad254.add ((x7_3).toNat * 8)).off + 1, none⟩ = some (.int .u64 ((rd_T28 l0 x7_3).f1)) ∧ w'.cell? ⟨(ad254.add ((x7_3).toNat * 8)).block, (ad254.add ((x7_3).toNat * 8)).off + 2, none⟩ = some (.int .u64 ((rd_T28 l0 x7_3).f2)) ∧ w'.cell? ⟨(ad254.add ((x7_3).toNat * 8)).block, (ad254.add ((x7_3).toNat * 8)).off + 3, none⟩ = some (.int .u64 ((rd_T28 l0 x7_3).f3)) ∧ w'.cell? ⟨(ad254.add ((x7_3).toNat * 8)).block, (ad254.add ((x7_3).toNat * 8)).off + 4, none⟩ = some (.int .u64 ((rd_T28 l0 x7_3).f4)) ∧ w'.cell? ⟨(ad254.add ((x7_3).toNat * 8)).block, (ad254.add ((x7_3).toNat * 8)).off + 5, none⟩ = some (.string ((rd_T28 l0 x7_3).f5)) ∧ w'.cell? ⟨(ad254.add ((x7_3).toNat * 8)).block, (ad254.add ((x7_3).toNat * 8)).off + 6, none⟩ = some (.string ((rd_T28 l0 x7_3).f6)) ∧ w'.cell? ⟨(ad254.add ((x7_3).toNat * 8)).block, (ad254.add ((x7_3).toNat * 8)).off + 7, none⟩ = some (.bool ((rd_T28 l0 x7_3).f7)) ∧ w'.cell? (ad254.add ((x5_2).toNat * 8)) = some (.int .u64 ((rd_T28 l0 x5_2).f0)) ∧ w'.cell? ⟨(ad254.add ((x5_2).toNat * 8)).block, (ad254.add ((x5_2).toNat * 8)).off + 1, none⟩ = some (.int .u64 ((rd_T28 l0 x5_2).f1)) ∧ w'.cell? ⟨(ad254.add ((x5_2).toNat * 8)).block, (ad254.add ((x5_2).toNat * 8)).off + 2, none⟩ = some (.int .u64 ((rd_T28 l0 x5_2).f2)) ∧ w'.cell? ⟨(ad254.add ((x5_2).toNat * 8)).block, (ad254.add ((x5_2).toNat * 8)).off + 3, none⟩ = some (.int .u64 ((rd_T28 l0 x5_2).f3)) ∧ w'.cell? ⟨(ad254.add ((x5_2).toNat * 8)).block, (ad254.add ((x5_2).toNat * 8)).off + 4, none⟩ = some (.int .u64 ((rd_T28 l0 x5_2).f4)) ∧ w'.cell? ⟨(ad254.add ((x5_2).toNat * 8)).block, (ad254.add ((x5_2).toNat * 8)).off + 5, none⟩ = some (.string ((rd_T28 l0 x5_2).f5)) ∧ w'.cell? ⟨(ad254.add ((x5_2).toNat * 8)).block, (ad254.add ((x5_2).toNat * 8)).off + 6, none⟩ = some (.string ((rd_T28 l0 x5_2).f6)) ∧ w'.cell? ⟨(ad254.add ((x5_2).toNat * 8)).block, (ad254.add ((x5_2).toNat * 8)).off + 7, none⟩ = some (.bool ((rd_T28 l0 x5_2).f7))) (ds := []) #[false, false, false, false, false, false, false, false, false] (by kernel_rfl) rfl rfl ⟨((HB.out.cell (World.block_lt_of_cell? w _ hw254_0)).trans hw254_0), ((HB.out.cell (World.block_lt_of_cell? w _ hw254_1)).trans hw254_1), ((HB.out.cell (World.block_lt_of_cell? w _ hw254_2)).trans hw254_2), ((HB.out.cell (World.block_lt_of_cell? w _ hw254_3)).trans hw254_3), ((HB.out.cell (World.block_lt_of_cell? w _ hw254_4)).trans hw254_4), ((HB.out.cell (World.block_lt_of_cell? w _ hw254_5)).trans hw254_5), ((HB.out.cell (World.block_lt_of_cell? w _ hw254_6)).trans hw254_6), ((HB.out.cell (World.block_lt_of_cell? w _ hw254_7)).trans hw254_7), ((HB.out.cell (World.block_lt_of_cell? w _ hw255_0)).trans hw255_0), ((HB.out.cell (World.block_lt_of_cell? w _ hw255_1)).trans hw255_1), ((HB.out.cell (World.block_lt_of_cell? w _ hw255_2)).trans hw255_2), ((HB.out.cell (World.block_lt_of_cell? w _ hw255_3)).trans hw255_3), ((HB.out.cell (World.block_lt_of_cell? w _ hw255_4)).trans hw255_4), ((HB.out.cell (World.block_lt_of_cell? w _ hw255_5)).trans hw255_5), ((HB.out.cell (World.block_lt_of_cell? w _ hw255_6)).trans hw255_6), ((HB.out.cell (World.block_lt_of_cell? w _ hw255_7)).trans hw255_7)⟩ (fun hHeld => ?_); refine with_tabW winnowlaw03_SpanSorted.tab18 winnowlaw03_SpanSorted.bits18 (fun HT_ HW_ => ?_)
                                    generalize wr.drew = w26 at HO_3 HB hx254_0 hx254_1 hx254_2 hx254_3 hx254_4 hx254_5 hx254_6 hx254_7 hx255_0 hx255_1 hx255_2 hx255_3 hx255_4 hx255_5 hx255_6 hx255_7 hHeld ⊢
                                    refine pure_ (i := 0) (N := some 47) (v := ?_) (a' := ?_) #[true, false, false, false, false, false, false, false, false] rfl rfl (any_of HT_.out (by kernel_rfl)) (fun _ _ _ h => h) (Or.inl ⟨by rfl, ?_⟩) ?_ ?_
                                    rotate_left
                                    · intro w'
                                      go_simp
                                      with_reducible rfl
                                    rotate_left
                                    · simp only [Act.put, List.setIfInBounds_toArray, List.set_cons_zero, List.set_cons_succ, i64_w, i32_w]
                                      rfl
                                    refine pure_ (i := 1) (N := some 48) (v := ?_) (a' := ?_) #[true, true, false, false, false, false, false, false, false] rfl rfl (any_of HT_.out (by kernel_rfl)) (fun _ _ _ h => h) (Or.inl ⟨by rfl, ?_⟩) ?_ ?_
                                    rotate_left
                                    · intro w'
                                      go_simp
                                      with_reducible rfl
                                    rotate_left
                                    · simp only [Act.put, List.setIfInBounds_toArray, List.set_cons_zero, List.set_cons_succ, i64_w, i32_w]
                                      rfl
                                    refine pure_ (i := 2) (N := some 49) (v := ?_) (a' := ?_) #[true, true, true, false, false, false, false, false, false] rfl rfl (any_of HT_.out (by kernel_rfl)) (fun _ _ _ h => h) (Or.inl ⟨by rfl, ?_⟩) ?_ ?_
                                    rotate_left
                                    · intro w'
                                      go_simp
                                      with_reducible rfl
                                    rotate_left
                                    · simp only [Act.put, List.setIfInBounds_toArray, List.set_cons_zero, List.set_cons_succ, i64_w, i32_w]
                                      rfl
                                    refine pure_ (i := 4) (N := some 51) (v := ?_) (a' := ?_) #[true, true, true, false, true, false, false, false, false] rfl rfl (any_of HT_.out (by kernel_rfl)) (fun _ _ _ h => h) (Or.inl ⟨by rfl, ?_⟩) ?_ ?_
                                    rotate_left
                                    · intro w'
                                      go_simp
                                      with_reducible rfl
                                    rotate_left
                                    · simp only [Act.put, List.setIfInBounds_toArray, List.set_cons_zero, List.set_cons_succ, i64_w, i32_w]
                                      rfl
                                    refine pure_ (i := 5) (N := some 52) (v := ?_) (a' := ?_) #[true, true, true, false, true, true, false, false, false] rfl rfl (any_of HT_.out (by kernel_rfl)) (fun _ _ _ h => h) (Or.inl ⟨by rfl, ?_⟩) ?_ ?_
                                    rotate_left
                                    · intro w'
                                      go_simp
                                      with_reducible rfl
                                    rotate_left
                                    · simp only [Act.put, List.setIfInBounds_toArray, List.set_cons_zero, List.set_cons_succ, i64_w, i32_w]
                                      rfl
                                    refine pure_ (i := 6) (N := some 53) (v := ?_) (a' := ?_) #[true, true, true, false, true, true, true, false, false] rfl rfl (any_of HT_.out (by kernel_rfl)) (fun _ _ _ h => h) (Or.inl ⟨by rfl, ?_⟩) ?_ ?_
                                    rotate_left
                                    · intro w'
                                      go_simp
                                      with_reducible rfl
                                    rotate_left
                                    · simp only [Act.put, List.setIfInBounds_toArray, List.set_cons_zero, List.set_cons_succ, i64_w, i32_w]
                                      rfl
                                    refine take_ (i := 3) (N := some 50) (v := ?_) (a' := ?_) #[true, true, true, true, true, true, true, false, false] rfl rfl (take_ofW HT_.out HW_.out (by kernel_rfl)) (fun _ _ _ h => h) (Or.inl ⟨by rfl, ?_⟩) hHeld ?_ ?_
                                    rotate_left
                                    · rintro w' ⟨s0, s1, s2, s3, s4, s5, s6, s7, s8, s9, s10, s11, s12, s13, s14, s15⟩
                                      go_simp
                                      with_reducible rfl
                                    rotate_left
                                    · simp only [Act.put, List.setIfInBounds_toArray, List.set_cons_zero, List.set_cons_succ, i64_w, i32_w]
                                      rfl
                                    refine take_ (i := 7) (N := some 54) (v := ?_) (a' := ?_) #[true, true, true, true, true, true, true, true, false] rfl rfl (take_ofW HT_.out HW_.out (by kernel_rfl)) (fun _ _ _ h => h) (Or.inl ⟨by rfl, ?_⟩) hHeld ?_ ?_
                                    rotate_left
                                    · rintro w' ⟨s0, s1, s2, s3, s4, s5, s6, s7, s8, s9, s10, s11, s12, s13, s14, s15⟩
                                      go_simp
                                      with_reducible rfl
                                    rotate_left
                                    · simp only [Act.put, List.setIfInBounds_toArray, List.set_cons_zero, List.set_cons_succ, i64_w, i32_w]
                                      rfl
                                    refine pure_ (i := 8) (N := some 55) (v := ?_) (a' := ?_) #[true, true, true, true, true, true, true, true, true] rfl rfl (any_of HT_.out (by kernel_rfl)) (fun _ _ _ h => h) (Or.inl ⟨by rfl, ?_⟩) ?_ ?_
                                    rotate_left
                                    · intro w'
                                      go_simp
                                      with_reducible rfl
                                    rotate_left
                                    · simp only [Act.put, List.setIfInBounds_toArray, List.set_cons_zero, List.set_cons_succ, i64_w, i32_w]
                                      rfl
                                    refine done_ (done_of HT_.out (by kernel_rfl)) ?_
                                    try go_wp2
                                    have n0_ := Aside0.mk (Kd.R_drew HO_3.out)
                                    have n1_ := Aside0.mk (below_drew1 HB.out)
                                    clear HO_3
                                    clear HB
                                    have HO_3 := n0_
                                    have HB := n1_
                                    clear n0_ n1_
                                    have p256 : 0 ≤ (x7_3 : Int) := of_decide_eq_true (by first | (with_reducible assumption) | assumption)
                                    have q256 : x7_3 < (t247.length : Int) := of_decide_eq_true (by first | (with_reducible assumption) | assumption)
                                    obtain ⟨ad256, e256, hx256_0, hx256_1, hx256_2, hx256_3, hx256_4, hx256_5, hx256_6, hx256_7⟩ := at_T28 (Kd.R_reads' HO_3.out).2.2 x7_3 p256 q256
                                    cases e256
                                    replace p256 := eq_true p256
                                    replace q256 := eq_true q256
                                    have p257 : 0 ≤ (x5_2 : Int) := of_decide_eq_true (by first | (with_reducible assumption) | assumption)
                                    have q257 : x5_2 < (l0.length : Int) := of_decide_eq_true (by first | (with_reducible assumption) | assumption)
                                    obtain ⟨ad257, e257, hx257_0, hx257_1, hx257_2, hx257_3, hx257_4, hx257_5, hx257_6, hx257_7⟩ := at_T28 HR0.out x5_2 p257 q257
                                    have hw257_7 := hx257_7
                                    have hw257_6 := hx257_6
                                    have hw257_5 := hx257_5
                                    have hw257_4 := hx257_4
                                    have hw257_3 := hx257_3
                                    have hw257_2 := hx257_2
                                    have hw257_1 := hx257_1
                                    have hw257_0 := hx257_0
                                    obtain rfl : ad254 = ad257 := (by injection e257)
                                    replace hx257_0 := (HB.out.cell (World.block_lt_of_cell? w _ hx257_0)).trans hx257_0
                                    replace hx257_1 := (HB.out.cell (World.block_lt_of_cell? w _ hx257_1)).trans hx257_1
                                    replace hx257_2 := (HB.out.cell (World.block_lt_of_cell? w _ hx257_2)).trans hx257_2
                                    replace hx257_3 := (HB.out.cell (World.block_lt_of_cell? w _ hx257_3)).trans hx257_3
                                    replace hx257_4 := (HB.out.cell (World.block_lt_of_cell? w _ hx257_4)).trans hx257_4
                                    replace hx257_5 := (HB.out.cell (World.block_lt_of_cell? w _ hx257_5)).trans hx257_5
                                    replace hx257_6 := (HB.out.cell (World.block_lt_of_cell? w _ hx257_6)).trans hx257_6
                                    replace hx257_7 := (HB.out.cell (World.block_lt_of_cell? w _ hx257_7)).trans hx257_7
                                    replace p257 := eq_true p257
                                    replace q257 := eq_true q257
                                    refine start_ (n := 9) (S := fun w' => w'.cell? (ad256.add ((x7_3).toNat * 8)) = some (.int .u64 ((rd_T28 t247 x7_3).f0)) ∧ w'.cell? ⟨(ad256.add ((x7_3).toNat * 8)).block, (ad256.add ((x7_3).toNat * 8)).off + 1, none⟩ = some (.int .u64 ((rd_T28 t247 x7_3).f1)) ∧ w'.cell? ⟨(ad256.add ((x7_3).toNat * 8)).block, (ad256.add ((x7_3).toNat * 8)).off + 2, none⟩ = some (.int .u64 ((rd_T28 t247 x7_3).f2)) ∧ w'.cell? ⟨(ad256.add ((x7_3).toNat * 8)).block, (ad256.add ((x7_3).toNat * 8)).off + 3, none⟩ = some (.int .u64 ((rd_T28 t247 x7_3).f3)) ∧ w'.cell? ⟨(ad256.add ((x7_3).toNat * 8)).block, (ad256.add ((x7_3).toNat * 8)).off + 4, none⟩ = some (.int .u64 ((rd_T28 t247 x7_3).f4)) ∧ w'.cell? ⟨(ad256.add ((x7_3).toNat * 8)).block, (ad256.add ((x7_3).toNat * 8)).off + 5, none⟩ = some (.string ((rd_T28 t247 x7_3).f5)) ∧ w'.cell? ⟨(ad256.add ((x7_3).toNat * 8)).block, (ad256.add ((x7_3).toNat * 8)).off + 6, none⟩ = some (.string ((rd_T28 t247 x7_3).f6)) ∧ w'.cell? ⟨(ad256.add ((x7_3).toNat * 8)).block, (ad256.add ((x7_3).toNat * 8)).off + 7, none⟩ = some (.bool ((rd_T28 t247 x7_3).f7)) ∧ w'.cell? (ad254.add ((x5_2).toNat * 8)) = some (.int .u64 ((rd_T28 l0 x5_2).f0)) ∧ w'.cell? ⟨(ad254.add ((x5_2).toNat * 8)).block, (ad254.add ((x5_2).toNat * 8)).off + 1, none⟩ = some (.int .u64 ((rd_T28 l0 x5_2).f1)) ∧ w'.cell? ⟨(ad254.add ((x5_2).toNat * 8)).block, (ad254.add ((x5_2).toNat * 8)).off + 2, none⟩ = some (.int .u64 ((rd_T28 l0 x5_2).f2)) ∧ w'.cell? ⟨(ad254.add ((x5_2).toNat * 8)).block, (ad254.add ((x5_2).toNat * 8)).off + 3, none⟩ = some (.int .u64 ((rd_T28 l0 x5_2).f3)) ∧ w'.cell? ⟨(ad254.add ((x5_2).toNat * 8)).block, (ad254.add ((x5_2).toNat * 8)).off + 4, none⟩ = some (.int .u64 ((rd_T28 l0 x5_2).f4)) ∧ w'.cell? ⟨(ad254.add ((x5_2).toNat * 8)).block, (ad254.add ((x5_2).toNat * 8)).off + 5, none⟩ = some (.string ((rd_T28 l0 x5_2).f5)) ∧ w'.cell? ⟨(ad254.add ((x5_2).toNat * 8)).block, (ad254.add ((x5_2).toNat * 8)).off + 6, none⟩ = some (.string ((rd_T28 l0 x5_2).f6)) ∧ w'.cell? ⟨(ad254.add ((x5_2).toNat * 8)).block, (ad254.add ((x5_2).toNat * 8)).off + 7, none⟩ = some (.bool ((rd_T28 l0 x5_2).f7))) (ds := []) #[false, false, false, false, false, false, false, false, false] (by kernel_rfl) rfl rfl ⟨hx256_0, hx256_1, hx256_2, hx256_3, hx256_4, hx256_5, hx256_6, hx256_7, ((HB.out.cell (World.block_lt_of_cell? w _ hw257_0)).trans hw257_0), ((HB.out.cell (World.block_lt_of_cell? w _ hw257_1)).trans hw257_1), ((HB.out.cell (World.block_lt_of_cell? w _ hw257_2)).trans hw257_2), ((HB.out.cell (World.block_lt_of_cell? w _ hw257_3)).trans hw257_3), ((HB.out.cell (World.block_lt_of_cell? w _ hw257_4)).trans hw257_4), ((HB.out.cell (World.block_lt_of_cell? w _ hw257_5)).trans hw257_5), ((HB.out.cell (World.block_lt_of_cell? w _ hw257_6)).trans hw257_6), ((HB.out.cell (World.block_lt_of_cell? w _ hw257_7)).trans hw257_7)⟩ (fun hHeld => ?_); refine with_tabW winnowlaw03_SpanSorted.tab20 winnowlaw03_SpanSorted.bits20 (fun HT_ HW_ => ?_)
                                    generalize w26.drew = w27 at HO_3 HB hx256_0 hx256_1 hx256_2 hx256_3 hx256_4 hx256_5 hx256_6 hx256_7 hx257_0 hx257_1 hx257_2 hx257_3 hx257_4 hx257_5 hx257_6 hx257_7 hHeld ⊢
                                    refine pure_ (i := 0) (N := some 58) (v := ?_) (a' := ?_) #[true, false, false, false, false, false, false, false, false] rfl rfl (any_of HT_.out (by kernel_rfl)) (fun _ _ _ h => h) (Or.inl ⟨by rfl, ?_⟩) ?_ ?_
                                    rotate_left
                                    · intro w'
                                      go_simp
                                      with_reducible rfl
                                    rotate_left
                                    · simp only [Act.put, List.setIfInBounds_toArray, List.set_cons_zero, List.set_cons_succ, i64_w, i32_w]
                                      rfl
                                    refine pure_ (i := 1) (N := some 59) (v := ?_) (a' := ?_) #[true, true, false, false, false, false, false, false, false] rfl rfl (any_of HT_.out (by kernel_rfl)) (fun _ _ _ h => h) (Or.inl ⟨by rfl, ?_⟩) ?_ ?_
                                    rotate_left
                                    · intro w'
                                      go_simp
                                      with_reducible rfl
                                    rotate_left
                                    · simp only [Act.put, List.setIfInBounds_toArray, List.set_cons_zero, List.set_cons_succ, i64_w, i32_w]
                                      rfl
                                    refine pure_ (i := 2) (N := some 60) (v := ?_) (a' := ?_) #[true, true, true, false, false, false, false, false, false] rfl rfl (any_of HT_.out (by kernel_rfl)) (fun _ _ _ h => h) (Or.inl ⟨by rfl, ?_⟩) ?_ ?_
                                    rotate_left
                                    · intro w'
                                      go_simp
                                      with_reducible rfl
                                    rotate_left
                                    · simp only [Act.put, List.setIfInBounds_toArray, List.set_cons_zero, List.set_cons_succ, i64_w, i32_w]
                                      rfl
                                    refine pure_ (i := 4) (N := some 62) (v := ?_) (a' := ?_) #[true, true, true, false, true, false, false, false, false] rfl rfl (any_of HT_.out (by kernel_rfl)) (fun _ _ _ h => h) (Or.inl ⟨by rfl, ?_⟩) ?_ ?_
                                    rotate_left
                                    · intro w'
                                      go_simp
                                      with_reducible rfl
                                    rotate_left
                                    · simp only [Act.put, List.setIfInBounds_toArray, List.set_cons_zero, List.set_cons_succ, i64_w, i32_w]
                                      rfl
                                    refine pure_ (i := 5) (N := some 63) (v := ?_) (a' := ?_) #[true, true, true, false, true, true, false, false, false] rfl rfl (any_of HT_.out (by kernel_rfl)) (fun _ _ _ h => h) (Or.inl ⟨by rfl, ?_⟩) ?_ ?_
                                    rotate_left
                                    · intro w'
                                      go_simp
                                      with_reducible rfl
                                    rotate_left
                                    · simp only [Act.put, List.setIfInBounds_toArray, List.set_cons_zero, List.set_cons_succ, i64_w, i32_w]
                                      rfl
                                    refine pure_ (i := 6) (N := some 64) (v := ?_) (a' := ?_) #[true, true, true, false, true, true, true, false, false] rfl rfl (any_of HT_.out (by kernel_rfl)) (fun _ _ _ h => h) (Or.inl ⟨by rfl, ?_⟩) ?_ ?_
                                    rotate_left
                                    · intro w'
                                      go_simp
                                      with_reducible rfl
                                    rotate_left
                                    · simp only [Act.put, List.setIfInBounds_toArray, List.set_cons_zero, List.set_cons_succ, i64_w, i32_w]
                                      rfl
                                    refine take_ (i := 3) (N := some 61) (v := ?_) (a' := ?_) #[true, true, true, true, true, true, true, false, false] rfl rfl (take_ofW HT_.out HW_.out (by kernel_rfl)) (fun _ _ _ h => h) (Or.inl ⟨by rfl, ?_⟩) hHeld ?_ ?_
                                    rotate_left
                                    · rintro w' ⟨s0, s1, s2, s3, s4, s5, s6, s7, s8, s9, s10, s11, s12, s13, s14, s15⟩
                                      go_simp
                                      with_reducible rfl
                                    rotate_left
                                    · simp only [Act.put, List.setIfInBounds_toArray, List.set_cons_zero, List.set_cons_succ, i64_w, i32_w]
                                      rfl
                                    refine take_ (i := 7) (N := some 65) (v := ?_) (a' := ?_) #[true, true, true, true, true, true, true, true, false] rfl rfl (take_ofW HT_.out HW_.out (by kernel_rfl)) (fun _ _ _ h => h) (Or.inl ⟨by rfl, ?_⟩) hHeld ?_ ?_
                                    rotate_left
                                    · rintro w' ⟨s0, s1, s2, s3, s4, s5, s6, s7, s8, s9, s10, s11, s12, s13, s14, s15⟩
                                      go_simp
                                      with_reducible rfl
                                    rotate_left
                                    · simp only [Act.put, List.setIfInBounds_toArray, List.set_cons_zero, List.set_cons_succ, i64_w, i32_w]
                                      rfl
                                    refine pure_ (i := 8) (N := some 66) (v := ?_) (a' := ?_) #[true, true, true, true, true, true, true, true, true] rfl rfl (any_of HT_.out (by kernel_rfl)) (fun _ _ _ h => h) (Or.inl ⟨by rfl, ?_⟩) ?_ ?_
                                    rotate_left
                                    · intro w'
                                      go_simp
                                      with_reducible rfl
                                    rotate_left
                                    · simp only [Act.put, List.setIfInBounds_toArray, List.set_cons_zero, List.set_cons_succ, i64_w, i32_w]
                                      rfl
                                    refine done_ (done_of HT_.out (by kernel_rfl)) ?_
                                    try go_wp2
                                    go_roundg k3
                                    case measure => have := HK1.out; have := HK2.out; have := HK3.out; omega
                                    case rel => exact ⟨(wrap64 ((wrap64 (x6_3 + 1)) - 1)), (wrap64 (x7_3 + 1)), (by first | rfl | (simp; done) | (simp [*]; done)), (by first | rfl | (simp; done) | (simp [*]; done)), H', ⟨by have := HK1.out; have := HK2.out; have := HK3.out; omega⟩, ⟨by (with_reducible repeat (first | apply Kd.R_alloc | apply Kd.R_drewN | apply Kd.R_drew)); exact HO_3.out⟩, ⟨by repeat (first | (with_reducible first | exact HB.out | apply below_alloc | apply pw_below_drewN | apply below_drew1) | exact HB.out)⟩⟩
                                  · rw [if_neg c25] at H
                                    have c25b0 : (((rd_T28 t247 x7_3).f0) == ((rd_T28 l0 x5_2).f0) && (((rd_T28 t247 x7_3).f1) == ((rd_T28 l0 x5_2).f1) && (((rd_T28 t247 x7_3).f2) == ((rd_T28 l0 x5_2).f2) && (((rd_T28 t247 x7_3).f3) == ((rd_T28 l0 x5_2).f3) && (((rd_T28 t247 x7_3).f4) == ((rd_T28 l0 x5_2).f4) && ((((rd_T28 t247 x7_3).f5).toList) == (((rd_T28 l0 x5_2).f5).toList) && ((((rd_T28 t247 x7_3).f6).toList) == (((rd_T28 l0 x5_2).f6).toList) && (((rd_T28 t247 x7_3).f7) == ((rd_T28 l0 x5_2).f7))))))))) = false := by simpa using c25
                                    (try (have c25b1 : decide (((rd_T28 t247 x7_3).f0) = ((rd_T28 l0 x5_2).f0) && (((rd_T28 t247 x7_3).f1) == ((rd_T28 l0 x5_2).f1) && (((rd_T28 t247 x7_3).f2) == ((rd_T28 l0 x5_2).f2) && (((rd_T28 t247 x7_3).f3) == ((rd_T28 l0 x5_2).f3) && (((rd_T28 t247 x7_3).f4) == ((rd_T28 l0 x5_2).f4) && ((((rd_T28 t247 x7_3).f5).toList) == (((rd_T28 l0 x5_2).f5).toList) && ((((rd_T28 t247 x7_3).f6).toList) == (((rd_T28 l0 x5_2).f6).toList) && (((rd_T28 t247 x7_3).f7) == ((rd_T28 l0 x5_2).f7))))))))) = false := by simpa using c25))
                                    (try (have c25b2 : (((rd_T28 t247 x7_3).f0) == ((rd_T28 l0 x5_2).f0) && (((rd_T28 t247 x7_3).f1) == ((rd_T28 l0 x5_2).f1) && (((rd_T28 t247 x7_3).f2) == ((rd_T28 l0 x5_2).f2) && (((rd_T28 t247 x7_3).f3) == ((rd_T28 l0 x5_2).f3) && (((rd_T28 t247 x7_3).f4) == ((rd_T28 l0 x5_2).f4) && ((((rd_T28 t247 x7_3).f5).toList) == (((rd_T28 l0 x5_2).f5).toList) && ((((rd_T28 t247 x7_3).f6).toList) == (((rd_T28 l0 x5_2).f6).toList) && (((rd_T28 t247 x7_3).f7) == ((rd_T28 l0 x5_2).f7))))))))) = false := by simpa using c25))
                                    (try (have c25b3 : ¬ (((rd_T28 t247 x7_3).f0) = ((rd_T28 l0 x5_2).f0) && (((rd_T28 t247 x7_3).f1) == ((rd_T28 l0 x5_2).f1) && (((rd_T28 t247 x7_3).f2) == ((rd_T28 l0 x5_2).f2) && (((rd_T28 t247 x7_3).f3) == ((rd_T28 l0 x5_2).f3) && (((rd_T28 t247 x7_3).f4) == ((rd_T28 l0 x5_2).f4) && ((((rd_T28 t247 x7_3).f5).toList) == (((rd_T28 l0 x5_2).f5).toList) && ((((rd_T28 t247 x7_3).f6).toList) == (((rd_T28 l0 x5_2).f6).toList) && (((rd_T28 t247 x7_3).f7) == ((rd_T28 l0 x5_2).f7))))))))) := by simpa using c25))
                                    clear c25
                                    have H' := Aside0.mk H
                                    clear H
                                    try go_wp2
                                    have n0_ := Aside0.mk (Kd.R_drew HO_3.out)
                                    have n1_ := Aside0.mk (below_drew1 HB.out)
                                    clear HO_3
                                    clear HB
                                    have HO_3 := n0_
                                    have HB := n1_
                                    clear n0_ n1_
                                    have p254 : 0 ≤ (x7_3 : Int) := of_decide_eq_true (by first | (with_reducible assumption) | assumption)
                                    have q254 : x7_3 < (l0.length : Int) := of_decide_eq_true (by first | (with_reducible assumption) | assumption)
                                    obtain ⟨ad254, e254, hx254_0, hx254_1, hx254_2, hx254_3, hx254_4, hx254_5, hx254_6, hx254_7⟩ := at_T28 HR0.out x7_3 p254 q254
                                    have hw254_7 := hx254_7
                                    have hw254_6 := hx254_6
                                    have hw254_5 := hx254_5
                                    have hw254_4 := hx254_4
                                    have hw254_3 := hx254_3
                                    have hw254_2 := hx254_2
                                    have hw254_1 := hx254_1
                                    have hw254_0 := hx254_0
                                    cases e254
                                    replace hx254_0 := (HB.out.cell (World.block_lt_of_cell? w _ hx254_0)).trans hx254_0
                                    replace hx254_1 := (HB.out.cell (World.block_lt_of_cell? w _ hx254_1)).trans hx254_1
                                    replace hx254_2 := (HB.out.cell (World.block_lt_of_cell? w _ hx254_2)).trans hx254_2
                                    replace hx254_3 := (HB.out.cell (World.block_lt_of_cell? w _ hx254_3)).trans hx254_3
                                    replace hx254_4 := (HB.out.cell (World.block_lt_of_cell? w _ hx254_4)).trans hx254_4
                                    replace hx254_5 := (HB.out.cell (World.block_lt_of_cell? w _ hx254_5)).trans hx254_5
                                    replace hx254_6 := (HB.out.cell (World.block_lt_of_cell? w _ hx254_6)).trans hx254_6
                                    replace hx254_7 := (HB.out.cell (World.block_lt_of_cell? w _ hx254_7)).trans hx254_7
                                    replace p254 := eq_true p254
                                    replace q254 := eq_true q254
                                    have p255 : 0 ≤ (x5_2 : Int) := of_decide_eq_true (by first | (with_reducible assumption) | assumption)
                                    have q255 : x5_2 < (l0.length : Int) := of_decide_eq_true (by first | (with_reducible assumption) | assumption)
                                    obtain ⟨ad255, e255, hx255_0, hx255_1, hx255_2, hx255_3, hx255_4, hx255_5, hx255_6, hx255_7⟩ := at_T28 HR0.out x5_2 p255 q255
                                    have hw255_7 := hx255_7
                                    have hw255_6 := hx255_6
                                    have hw255_5 := hx255_5
                                    have hw255_4 := hx255_4
                                    have hw255_3 := hx255_3
                                    have hw255_2 := hx255_2
                                    have hw255_1 := hx255_1
                                    have hw255_0 := hx255_0
                                    obtain rfl : ad254 = ad255 := (by injection e255)
                                    replace hx255_0 := (HB.out.cell (World.block_lt_of_cell? w _ hx255_0)).trans hx255_0
                                    replace hx255_1 := (HB.out.cell (World.block_lt_of_cell? w _ hx255_1)).trans hx255_1
                                    replace hx255_2 := (HB.out.cell (World.block_lt_of_cell? w _ hx255_2)).trans hx255_2
                                    replace hx255_3 := (HB.out.cell (World.block_lt_of_cell? w _ hx255_3)).trans hx255_3
                                    replace hx255_4 := (HB.out.cell (World.block_lt_of_cell? w _ hx255_4)).trans hx255_4
                                    replace hx255_5 := (HB.out.cell (World.block_lt_of_cell? w _ hx255_5)).trans hx255_5
                                    replace hx255_6 := (HB.out.cell (World.block_lt_of_cell? w _ hx255_6)).trans hx255_6
                                    replace hx255_7 := (HB.out.cell (World.block_lt_of_cell? w _ hx255_7)).trans hx255_7
                                    replace p255 := eq_true p255
                                    replace q255 := eq_true q255
                                    refine start_ (n := 9) (S := fun w' => w'.cell? (ad254.add ((x7_3).toNat * 8)) = some (.int .u64 ((rd_T28 l0 x7_3).f0)) ∧ w'.cell? ⟨(ad254.add ((x7_3).toNat * 8)).block, (ad254.add ((x7_3).toNat * 8)).off + 1, none⟩ = some (.int .u64 ((rd_T28 l0 x7_3).f1)) ∧ w'.cell? ⟨(ad254.add ((x7_3).toNat * 8)).block, (ad254.add ((x7_3).toNat * 8)).off + 2, none⟩ = some (.int .u64 ((rd_T28 l0 x7_3).f2)) ∧ w'.cell? ⟨(ad254.add ((x7_3).toNat * 8)).block, (ad254.add ((x7_3).toNat * 8)).off + 3, none⟩ = some (.int .u64 ((rd_T28 l0 x7_3).f3)) ∧ w'.cell? ⟨(ad254.add ((x7_3).toNat * 8)).block, (ad254.add ((x7_3).toNat * 8)).off + 4, none⟩ = some (.int .u64 ((rd_T28 l0 x7_3).f4)) ∧ w'.cell? ⟨(ad254.add ((x7_3).toNat * 8)).block, (ad254.add ((x7_3).toNat * 8)).off + 5, none⟩ = some (.string ((rd_T28 l0 x7_3).f5)) ∧ w'.cell? ⟨(ad254.add ((x7_3).toNat * 8)).block, (ad254.add ((x7_3).toNat * 8)).off + 6, none⟩ = some (.string ((rd_T28 l0 x7_3).f6)) ∧ w'.cell? ⟨(ad254.add ((x7_3).toNat * 8)).block, (ad254.add ((x7_3).toNat * 8)).off + 7, none⟩ = some (.bool ((rd_T28 l0 x7_3).f7)) ∧ w'.cell? (ad254.add ((x5_2).toNat * 8)) = some (.int .u64 ((rd_T28 l0 x5_2).f0)) ∧ w'.cell? ⟨(ad254.add ((x5_2).toNat * 8)).block, (ad254.add ((x5_2).toNat * 8)).off + 1, none⟩ = some (.int .u64 ((rd_T28 l0 x5_2).f1)) ∧ w'.cell? ⟨(ad254.add ((x5_2).toNat * 8)).block, (ad254.add ((x5_2).toNat * 8)).off + 2, none⟩ = some (.int .u64 ((rd_T28 l0 x5_2).f2)) ∧ w'.cell? ⟨(ad254.add ((x5_2).toNat * 8)).block, (ad254.add ((x5_2).toNat * 8)).off + 3, none⟩ = some (.int .u64 ((rd_T28 l0 x5_2).f3)) ∧ w'.cell? ⟨(ad254.add ((x5_2).toNat * 8)).block, (ad254.add ((x5_2).toNat * 8)).off + 4, none⟩ = some (.int .u64 ((rd_T28 l0 x5_2).f4)) ∧ w'.cell? ⟨(ad254.add ((x5_2).toNat * 8)).block, (ad254.add ((x5_2).toNat * 8)).off + 5, none⟩ = some (.string ((rd_T28 l0 x5_2).f5)) ∧ w'.cell? ⟨(ad254.add ((x5_2).toNat * 8)).block, (ad254.add ((x5_2).toNat * 8)).off + 6, none⟩ = some (.string ((rd_T28 l0 x5_2).f6)) ∧ w'.cell? ⟨(ad254.add ((x5_2).toNat * 8)).block, (ad254.add ((x5_2).toNat * 8)).off + 7, none⟩ = some (.bool ((rd_T28 l0 x5_2).f7))) (ds := []) #[false, false, false, false, false, false, false, false, false] (by kernel_rfl) rfl rfl ⟨((HB.out.cell (World.block_lt_of_cell? w _ hw254_0)).trans hw254_0), ((HB.out.cell (World.block_lt_of_cell? w _ hw254_1)).trans hw254_1), ((HB.out.cell (World.block_lt_of_cell? w _ hw254_2)).trans hw254_2), ((HB.out.cell (World.block_lt_of_cell? w _ hw254_3)).trans hw254_3), ((HB.out.cell (World.block_lt_of_cell? w _ hw254_4)).trans hw254_4), ((HB.out.cell (World.block_lt_of_cell? w _ hw254_5)).trans hw254_5), ((HB.out.cell (World.block_lt_of_cell? w _ hw254_6)).trans hw254_6), ((HB.out.cell (World.block_lt_of_cell? w _ hw254_7)).trans hw254_7), ((HB.out.cell (World.block_lt_of_cell? w _ hw255_0)).trans hw255_0), ((HB.out.cell (World.block_lt_of_cell? w _ hw255_1)).trans hw255_1), ((HB.out.cell (World.block_lt_of_cell? w _ hw255_2)).trans hw255_2), ((HB.out.cell (World.block_lt_of_cell? w _ hw255_3)).trans hw255_3), ((HB.out.cell (World.block_lt_of_cell? w _ hw255_4)).trans hw255_4), ((HB.out.cell (World.block_lt_of_cell? w _ hw255_5)).trans hw255_5), ((HB.out.cell (World.block_lt_of_cell? w _ hw255_6)).trans hw255_6), ((HB.out.cell (World.block_lt_of_cell? w _ hw255_7)).trans hw255_7)⟩ (fun hHeld => ?_); refine with_tabW winnowlaw03_SpanSorted.tab18 winnowlaw03_SpanSorted.bits18 (fun HT_ HW_ => ?_)
                                    generalize wr.drew = w28 at HO_3 HB hx254_0 hx254_1 hx254_2 hx254_3 hx254_4 hx254_5 hx254_6 hx254_7 hx255_0 hx255_1 hx255_2 hx255_3 hx255_4 hx255_5 hx255_6 hx255_7 hHeld ⊢
                                    refine pure_ (i := 0) (N := some 47) (v := ?_) (a' := ?_) #[true, false, false, false, false, false, false, false, false] rfl rfl (any_of HT_.out (by kernel_rfl)) (fun _ _ _ h => h) (Or.inl ⟨by rfl, ?_⟩) ?_ ?_
                                    rotate_left
                                    · intro w'
                                      go_simp
                                      with_reducible rfl
                                    rotate_left
                                    · simp only [Act.put, List.setIfInBounds_toArray, List.set_cons_zero, List.set_cons_succ, i64_w, i32_w]
                                      rfl
                                    refine pure_ (i := 1) (N := some 48) (v := ?_) (a' := ?_) #[true, true, false, false, false, false, false, false, false] rfl rfl (any_of HT_.out (by kernel_rfl)) (fun _ _ _ h => h) (Or.inl ⟨by rfl, ?_⟩) ?_ ?_
                                    rotate_left
                                    · intro w'
                                      go_simp
                                      with_reducible rfl
                                    rotate_left
                                    · simp only [Act.put, List.setIfInBounds_toArray, List.set_cons_zero, List.set_cons_succ, i64_w, i32_w]
                                      rfl
                                    refine pure_ (i := 2) (N := some 49) (v := ?_) (a' := ?_) #[true, true, true, false, false, false, false, false, false] rfl rfl (any_of HT_.out (by kernel_rfl)) (fun _ _ _ h => h) (Or.inl ⟨by rfl, ?_⟩) ?_ ?_
                                    rotate_left
                                    · intro w'
                                      go_simp
                                      with_reducible rfl
                                    rotate_left
                                    · simp only [Act.put, List.setIfInBounds_toArray, List.set_cons_zero, List.set_cons_succ, i64_w, i32_w]
                                      rfl
                                    refine pure_ (i := 4) (N := some 51) (v := ?_) (a' := ?_) #[true, true, true, false, true, false, false, false, false] rfl rfl (any_of HT_.out (by kernel_rfl)) (fun _ _ _ h => h) (Or.inl ⟨by rfl, ?_⟩) ?_ ?_
                                    rotate_left
                                    · intro w'
                                      go_simp
                                      with_reducible rfl
                                    rotate_left
                                    · simp only [Act.put, List.setIfInBounds_toArray, List.set_cons_zero, List.set_cons_succ, i64_w, i32_w]
                                      rfl
                                    refine pure_ (i := 5) (N := some 52) (v := ?_) (a' := ?_) #[true, true, true, false, true, true, false, false, false] rfl rfl (any_of HT_.out (by kernel_rfl)) (fun _ _ _ h => h) (Or.inl ⟨by rfl, ?_⟩) ?_ ?_
                                    rotate_left
                                    · intro w'
                                      go_simp
                                      with_reducible rfl
                                    rotate_left
                                    · simp only [Act.put, List.setIfInBounds_toArray, List.set_cons_zero, List.set_cons_succ, i64_w, i32_w]
                                      rfl
                                    refine pure_ (i := 6) (N := some 53) (v := ?_) (a' := ?_) #[true, true, true, false, true, true, true, false, false] rfl rfl (any_of HT_.out (by kernel_rfl)) (fun _ _ _ h => h) (Or.inl ⟨by rfl, ?_⟩) ?_ ?_
                                    rotate_left
                                    · intro w'
                                      go_simp
                                      with_reducible rfl
                                    rotate_left
                                    · simp only [Act.put, List.setIfInBounds_toArray, List.set_cons_zero, List.set_cons_succ, i64_w, i32_w]
                                      rfl
                                    refine take_ (i := 3) (N := some 50) (v := ?_) (a' := ?_) #[true, true, true, true, true, true, true, false, false] rfl rfl (take_ofW HT_.out HW_.out (by kernel_rfl)) (fun _ _ _ h => h) (Or.inl ⟨by rfl, ?_⟩) hHeld ?_ ?_
                                    rotate_left
                                    · rintro w' ⟨s0, s1, s2, s3, s4, s5, s6, s7, s8, s9, s10, s11, s12, s13, s14, s15⟩
                                      go_simp
                                      with_reducible rfl
                                    rotate_left
                                    · simp only [Act.put, List.setIfInBounds_toArray, List.set_cons_zero, List.set_cons_succ, i64_w, i32_w]
                                      rfl
                                    refine take_ (i := 7) (N := some 54) (v := ?_) (a' := ?_) #[true, true, true, true, true, true, true, true, false] rfl rfl (take_ofW HT_.out HW_.out (by kernel_rfl)) (fun _ _ _ h => h) (Or.inl ⟨by rfl, ?_⟩) hHeld ?_ ?_
                                    rotate_left
                                    · rintro w' ⟨s0, s1, s2, s3, s4, s5, s6, s7, s8, s9, s10, s11, s12, s13, s14, s15⟩
                                      go_simp
                                      with_reducible rfl
                                    rotate_left
                                    · simp only [Act.put, List.setIfInBounds_toArray, List.set_cons_zero, List.set_cons_succ, i64_w, i32_w]
                                      rfl
                                    refine pure_ (i := 8) (N := some 55) (v := ?_) (a' := ?_) #[true, true, true, true, true, true, true, true, true] rfl rfl (any_of HT_.out (by kernel_rfl)) (fun _ _ _ h => h) (Or.inl ⟨by rfl, ?_⟩) ?_ ?_
                                    rotate_left
                                    · intro w'
                                      go_simp
                                      with_reducible rfl
                                    rotate_left
                                    · simp only [Act.put, List.setIfInBounds_toArray, List.set_cons_zero, List.set_cons_succ, i64_w, i32_w]
                                      rfl
                                    refine done_ (done_of HT_.out (by kernel_rfl)) ?_
                                    try go_wp2
                                    have n0_ := Aside0.mk (Kd.R_drew HO_3.out)
                                    have n1_ := Aside0.mk (below_drew1 HB.out)
                                    clear HO_3
                                    clear HB
                                    have HO_3 := n0_
                                    have HB := n1_
                                    clear n0_ n1_
                                    have p256 : 0 ≤ (x7_3 : Int) := of_decide_eq_true (by first | (with_reducible assumption) | assumption)
                                    have q256 : x7_3 < (t247.length : Int) := of_decide_eq_true (by first | (with_reducible assumption) | assumption)
                                    obtain ⟨ad256, e256, hx256_0, hx256_1, hx256_2, hx256_3, hx256_4, hx256_5, hx256_6, hx256_7⟩ := at_T28 (Kd.R_reads' HO_3.out).2.2 x7_3 p256 q256
                                    cases e256
                                    replace p256 := eq_true p256
                                    replace q256 := eq_true q256
                                    have p257 : 0 ≤ (x5_2 : Int) := of_decide_eq_true (by first | (with_reducible assumption) | assumption)
                                    have q257 : x5_2 < (l0.length : Int) := of_decide_eq_true (by first | (with_reducible assumption) | assumption)
                                    obtain ⟨ad257, e257, hx257_0, hx257_1, hx257_2, hx257_3, hx257_4, hx257_5, hx257_6, hx257_7⟩ := at_T28 HR0.out x5_2 p257 q257
                                    have hw257_7 := hx257_7
                                    have hw257_6 := hx257_6
                                    have hw257_5 := hx257_5
                                    have hw257_4 := hx257_4
                                    have hw257_3 := hx257_3
                                    have hw257_2 := hx257_2
                                    have hw257_1 := hx257_1
                                    have hw257_0 := hx257_0
                                    obtain rfl : ad254 = ad257 := (by injection e257)
                                    replace hx257_0 := (HB.out.cell (World.block_lt_of_cell? w _ hx257_0)).trans hx257_0
                                    replace hx257_1 := (HB.out.cell (World.block_lt_of_cell? w _ hx257_1)).trans hx257_1
                                    replace hx257_2 := (HB.out.cell (World.block_lt_of_cell? w _ hx257_2)).trans hx257_2
                                    replace hx257_3 := (HB.out.cell (World.block_lt_of_cell? w _ hx257_3)).trans hx257_3
                                    replace hx257_4 := (HB.out.cell (World.block_lt_of_cell? w _ hx257_4)).trans hx257_4
                                    replace hx257_5 := (HB.out.cell (World.block_lt_of_cell? w _ hx257_5)).trans hx257_5
                                    replace hx257_6 := (HB.out.cell (World.block_lt_of_cell? w _ hx257_6)).trans hx257_6
                                    replace hx257_7 := (HB.out.cell (World.block_lt_of_cell? w _ hx257_7)).trans hx257_7
                                    replace p257 := eq_true p257
                                    replace q257 := eq_true q257
                                    refine start_ (n := 9) (S := fun w' => w'.cell? (ad256.add ((x7_3).toNat * 8)) = some (.int .u64 ((rd_T28 t247 x7_3).f0)) ∧ w'.cell? ⟨(ad256.add ((x7_3).toNat * 8)).block, (ad256.add ((x7_3).toNat * 8)).off + 1, none⟩ = some (.int .u64 ((rd_T28 t247 x7_3).f1)) ∧ w'.cell? ⟨(ad256.add ((x7_3).toNat * 8)).block, (ad256.add ((x7_3).toNat * 8)).off + 2, none⟩ = some (.int .u64 ((rd_T28 t247 x7_3).f2)) ∧ w'.cell? ⟨(ad256.add ((x7_3).toNat * 8)).block, (ad256.add ((x7_3).toNat * 8)).off + 3, none⟩ = some (.int .u64 ((rd_T28 t247 x7_3).f3)) ∧ w'.cell? ⟨(ad256.add ((x7_3).toNat * 8)).block, (ad256.add ((x7_3).toNat * 8)).off + 4, none⟩ = some (.int .u64 ((rd_T28 t247 x7_3).f4)) ∧ w'.cell? ⟨(ad256.add ((x7_3).toNat * 8)).block, (ad256.add ((x7_3).toNat * 8)).off + 5, none⟩ = some (.string ((rd_T28 t247 x7_3).f5)) ∧ w'.cell? ⟨(ad256.add ((x7_3).toNat * 8)).block, (ad256.add ((x7_3).toNat * 8)).off + 6, none⟩ = some (.string ((rd_T28 t247 x7_3).f6)) ∧ w'.cell? ⟨(ad256.add ((x7_3).toNat * 8)).block, (ad256.add ((x7_3).toNat * 8)).off + 7, none⟩ = some (.bool ((rd_T28 t247 x7_3).f7)) ∧ w'.cell? (ad254.add ((x5_2).toNat * 8)) = some (.int .u64 ((rd_T28 l0 x5_2).f0)) ∧ w'.cell? ⟨(ad254.add ((x5_2).toNat * 8)).block, (ad254.add ((x5_2).toNat * 8)).off + 1, none⟩ = some (.int .u64 ((rd_T28 l0 x5_2).f1)) ∧ w'.cell? ⟨(ad254.add ((x5_2).toNat * 8)).block, (ad254.add ((x5_2).toNat * 8)).off + 2, none⟩ = some (.int .u64 ((rd_T28 l0 x5_2).f2)) ∧ w'.cell? ⟨(ad254.add ((x5_2).toNat * 8)).block, (ad254.add ((x5_2).toNat * 8)).off + 3, none⟩ = some (.int .u64 ((rd_T28 l0 x5_2).f3)) ∧ w'.cell? ⟨(ad254.add ((x5_2).toNat * 8)).block, (ad254.add ((x5_2).toNat * 8)).off + 4, none⟩ = some (.int .u64 ((rd_T28 l0 x5_2).f4)) ∧ w'.cell? ⟨(ad254.add ((x5_2).toNat * 8)).block, (ad254.add ((x5_2).toNat * 8)).off + 5, none⟩ = some (.string ((rd_T28 l0 x5_2).f5)) ∧ w'.cell? ⟨(ad254.add ((x5_2).toNat * 8)).block, (ad254.add ((x5_2).toNat * 8)).off + 6, none⟩ = some (.string ((rd_T28 l0 x5_2).f6)) ∧ w'.cell? ⟨(ad254.add ((x5_2).toNat * 8)).block, (ad254.add ((x5_2).toNat * 8)).off + 7, none⟩ = some (.bool ((rd_T28 l0 x5_2).f7))) (ds := []) #[false, false, false, false, false, false, false, false, false] (by kernel_rfl) rfl rfl ⟨hx256_0, hx256_1, hx256_2, hx256_3, hx256_4, hx256_5, hx256_6, hx256_7, ((HB.out.cell (World.block_lt_of_cell? w _ hw257_0)).trans hw257_0), ((HB.out.cell (World.block_lt_of_cell? w _ hw257_1)).trans hw257_1), ((HB.out.cell (World.block_lt_of_cell? w _ hw257_2)).trans hw257_2), ((HB.out.cell (World.block_lt_of_cell? w _ hw257_3)).trans hw257_3), ((HB.out.cell (World.block_lt_of_cell? w _ hw257_4)).trans hw257_4), ((HB.out.cell (World.block_lt_of_cell? w _ hw257_5)).trans hw257_5), ((HB.out.cell (World.block_lt_of_cell? w _ hw257_6)).trans hw257_6), ((HB.out.cell (World.block_lt_of_cell? w _ hw257_7)).trans hw257_7)⟩ (fun hHeld => ?_); refine with_tabW winnowlaw03_SpanSorted.tab20 winnowlaw03_SpanSorted.bits20 (fun HT_ HW_ => ?_)
                                    generalize w28.drew = w29 at HO_3 HB hx256_0 hx256_1 hx256_2 hx256_3 hx256_4 hx256_5 hx256_6 hx256_7 hx257_0 hx257_1 hx257_2 hx257_3 hx257_4 hx257_5 hx257_6 hx257_7 hHeld ⊢
                                    refine pure_ (i := 0) (N := some 58) (v := ?_) (a' := ?_) #[true, false, false, false, false, false, false, false, false] rfl rfl (any_of HT_.out (by kernel_rfl)) (fun _ _ _ h => h) (Or.inl ⟨by rfl, ?_⟩) ?_ ?_
                                    rotate_left
                                    · intro w'
                                      go_simp
                                      with_reducible rfl
                                    rotate_left
                                    · simp only [Act.put, List.setIfInBounds_toArray, List.set_cons_zero, List.set_cons_succ, i64_w, i32_w]
                                      rfl
                                    refine pure_ (i := 1) (N := some 59) (v := ?_) (a' := ?_) #[true, true, false, false, false, false, false, false, false] rfl rfl (any_of HT_.out (by kernel_rfl)) (fun _ _ _ h => h) (Or.inl ⟨by rfl, ?_⟩) ?_ ?_
                                    rotate_left
                                    · intro w'
                                      go_simp
                                      with_reducible rfl
                                    rotate_left
                                    · simp only [Act.put, List.setIfInBounds_toArray, List.set_cons_zero, List.set_cons_succ, i64_w, i32_w]
                                      rfl
                                    refine pure_ (i := 2) (N := some 60) (v := ?_) (a' := ?_) #[true, true, true, false, false, false, false, false, false] rfl rfl (any_of HT_.out (by kernel_rfl)) (fun _ _ _ h => h) (Or.inl ⟨by rfl, ?_⟩) ?_ ?_
                                    rotate_left
                                    · intro w'
                                      go_simp
                                      with_reducible rfl
                                    rotate_left
                                    · simp only [Act.put, List.setIfInBounds_toArray, List.set_cons_zero, List.set_cons_succ, i64_w, i32_w]
                                      rfl
                                    refine pure_ (i := 4) (N := some 62) (v := ?_) (a' := ?_) #[true, true, true, false, true, false, false, false, false] rfl rfl (any_of HT_.out (by kernel_rfl)) (fun _ _ _ h => h) (Or.inl ⟨by rfl, ?_⟩) ?_ ?_
                                    rotate_left
                                    · intro w'
                                      go_simp
                                      with_reducible rfl
                                    rotate_left
                                    · simp only [Act.put, List.setIfInBounds_toArray, List.set_cons_zero, List.set_cons_succ, i64_w, i32_w]
                                      rfl
                                    refine pure_ (i := 5) (N := some 63) (v := ?_) (a' := ?_) #[true, true, true, false, true, true, false, false, false] rfl rfl (any_of HT_.out (by kernel_rfl)) (fun _ _ _ h => h) (Or.inl ⟨by rfl, ?_⟩) ?_ ?_
                                    rotate_left
                                    · intro w'
                                      go_simp
                                      with_reducible rfl
                                    rotate_left
                                    · simp only [Act.put, List.setIfInBounds_toArray, List.set_cons_zero, List.set_cons_succ, i64_w, i32_w]
                                      rfl
                                    refine pure_ (i := 6) (N := some 64) (v := ?_) (a' := ?_) #[true, true, true, false, true, true, true, false, false] rfl rfl (any_of HT_.out (by kernel_rfl)) (fun _ _ _ h => h) (Or.inl ⟨by rfl, ?_⟩) ?_ ?_
                                    rotate_left
                                    · intro w'
                                      go_simp
                                      with_reducible rfl
                                    rotate_left
                                    · simp only [Act.put, List.setIfInBounds_toArray, List.set_cons_zero, List.set_cons_succ, i64_w, i32_w]
                                      rfl
                                    refine take_ (i := 3) (N := some 61) (v := ?_) (a' := ?_) #[true, true, true, true, true, true, true, false, false] rfl rfl (take_ofW HT_.out HW_.out (by kernel_rfl)) (fun _ _ _ h => h) (Or.inl ⟨by rfl, ?_⟩) hHeld ?_ ?_
                                    rotate_left
                                    · rintro w' ⟨s0, s1, s2, s3, s4, s5, s6, s7, s8, s9, s10, s11, s12, s13, s14, s15⟩
                                      go_simp
                                      with_reducible rfl
                                    rotate_left
                                    · simp only [Act.put, List.setIfInBounds_toArray, List.set_cons_zero, List.set_cons_succ, i64_w, i32_w]
                                      rfl
                                    refine take_ (i := 7) (N := some 65) (v := ?_) (a' := ?_) #[true, true, true, true, true, true, true, true, false] rfl rfl (take_ofW HT_.out HW_.out (by kernel_rfl)) (fun _ _ _ h => h) (Or.inl ⟨by rfl, ?_⟩) hHeld ?_ ?_
                                    rotate_left
                                    · rintro w' ⟨s0, s1, s2, s3, s4, s5, s6, s7, s8, s9, s10, s11, s12, s13, s14, s15⟩
                                      go_simp
                                      with_reducible rfl
                                    rotate_left
                                    · simp only [Act.put, List.setIfInBounds_toArray, List.set_cons_zero, List.set_cons_succ, i64_w, i32_w]
                                      rfl
                                    refine pure_ (i := 8) (N := some 66) (v := ?_) (a' := ?_) #[true, true, true, true, true, true, true, true, true] rfl rfl (any_of HT_.out (by kernel_rfl)) (fun _ _ _ h => h) (Or.inl ⟨by rfl, ?_⟩) ?_ ?_
                                    rotate_left
                                    · intro w'
                                      go_simp
                                      with_reducible rfl
                                    rotate_left
                                    · simp only [Act.put, List.setIfInBounds_toArray, List.set_cons_zero, List.set_cons_succ, i64_w, i32_w]
                                      rfl
                                    refine done_ (done_of HT_.out (by kernel_rfl)) ?_
                                    try go_wp2
                                    go_roundg k3
                                    case measure => have := HK1.out; have := HK2.out; have := HK3.out; omega
                                    case rel => exact ⟨(wrap64 (x6_3 + 1)), (wrap64 (x7_3 + 1)), (by first | rfl | (simp; done) | (simp [*]; done)), (by first | rfl | (simp; done) | (simp [*]; done)), H', ⟨by have := HK1.out; have := HK2.out; have := HK3.out; omega⟩, ⟨by (with_reducible repeat (first | apply Kd.R_alloc | apply Kd.R_drewN | apply Kd.R_drew)); exact HO_3.out⟩, ⟨by repeat (first | (with_reducible first | exact HB.out | apply below_alloc | apply pw_below_drewN | apply below_drew1) | exact HB.out)⟩⟩
                                · rw [if_neg c24] at H
                                  exact absurd H (by simp)
                              · rw [if_neg c23] at H
                                have c23b0 : (((rd_T28 l0 x7_3).f0) == ((rd_T28 l0 x5_2).f0) && (((rd_T28 l0 x7_3).f1) == ((rd_T28 l0 x5_2).f1) && (((rd_T28 l0 x7_3).f2) == ((rd_T28 l0 x5_2).f2) && (((rd_T28 l0 x7_3).f3) == ((rd_T28 l0 x5_2).f3) && (((rd_T28 l0 x7_3).f4) == ((rd_T28 l0 x5_2).f4) && ((((rd_T28 l0 x7_3).f5).toList) == (((rd_T28 l0 x5_2).f5).toList) && ((((rd_T28 l0 x7_3).f6).toList) == (((rd_T28 l0 x5_2).f6).toList) && (((rd_T28 l0 x7_3).f7) == ((rd_T28 l0 x5_2).f7))))))))) = false := by simpa using c23
                                (try (have c23b1 : decide (((rd_T28 l0 x7_3).f0) = ((rd_T28 l0 x5_2).f0) && (((rd_T28 l0 x7_3).f1) == ((rd_T28 l0 x5_2).f1) && (((rd_T28 l0 x7_3).f2) == ((rd_T28 l0 x5_2).f2) && (((rd_T28 l0 x7_3).f3) == ((rd_T28 l0 x5_2).f3) && (((rd_T28 l0 x7_3).f4) == ((rd_T28 l0 x5_2).f4) && ((((rd_T28 l0 x7_3).f5).toList) == (((rd_T28 l0 x5_2).f5).toList) && ((((rd_T28 l0 x7_3).f6).toList) == (((rd_T28 l0 x5_2).f6).toList) && (((rd_T28 l0 x7_3).f7) == ((rd_T28 l0 x5_2).f7))))))))) = false := by simpa using c23))
                                (try (have c23b2 : (((rd_T28 l0 x7_3).f0) == ((rd_T28 l0 x5_2).f0) && (((rd_T28 l0 x7_3).f1) == ((rd_T28 l0 x5_2).f1) && (((rd_T28 l0 x7_3).f2) == ((rd_T28 l0 x5_2).f2) && (((rd_T28 l0 x7_3).f3) == ((rd_T28 l0 x5_2).f3) && (((rd_T28 l0 x7_3).f4) == ((rd_T28 l0 x5_2).f4) && ((((rd_T28 l0 x7_3).f5).toList) == (((rd_T28 l0 x5_2).f5).toList) && ((((rd_T28 l0 x7_3).f6).toList) == (((rd_T28 l0 x5_2).f6).toList) && (((rd_T28 l0 x7_3).f7) == ((rd_T28 l0 x5_2).f7))))))))) = false := by simpa using c23))
                                (try (have c23b3 : ¬ (((rd_T28 l0 x7_3).f0) = ((rd_T28 l0 x5_2).f0) && (((rd_T28 l0 x7_3).f1) == ((rd_T28 l0 x5_2).f1) && (((rd_T28 l0 x7_3).f2) == ((rd_T28 l0 x5_2).f2) && (((rd_T28 l0 x7_3).f3) == ((rd_T28 l0 x5_2).f3) && (((rd_T28 l0 x7_3).f4) == ((rd_T28 l0 x5_2).f4) && ((((rd_T28 l0 x7_3).f5).toList) == (((rd_T28 l0 x5_2).f5).toList) && ((((rd_T28 l0 x7_3).f6).toList) == (((rd_T28 l0 x5_2).f6).toList) && (((rd_T28 l0 x7_3).f7) == ((rd_T28 l0 x5_2).f7))))))))) := by simpa using c23))
                                clear c23
                                by_cases c30 : x7_3 < (t247.length : Int)
                                · rw [if_pos c30] at H
                                  have c30b0 : decide (x7_3 < (t247.length : Int)) = true := decide_eq_true c30
                                  clear c30
                                  by_cases c31 : (((rd_T28 t247 x7_3).f0) == ((rd_T28 l0 x5_2).f0) && (((rd_T28 t247 x7_3).f1) == ((rd_T28 l0 x5_2).f1) && (((rd_T28 t247 x7_3).f2) == ((rd_T28 l0 x5_2).f2) && (((rd_T28 t247 x7_3).f3) == ((rd_T28 l0 x5_2).f3) && (((rd_T28 t247 x7_3).f4) == ((rd_T28 l0 x5_2).f4) && ((((rd_T28 t247 x7_3).f5).toList) == (((rd_T28 l0 x5_2).f5).toList) && ((((rd_T28 t247 x7_3).f6).toList) == (((rd_T28 l0 x5_2).f6).toList) && (((rd_T28 t247 x7_3).f7) == ((rd_T28 l0 x5_2).f7))))))))) = true
                                  · rw [if_pos c31] at H
                                    have c31b0 : (((rd_T28 t247 x7_3).f0) == ((rd_T28 l0 x5_2).f0) && (((rd_T28 t247 x7_3).f1) == ((rd_T28 l0 x5_2).f1) && (((rd_T28 t247 x7_3).f2) == ((rd_T28 l0 x5_2).f2) && (((rd_T28 t247 x7_3).f3) == ((rd_T28 l0 x5_2).f3) && (((rd_T28 t247 x7_3).f4) == ((rd_T28 l0 x5_2).f4) && ((((rd_T28 t247 x7_3).f5).toList) == (((rd_T28 l0 x5_2).f5).toList) && ((((rd_T28 t247 x7_3).f6).toList) == (((rd_T28 l0 x5_2).f6).toList) && (((rd_T28 t247 x7_3).f7) == ((rd_T28 l0 x5_2).f7))))))))) = true := c31
                                    (try (have c31b1 : decide (((rd_T28 t247 x7_3).f0) = ((rd_T28 l0 x5_2).f0) && (((rd_T28 t247 x7_3).f1) == ((rd_T28 l0 x5_2).f1) && (((rd_T28 t247 x7_3).f2) == ((rd_T28 l0 x5_2).f2) && (((rd_T28 t247 x7_3).f3) == ((rd_T28 l0 x5_2).f3) && (((rd_T28 t247 x7_3).f4) == ((rd_T28 l0 x5_2).f4) && ((((rd_T28 t247 x7_3).f5).toList) == (((rd_T28 l0 x5_2).f5).toList) && ((((rd_T28 t247 x7_3).f6).toList) == (((rd_T28 l0 x5_2).f6).toList) && (((rd_T28 t247 x7_3).f7) == ((rd_T28 l0 x5_2).f7))))))))) = true := by simpa using c31))
                                    (try (have c31b2 : (((rd_T28 t247 x7_3).f0) == ((rd_T28 l0 x5_2).f0) && (((rd_T28 t247 x7_3).f1) == ((rd_T28 l0 x5_2).f1) && (((rd_T28 t247 x7_3).f2) == ((rd_T28 l0 x5_2).f2) && (((rd_T28 t247 x7_3).f3) == ((rd_T28 l0 x5_2).f3) && (((rd_T28 t247 x7_3).f4) == ((rd_T28 l0 x5_2).f4) && ((((rd_T28 t247 x7_3).f5).toList) == (((rd_T28 l0 x5_2).f5).toList) && ((((rd_T28 t247 x7_3).f6).toList) == (((rd_T28 l0 x5_2).f6).toList) && (((rd_T28 t247 x7_3).f7) == ((rd_T28 l0 x5_2).f7))))))))) = true := by simpa using c31))
                                    clear c31
                                    have H' := Aside0.mk H
                                    clear H
                                    try go_wp2
                                    have n0_ := Aside0.mk (Kd.R_drew HO_3.out)
                                    have n1_ := Aside0.mk (below_drew1 HB.out)
                                    clear HO_3
                                    clear HB
                                    have HO_3 := n0_
                                    have HB := n1_
                                    clear n0_ n1_
                                    have p254 : 0 ≤ (x7_3 : Int) := of_decide_eq_true (by first | (with_reducible assumption) | assumption)
                                    have q254 : x7_3 < (l0.length : Int) := of_decide_eq_true (by first | (with_reducible assumption) | assumption)
                                    obtain ⟨ad254, e254, hx254_0, hx254_1, hx254_2, hx254_3, hx254_4, hx254_5, hx254_6, hx254_7⟩ := at_T28 HR0.out x7_3 p254 q254
                                    have hw254_7 := hx254_7
                                    have hw254_6 := hx254_6
                                    have hw254_5 := hx254_5
                                    have hw254_4 := hx254_4
                                    have hw254_3 := hx254_3
                                    have hw254_2 := hx254_2
                                    have hw254_1 := hx254_1
                                    have hw254_0 := hx254_0
                                    cases e254
                                    replace hx254_0 := (HB.out.cell (World.block_lt_of_cell? w _ hx254_0)).trans hx254_0
                                    replace hx254_1 := (HB.out.cell (World.block_lt_of_cell? w _ hx254_1)).trans hx254_1
                                    replace hx254_2 := (HB.out.cell (World.block_lt_of_cell? w _ hx254_2)).trans hx254_2
                                    replace hx254_3 := (HB.out.cell (World.block_lt_of_cell? w _ hx254_3)).trans hx254_3
                                    replace hx254_4 := (HB.out.cell (World.block_lt_of_cell? w _ hx254_4)).trans hx254_4
                                    replace hx254_5 := (HB.out.cell (World.block_lt_of_cell? w _ hx254_5)).trans hx254_5
                                    replace hx254_6 := (HB.out.cell (World.block_lt_of_cell? w _ hx254_6)).trans hx254_6
                                    replace hx254_7 := (HB.out.cell (World.block_lt_of_cell? w _ hx254_7)).trans hx254_7
                                    replace p254 := eq_true p254
                                    replace q254 := eq_true q254
                                    have p255 : 0 ≤ (x5_2 : Int) := of_decide_eq_true (by first | (with_reducible assumption) | assumption)
                                    have q255 : x5_2 < (l0.length : Int) := of_decide_eq_true (by first | (with_reducible assumption) | assumption)
                                    obtain ⟨ad255, e255, hx255_0, hx255_1, hx255_2, hx255_3, hx255_4, hx255_5, hx255_6, hx255_7⟩ := at_T28 HR0.out x5_2 p255 q255
                                    have hw255_7 := hx255_7
                                    have hw255_6 := hx255_6
                                    have hw255_5 := hx255_5
                                    have hw255_4 := hx255_4
                                    have hw255_3 := hx255_3
                                    have hw255_2 := hx255_2
                                    have hw255_1 := hx255_1
                                    have hw255_0 := hx255_0
                                    obtain rfl : ad254 = ad255 := (by injection e255)
                                    replace hx255_0 := (HB.out.cell (World.block_lt_of_cell? w _ hx255_0)).trans hx255_0
                                    replace hx255_1 := (HB.out.cell (World.block_lt_of_cell? w _ hx255_1)).trans hx255_1
                                    replace hx255_2 := (HB.out.cell (World.block_lt_of_cell? w _ hx255_2)).trans hx255_2
                                    replace hx255_3 := (HB.out.cell (World.block_lt_of_cell? w _ hx255_3)).trans hx255_3
                                    replace hx255_4 := (HB.out.cell (World.block_lt_of_cell? w _ hx255_4)).trans hx255_4
                                    replace hx255_5 := (HB.out.cell (World.block_lt_of_cell? w _ hx255_5)).trans hx255_5
                                    replace hx255_6 := (HB.out.cell (World.block_lt_of_cell? w _ hx255_6)).trans hx255_6
                                    replace hx255_7 := (HB.out.cell (World.block_lt_of_cell? w _ hx255_7)).trans hx255_7
                                    replace p255 := eq_true p255
                                    replace q255 := eq_true q255
                                    refine start_ (n := 9) (S := fun w' => w'.cell? (ad254.add ((x7_3).toNat * 8)) = some (.int .u64 ((rd_T28 l0 x7_3).f0)) ∧ w'.cell? ⟨(ad254.add ((x7_3).toNat * 8)).block, (ad254.add ((x7_3).toNat * 8)).off + 1, none⟩ = some (.int .u64 ((rd_T28 l0 x7_3).f1)) ∧ w'.cell? ⟨(ad254.add ((x7_3).toNat * 8)).block, (ad254.add ((x7_3).toNat * 8)).off + 2, none⟩ = some (.int .u64 ((rd_T28 l0 x7_3).f2)) ∧ w'.cell? ⟨(ad254.add ((x7_3).toNat * 8)).block, (ad254.add ((x7_3).toNat * 8)).off + 3, none⟩ = some (.int .u64 ((rd_T28 l0 x7_3).f3)) ∧ w'.cell? ⟨(ad254.add ((x7_3).toNat * 8)).block, (ad254.add ((x7_3).toNat * 8)).off + 4, none⟩ = some (.int .u64 ((rd_T28 l0 x7_3).f4)) ∧ w'.cell? ⟨(ad254.add ((x7_3).toNat * 8)).block, (ad254.add ((x7_3).toNat * 8)).off + 5, none⟩ = some (.string ((rd_T28 l0 x7_3).f5)) ∧ w'.cell? ⟨(ad254.add ((x7_3).toNat * 8)).block, (ad254.add ((x7_3).toNat * 8)).off + 6, none⟩ = some (.string ((rd_T28 l0 x7_3).f6)) ∧ w'.cell? ⟨(ad254.add ((x7_3).toNat * 8)).block, (ad254.add ((x7_3).toNat * 8)).off + 7, none⟩ = some (.bool ((rd_T28 l0 x7_3).f7)) ∧ w'.cell? (ad254.add ((x5_2).toNat * 8)) = some (.int .u64 ((rd_T28 l0 x5_2).f0)) ∧ w'.cell? ⟨(ad254.add ((x5_2).toNat * 8)).block, (ad254.add ((x5_2).toNat * 8)).off + 1, none⟩ = some (.int .u64 ((rd_T28 l0 x5_2).f1)) ∧ w'.cell? ⟨(ad254.add ((x5_2).toNat * 8)).block, (ad254.add ((x5_2).toNat * 8)).off + 2, none⟩ = some (.int .u64 ((rd_T28 l0 x5_2).f2)) ∧ w'.cell? ⟨(ad254.add ((x5_2).toNat * 8)).block, (ad254.add ((x5_2).toNat * 8)).off + 3, none⟩ = some (.int .u64 ((rd_T28 l0 x5_2).f3)) ∧ w'.cell? ⟨(ad254.add ((x5_2).toNat * 8)).block, (ad254.add ((x5_2).toNat * 8)).off + 4, none⟩ = some (.int .u64 ((rd_T28 l0 x5_2).f4)) ∧ w'.cell? ⟨(ad254.add ((x5_2).toNat * 8)).block, (ad254.add ((x5_2).toNat * 8)).off + 5, none⟩ = some (.string ((rd_T28 l0 x5_2).f5)) ∧ w'.cell? ⟨(ad254.add ((x5_2).toNat * 8)).block, (ad254.add ((x5_2).toNat * 8)).off + 6, none⟩ = some (.string ((rd_T28 l0 x5_2).f6)) ∧ w'.cell? ⟨(ad254.add ((x5_2).toNat * 8)).block, (ad254.add ((x5_2).toNat * 8)).off + 7, none⟩ = some (.bool ((rd_T28 l0 x5_2).f7))) (ds := []) #[false, false, false, false, false, false, false, false, false] (by kernel_rfl) rfl rfl ⟨((HB.out.cell (World.block_lt_of_cell? w _ hw254_0)).trans hw254_0), ((HB.out.cell (World.block_lt_of_cell? w _ hw254_1)).trans hw254_1), ((HB.out.cell (World.block_lt_of_cell? w _ hw254_2)).trans hw254_2), ((HB.out.cell (World.block_lt_of_cell? w _ hw254_3)).trans hw254_3), ((HB.out.cell (World.block_lt_of_cell? w _ hw254_4)).trans hw254_4), ((HB.out.cell (World.block_lt_of_cell? w _ hw254_5)).trans hw254_5), ((HB.out.cell (World.block_lt_of_cell? w _ hw254_6)).trans hw254_6), ((HB.out.cell (World.block_lt_of_cell? w _ hw254_7)).trans hw254_7), ((HB.out.cell (World.block_lt_of_cell? w _ hw255_0)).trans hw255_0), ((HB.out.cell (World.block_lt_of_cell? w _ hw255_1)).trans hw255_1), ((HB.out.cell (World.block_lt_of_cell? w _ hw255_2)).trans hw255_2), ((HB.out.cell (World.block_lt_of_cell? w _ hw255_3)).trans hw255_3), ((HB.out.cell (World.block_lt_of_cell? w _ hw255_4)).trans hw255_4), ((HB.out.cell (World.block_lt_of_cell? w _ hw255_5)).trans hw255_5), ((HB.out.cell (World.block_lt_of_cell? w _ hw255_6)).trans hw255_6), ((HB.out.cell (World.block_lt_of_cell? w _ hw255_7)).trans hw255_7)⟩ (fun hHeld => ?_); refine with_tabW winnowlaw03_SpanSorted.tab18 winnowlaw03_SpanSorted.bits18 (fun HT_ HW_ => ?_)
                                    generalize wr.drew = w32 at HO_3 HB hx254_0 hx254_1 hx254_2 hx254_3 hx254_4 hx254_5 hx254_6 hx254_7 hx255_0 hx255_1 hx255_2 hx255_3 hx255_4 hx255_5 hx255_6 hx255_7 hHeld ⊢
                                    refine pure_ (i := 0) (N := some 47) (v := ?_) (a' := ?_) #[true, false, false, false, false, false, false, false, false] rfl rfl (any_of HT_.out (by kernel_rfl)) (fun _ _ _ h => h) (Or.inl ⟨by rfl, ?_⟩) ?_ ?_
                                    rotate_left
                                    · intro w'
                                      go_simp
                                      with_reducible rfl
                                    rotate_left
                                    · simp only [Act.put, List.setIfInBounds_toArray, List.set_cons_zero, List.set_cons_succ, i64_w, i32_w]
                                      rfl
                                    refine pure_ (i := 1) (N := some 48) (v := ?_) (a' := ?_) #[true, true, false, false, false, false, false, false, false] rfl rfl (any_of HT_.out (by kernel_rfl)) (fun _ _ _ h => h) (Or.inl ⟨by rfl, ?_⟩) ?_ ?_
                                    rotate_left
                                    · intro w'
                                      go_simp
                                      with_reducible rfl
                                    rotate_left
                                    · simp only [Act.put, List.setIfInBounds_toArray, List.set_cons_zero, List.set_cons_succ, i64_w, i32_w]
                                      rfl
                                    refine pure_ (i := 2) (N := some 49) (v := ?_) (a' := ?_) #[true, true, true, false, false, false, false, false, false] rfl rfl (any_of HT_.out (by kernel_rfl)) (fun _ _ _ h => h) (Or.inl ⟨by rfl, ?_⟩) ?_ ?_
                                    rotate_left
                                    · intro w'
                                      go_simp
                                      with_reducible rfl
                                    rotate_left
                                    · simp only [Act.put, List.setIfInBounds_toArray, List.set_cons_zero, List.set_cons_succ, i64_w, i32_w]
                                      rfl
                                    refine pure_ (i := 4) (N := some 51) (v := ?_) (a' := ?_) #[true, true, true, false, true, false, false, false, false] rfl rfl (any_of HT_.out (by kernel_rfl)) (fun _ _ _ h => h) (Or.inl ⟨by rfl, ?_⟩) ?_ ?_
                                    rotate_left
                                    · intro w'
                                      go_simp
                                      with_reducible rfl
                                    rotate_left
                                    · simp only [Act.put, List.setIfInBounds_toArray, List.set_cons_zero, List.set_cons_succ, i64_w, i32_w]
                                      rfl
                                    refine pure_ (i := 5) (N := some 52) (v := ?_) (a' := ?_) #[true, true, true, false, true, true, false, false, false] rfl rfl (any_of HT_.out (by kernel_rfl)) (fun _ _ _ h => h) (Or.inl ⟨by rfl, ?_⟩) ?_ ?_
                                    rotate_left
                                    · intro w'
                                      go_simp
                                      with_reducible rfl
                                    rotate_left
                                    · simp only [Act.put, List.setIfInBounds_toArray, List.set_cons_zero, List.set_cons_succ, i64_w, i32_w]
                                      rfl
                                    refine pure_ (i := 6) (N := some 53) (v := ?_) (a' := ?_) #[true, true, true, false, true, true, true, false, false] rfl rfl (any_of HT_.out (by kernel_rfl)) (fun _ _ _ h => h) (Or.inl ⟨by rfl, ?_⟩) ?_ ?_
                                    rotate_left
                                    · intro w'
                                      go_simp
                                      with_reducible rfl
                                    rotate_left
                                    · simp only [Act.put, List.setIfInBounds_toArray, List.set_cons_zero, List.set_cons_succ, i64_w, i32_w]
                                      rfl
                                    refine take_ (i := 3) (N := some 50) (v := ?_) (a' := ?_) #[true, true, true, true, true, true, true, false, false] rfl rfl (take_ofW HT_.out HW_.out (by kernel_rfl)) (fun _ _ _ h => h) (Or.inl ⟨by rfl, ?_⟩) hHeld ?_ ?_
                                    rotate_left
                                    · rintro w' ⟨s0, s1, s2, s3, s4, s5, s6, s7, s8, s9, s10, s11, s12, s13, s14, s15⟩
                                      go_simp
                                      with_reducible rfl
                                    rotate_left
                                    · simp only [Act.put, List.setIfInBounds_toArray, List.set_cons_zero, List.set_cons_succ, i64_w, i32_w]
                                      rfl
                                    refine take_ (i := 7) (N := some 54) (v := ?_) (a' := ?_) #[true, true, true, true, true, true, true, true, false] rfl rfl (take_ofW HT_.out HW_.out (by kernel_rfl)) (fun _ _ _ h => h) (Or.inl ⟨by rfl, ?_⟩) hHeld ?_ ?_
                                    rotate_left
                                    · rintro w' ⟨s0, s1, s2, s3, s4, s5, s6, s7, s8, s9, s10, s11, s12, s13, s14, s15⟩
                                      go_simp
                                      with_reducible rfl
                                    rotate_left
                                    · simp only [Act.put, List.setIfInBounds_toArray, List.set_cons_zero, List.set_cons_succ, i64_w, i32_w]
                                      rfl
                                    refine pure_ (i := 8) (N := some 55) (v := ?_) (a' := ?_) #[true, true, true, true, true, true, true, true, true] rfl rfl (any_of HT_.out (by kernel_rfl)) (fun _ _ _ h => h) (Or.inl ⟨by rfl, ?_⟩) ?_ ?_
                                    rotate_left
                                    · intro w'
                                      go_simp
                                      with_reducible rfl
                                    rotate_left
                                    · simp only [Act.put, List.setIfInBounds_toArray, List.set_cons_zero, List.set_cons_succ, i64_w, i32_w]
                                      rfl
                                    refine done_ (done_of HT_.out (by kernel_rfl)) ?_
                                    try go_wp2
                                    have n0_ := Aside0.mk (Kd.R_drew HO_3.out)
                                    have n1_ := Aside0.mk (below_drew1 HB.out)
                                    clear HO_3
                                    clear HB
                                    have HO_3 := n0_
                                    have HB := n1_
                                    clear n0_ n1_
                                    have p258 : 0 ≤ (x7_3 : Int) := of_decide_eq_true (by first | (with_reducible assumption) | assumption)
                                    have q258 : x7_3 < (t247.length : Int) := of_decide_eq_true (by first | (with_reducible assumption) | assumption)
                                    obtain ⟨ad258, e258, hx258_0, hx258_1, hx258_2, hx258_3, hx258_4, hx258_5, hx258_6, hx258_7⟩ := at_T28 (Kd.R_reads' HO_3.out).2.2 x7_3 p258 q258
                                    cases e258
                                    replace p258 := eq_true p258
                                    replace q258 := eq_true q258
                                    have p259 : 0 ≤ (x5_2 : Int) := of_decide_eq_true (by first | (with_reducible assumption) | assumption)
                                    have q259 : x5_2 < (l0.length : Int) := of_decide_eq_true (by first | (with_reducible assumption) | assumption)
                                    obtain ⟨ad259, e259, hx259_0, hx259_1, hx259_2, hx259_3, hx259_4, hx259_5, hx259_6, hx259_7⟩ := at_T28 HR0.out x5_2 p259 q259
                                    have hw259_7 := hx259_7
                                    have hw259_6 := hx259_6
                                    have hw259_5 := hx259_5
                                    have hw259_4 := hx259_4
                                    have hw259_3 := hx259_3
                                    have hw259_2 := hx259_2
                                    have hw259_1 := hx259_1
                                    have hw259_0 := hx259_0
                                    obtain rfl : ad254 = ad259 := (by injection e259)
                                    replace hx259_0 := (HB.out.cell (World.block_lt_of_cell? w _ hx259_0)).trans hx259_0
                                    replace hx259_1 := (HB.out.cell (World.block_lt_of_cell? w _ hx259_1)).trans hx259_1
                                    replace hx259_2 := (HB.out.cell (World.block_lt_of_cell? w _ hx259_2)).trans hx259_2
                                    replace hx259_3 := (HB.out.cell (World.block_lt_of_cell? w _ hx259_3)).trans hx259_3
                                    replace hx259_4 := (HB.out.cell (World.block_lt_of_cell? w _ hx259_4)).trans hx259_4
                                    replace hx259_5 := (HB.out.cell (World.block_lt_of_cell? w _ hx259_5)).trans hx259_5
                                    replace hx259_6 := (HB.out.cell (World.block_lt_of_cell? w _ hx259_6)).trans hx259_6
                                    replace hx259_7 := (HB.out.cell (World.block_lt_of_cell? w _ hx259_7)).trans hx259_7
                                    replace p259 := eq_true p259
                                    replace q259 := eq_true q259
                                    refine start_ (n := 9) (S := fun w' => w'.cell? (ad258.add ((x7_3).toNat * 8)) = some (.int .u64 ((rd_T28 t247 x7_3).f0)) ∧ w'.cell? ⟨(ad258.add ((x7_3).toNat * 8)).block, (ad258.add ((x7_3).toNat * 8)).off + 1, none⟩ = some (.int .u64 ((rd_T28 t247 x7_3).f1)) ∧ w'.cell? ⟨(ad258.add ((x7_3).toNat * 8)).block, (ad258.add ((x7_3).toNat * 8)).off + 2, none⟩ = some (.int .u64 ((rd_T28 t247 x7_3).f2)) ∧ w'.cell? ⟨(ad258.add ((x7_3).toNat * 8)).block, (ad258.add ((x7_3).toNat * 8)).off + 3, none⟩ = some (.int .u64 ((rd_T28 t247 x7_3).f3)) ∧ w'.cell? ⟨(ad258.add ((x7_3).toNat * 8)).block, (ad258.add ((x7_3).toNat * 8)).off + 4, none⟩ = some (.int .u64 ((rd_T28 t247 x7_3).f4)) ∧ w'.cell? ⟨(ad258.add ((x7_3).toNat * 8)).block, (ad258.add ((x7_3).toNat * 8)).off + 5, none⟩ = some (.string ((rd_T28 t247 x7_3).f5)) ∧ w'.cell? ⟨(ad258.add ((x7_3).toNat * 8)).block, (ad258.add ((x7_3).toNat * 8)).off + 6, none⟩ = some (.string ((rd_T28 t247 x7_3).f6)) ∧ w'.cell? ⟨(ad258.add ((x7_3).toNat * 8)).block, (ad258.add ((x7_3).toNat * 8)).off + 7, none⟩ = some (.bool ((rd_T28 t247 x7_3).f7)) ∧ w'.cell? (ad254.add ((x5_2).toNat * 8)) = some (.int .u64 ((rd_T28 l0 x5_2).f0)) ∧ w'.cell? ⟨(ad254.add ((x5_2).toNat * 8)).block, (ad254.add ((x5_2).toNat * 8)).off + 1, none⟩ = some (.int .u64 ((rd_T28 l0 x5_2).f1)) ∧ w'.cell? ⟨(ad254.add ((x5_2).toNat * 8)).block, (ad254.add ((x5_2).toNat * 8)).off + 2, none⟩ = some (.int .u64 ((rd_T28 l0 x5_2).f2)) ∧ w'.cell? ⟨(ad254.add ((x5_2).toNat * 8)).block, (ad254.add ((x5_2).toNat * 8)).off + 3, none⟩ = some (.int .u64 ((rd_T28 l0 x5_2).f3)) ∧ w'.cell? ⟨(ad254.add ((x5_2).toNat * 8)).block, (ad254.add ((x5_2).toNat * 8)).off + 4, none⟩ = some (.int .u64 ((rd_T28 l0 x5_2).f4)) ∧ w'.cell? ⟨(ad254.add ((x5_2).toNat * 8)).block, (ad254.add ((x5_2).toNat * 8)).off + 5, none⟩ = some (.string ((rd_T28 l0 x5_2).f5)) ∧ w'.cell? ⟨(ad254.add ((x5_2).toNat * 8)).block, (ad254.add ((x5_2).toNat * 8)).off + 6, none⟩ = some (.string ((rd_T28 l0 x5_2).f6)) ∧ w'.cell? ⟨(ad254.add ((x5_2).toNat * 8)).block, (ad254.add ((x5_2).toNat * 8)).off + 7, none⟩ = some (.bool ((rd_T28 l0 x5_2).f7))) (ds := []) #[false, false, false, false, false, false, false, false, false] (by kernel_rfl) rfl rfl ⟨hx258_0, hx258_1, hx258_2, hx258_3, hx258_4, hx258_5, hx258_6, hx258_7, ((HB.out.cell (World.block_lt_of_cell? w _ hw259_0)).trans hw259_0), ((HB.out.cell (World.block_lt_of_cell? w _ hw259_1)).trans hw259_1), ((HB.out.cell (World.block_lt_of_cell? w _ hw259_2)).trans hw259_2), ((HB.out.cell (World.block_lt_of_cell? w _ hw259_3)).trans hw259_3), ((HB.out.cell (World.block_lt_of_cell? w _ hw259_4)).trans hw259_4), ((HB.out.cell (World.block_lt_of_cell? w _ hw259_5)).trans hw259_5), ((HB.out.cell (World.block_lt_of_cell? w _ hw259_6)).trans hw259_6), ((HB.out.cell (World.block_lt_of_cell? w _ hw259_7)).trans hw259_7)⟩ (fun hHeld => ?_); refine with_tabW winnowlaw03_SpanSorted.tab20 winnowlaw03_SpanSorted.bits20 (fun HT_ HW_ => ?_)
                                    generalize w32.drew = w33 at HO_3 HB hx258_0 hx258_1 hx258_2 hx258_3 hx258_4 hx258_5 hx258_6 hx258_7 hx259_0 hx259_1 hx259_2 hx259_3 hx259_4 hx259_5 hx259_6 hx259_7 hHeld ⊢
                                    refine pure_ (i := 0) (N := some 58) (v := ?_) (a' := ?_) #[true, false, false, false, false, false, false, false, false] rfl rfl (any_of HT_.out (by kernel_rfl)) (fun _ _ _ h => h) (Or.inl ⟨by rfl, ?_⟩) ?_ ?_
                                    rotate_left
                                    · intro w'
                                      go_simp
                                      with_reducible rfl
                                    rotate_left
                                    · simp only [Act.put, List.setIfInBounds_toArray, List.set_cons_zero, List.set_cons_succ, i64_w, i32_w]
                                      rfl
                                    refine pure_ (i := 1) (N := some 59) (v := ?_) (a' := ?_) #[true, true, false, false, false, false, false, false, false] rfl rfl (any_of HT_.out (by kernel_rfl)) (fun _ _ _ h => h) (Or.inl ⟨by rfl, ?_⟩) ?_ ?_
                                    rotate_left
                                    · intro w'
                                      go_simp
                                      with_reducible rfl
                                    rotate_left
                                    · simp only [Act.put, List.setIfInBounds_toArray, List.set_cons_zero, List.set_cons_succ, i64_w, i32_w]
                                      rfl
                                    refine pure_ (i := 2) (N := some 60) (v := ?_) (a' := ?_) #[true, true, true, false, false, false, false, false, false] rfl rfl (any_of HT_.out (by kernel_rfl)) (fun _ _ _ h => h) (Or.inl ⟨by rfl, ?_⟩) ?_ ?_
                                    rotate_left
                                    · intro w'
                                      go_simp
                                      with_reducible rfl
                                    rotate_left
                                    · simp only [Act.put, List.setIfInBounds_toArray, List.set_cons_zero, List.set_cons_succ, i64_w, i32_w]
                                      rfl
                                    refine pure_ (i := 4) (N := some 62) (v := ?_) (a' := ?_) #[true, true, true, false, true, false, false, false, false] rfl rfl (any_of HT_.out (by kernel_rfl)) (fun _ _ _ h => h) (Or.inl ⟨by rfl, ?_⟩) ?_ ?_
                                    rotate_left
                                    · intro w'
                                      go_simp
                                      with_reducible rfl
                                    rotate_left
                                    · simp only [Act.put, List.setIfInBounds_toArray, List.set_cons_zero, List.set_cons_succ, i64_w, i32_w]
                                      rfl
                                    refine pure_ (i := 5) (N := some 63) (v := ?_) (a' := ?_) #[true, true, true, false, true, true, false, false, false] rfl rfl (any_of HT_.out (by kernel_rfl)) (fun _ _ _ h => h) (Or.inl ⟨by rfl, ?_⟩) ?_ ?_
                                    rotate_left
                                    · intro w'
                                      go_simp
                                      with_reducible rfl
                                    rotate_left
                                    · simp only [Act.put, List.setIfInBounds_toArray, List.set_cons_zero, List.set_cons_succ, i64_w, i32_w]
                                      rfl
                                    refine pure_ (i := 6) (N := some 64) (v := ?_) (a' := ?_) #[true, true, true, false, true, true, true, false, false] rfl rfl (any_of HT_.out (by kernel_rfl)) (fun _ _ _ h => h) (Or.inl ⟨by rfl, ?_⟩) ?_ ?_
                                    rotate_left
                                    · intro w'
                                      go_simp
                                      with_reducible rfl
                                    rotate_left
                                    · simp only [Act.put, List.setIfInBounds_toArray, List.set_cons_zero, List.set_cons_succ, i64_w, i32_w]
                                      rfl
                                    refine take_ (i := 3) (N := some 61) (v := ?_) (a' := ?_) #[true, true, true, true, true, true, true, false, false] rfl rfl (take_ofW HT_.out HW_.out (by kernel_rfl)) (fun _ _ _ h => h) (Or.inl ⟨by rfl, ?_⟩) hHeld ?_ ?_
                                    rotate_left
                                    · rintro w' ⟨s0, s1, s2, s3, s4, s5, s6, s7, s8, s9, s10, s11, s12, s13, s14, s15⟩
                                      go_simp
                                      with_reducible rfl
                                    rotate_left
                                    · simp only [Act.put, List.setIfInBounds_toArray, List.set_cons_zero, List.set_cons_succ, i64_w, i32_w]
                                      rfl
                                    refine take_ (i := 7) (N := some 65) (v := ?_) (a' := ?_) #[true, true, true, true, true, true, true, true, false] rfl rfl (take_ofW HT_.out HW_.out (by kernel_rfl)) (fun _ _ _ h => h) (Or.inl ⟨by rfl, ?_⟩) hHeld ?_ ?_
                                    rotate_left
                                    · rintro w' ⟨s0, s1, s2, s3, s4, s5, s6, s7, s8, s9, s10, s11, s12, s13, s14, s15⟩
                                      go_simp
                                      with_reducible rfl
                                    rotate_left
                                    · simp only [Act.put, List.setIfInBounds_toArray, List.set_cons_zero, List.set_cons_succ, i64_w, i32_w]
                                      rfl
                                    refine pure_ (i := 8) (N := some 66) (v := ?_) (a' := ?_) #[true, true, true, true, true, true, true, true, true] rfl rfl (any_of HT_.out (by kernel_rfl)) (fun _ _ _ h => h) (Or.inl ⟨by rfl, ?_⟩) ?_ ?_
                                    rotate_left
                                    · intro w'
                                      go_simp
                                      with_reducible rfl
                                    rotate_left
                                    · simp only [Act.put, List.setIfInBounds_toArray, List.set_cons_zero, List.set_cons_succ, i64_w, i32_w]
                                      rfl
                                    refine done_ (done_of HT_.out (by kernel_rfl)) ?_
                                    try go_wp2
                                    go_roundg k3
                                    case measure => have := HK1.out; have := HK2.out; have := HK3.out; omega
                                    case rel => exact ⟨(wrap64 (x6_3 - 1)), (wrap64 (x7_3 + 1)), (by first | rfl | (simp; done) | (simp [*]; done)), (by first | rfl | (simp; done) | (simp [*]; done)), H', ⟨by have := HK1.out; have := HK2.out; have := HK3.out; omega⟩, ⟨by (with_reducible repeat (first | apply Kd.R_alloc | apply Kd.R_drewN | apply Kd.R_drew)); exact HO_3.out⟩, ⟨by repeat (first | (with_reducible first | exact HB.out | apply below_alloc | apply pw_below_drewN | apply below_drew1) | exact HB.out)⟩⟩
                                  · rw [if_neg c31] at H
                                    have c31b0 : (((rd_T28 t247 x7_3).f0) == ((rd_T28 l0 x5_2).f0) && (((rd_T28 t247 x7_3).f1) == ((rd_T28 l0 x5_2).f1) && (((rd_T28 t247 x7_3).f2) == ((rd_T28 l0 x5_2).f2) && (((rd_T28 t247 x7_3).f3) == ((rd_T28 l0 x5_2).f3) && (((rd_T28 t247 x7_3).f4) == ((rd_T28 l0 x5_2).f4) && ((((rd_T28 t247 x7_3).f5).toList) == (((rd_T28 l0 x5_2).f5).toList) && ((((rd_T28 t247 x7_3).f6).toList) == (((rd_T28 l0 x5_2).f6).toList) && (((rd_T28 t247 x7_3).f7) == ((rd_T28 l0 x5_2).f7))))))))) = false := by simpa using c31
                                    (try (have c31b1 : decide (((rd_T28 t247 x7_3).f0) = ((rd_T28 l0 x5_2).f0) && (((rd_T28 t247 x7_3).f1) == ((rd_T28 l0 x5_2).f1) && (((rd_T28 t247 x7_3).f2) == ((rd_T28 l0 x5_2).f2) && (((rd_T28 t247 x7_3).f3) == ((rd_T28 l0 x5_2).f3) && (((rd_T28 t247 x7_3).f4) == ((rd_T28 l0 x5_2).f4) && ((((rd_T28 t247 x7_3).f5).toList) == (((rd_T28 l0 x5_2).f5).toList) && ((((rd_T28 t247 x7_3).f6).toList) == (((rd_T28 l0 x5_2).f6).toList) && (((rd_T28 t247 x7_3).f7) == ((rd_T28 l0 x5_2).f7))))))))) = false := by simpa using c31))
                                    (try (have c31b2 : (((rd_T28 t247 x7_3).f0) == ((rd_T28 l0 x5_2).f0) && (((rd_T28 t247 x7_3).f1) == ((rd_T28 l0 x5_2).f1) && (((rd_T28 t247 x7_3).f2) == ((rd_T28 l0 x5_2).f2) && (((rd_T28 t247 x7_3).f3) == ((rd_T28 l0 x5_2).f3) && (((rd_T28 t247 x7_3).f4) == ((rd_T28 l0 x5_2).f4) && ((((rd_T28 t247 x7_3).f5).toList) == (((rd_T28 l0 x5_2).f5).toList) && ((((rd_T28 t247 x7_3).f6).toList) == (((rd_T28 l0 x5_2).f6).toList) && (((rd_T28 t247 x7_3).f7) == ((rd_T28 l0 x5_2).f7))))))))) = false := by simpa using c31))
                                    (try (have c31b3 : ¬ (((rd_T28 t247 x7_3).f0) = ((rd_T28 l0 x5_2).f0) && (((rd_T28 t247 x7_3).f1) == ((rd_T28 l0 x5_2).f1) && (((rd_T28 t247 x7_3).f2) == ((rd_T28 l0 x5_2).f2) && (((rd_T28 t247 x7_3).f3) == ((rd_T28 l0 x5_2).f3) && (((rd_T28 t247 x7_3).f4) == ((rd_T28 l0 x5_2).f4) && ((((rd_T28 t247 x7_3).f5).toList) == (((rd_T28 l0 x5_2).f5).toList) && ((((rd_T28 t247 x7_3).f6).toList) == (((rd_T28 l0 x5_2).f6).toList) && (((rd_T28 t247 x7_3).f7) == ((rd_T28 l0 x5_2).f7))))))))) := by simpa using c31))
                                    clear c31
                                    have H' := Aside0.mk H
                                    clear H
                                    try go_wp2
                                    have n0_ := Aside0.mk (Kd.R_drew HO_3.out)
                                    have n1_ := Aside0.mk (below_drew1 HB.out)
                                    clear HO_3
                                    clear HB
                                    have HO_3 := n0_
                                    have HB := n1_
                                    clear n0_ n1_
                                    have p254 : 0 ≤ (x7_3 : Int) := of_decide_eq_true (by first | (with_reducible assumption) | assumption)
                                    have q254 : x7_3 < (l0.length : Int) := of_decide_eq_true (by first | (with_reducible assumption) | assumption)
                                    obtain ⟨ad254, e254, hx254_0, hx254_1, hx254_2, hx254_3, hx254_4, hx254_5, hx254_6, hx254_7⟩ := at_T28 HR0.out x7_3 p254 q254
                                    have hw254_7 := hx254_7
                                    have hw254_6 := hx254_6
                                    have hw254_5 := hx254_5
                                    have hw254_4 := hx254_4
                                    have hw254_3 := hx254_3
                                    have hw254_2 := hx254_2
                                    have hw254_1 := hx254_1
                                    have hw254_0 := hx254_0
                                    cases e254
                                    replace hx254_0 := (HB.out.cell (World.block_lt_of_cell? w _ hx254_0)).trans hx254_0
                                    replace hx254_1 := (HB.out.cell (World.block_lt_of_cell? w _ hx254_1)).trans hx254_1
                                    replace hx254_2 := (HB.out.cell (World.block_lt_of_cell? w _ hx254_2)).trans hx254_2
                                    replace hx254_3 := (HB.out.cell (World.block_lt_of_cell? w _ hx254_3)).trans hx254_3
                                    replace hx254_4 := (HB.out.cell (World.block_lt_of_cell? w _ hx254_4)).trans hx254_4
                                    replace hx254_5 := (HB.out.cell (World.block_lt_of_cell? w _ hx254_5)).trans hx254_5
                                    replace hx254_6 := (HB.out.cell (World.block_lt_of_cell? w _ hx254_6)).trans hx254_6
                                    replace hx254_7 := (HB.out.cell (World.block_lt_of_cell? w _ hx254_7)).trans hx254_7
                                    replace p254 := eq_true p254
                                    replace q254 := eq_true q254
                                    have p255 : 0 ≤ (x5_2 : Int) := of_decide_eq_true (by first | (with_reducible assumption) | assumption)
                                    have q255 : x5_2 < (l0.length : Int) := of_decide_eq_true (by first | (with_reducible assumption) | assumption)
                                    obtain ⟨ad255, e255, hx255_0, hx255_1, hx255_2, hx255_3, hx255_4, hx255_5, hx255_6, hx255_7⟩ := at_T28 HR0.out x5_2 p255 q255
                                    have hw255_7 := hx255_7
                                    have hw255_6 := hx255_6
                                    have hw255_5 := hx255_5
                                    have hw255_4 := hx255_4
                                    have hw255_3 := hx255_3
                                    have hw255_2 := hx255_2
                                    have hw255_1 := hx255_1
                                    have hw255_0 := hx255_0
                                    obtain rfl : ad254 = ad255 := (by injection e255)
                                    replace hx255_0 := (HB.out.cell (World.block_lt_of_cell? w _ hx255_0)).trans hx255_0
                                    replace hx255_1 := (HB.out.cell (World.block_lt_of_cell? w _ hx255_1)).trans hx255_1
                                    replace hx255_2 := (HB.out.cell (World.block_lt_of_cell? w _ hx255_2)).trans hx255_2
                                    replace hx255_3 := (HB.out.cell (World.block_lt_of_cell? w _ hx255_3)).trans hx255_3
                                    replace hx255_4 := (HB.out.cell (World.block_lt_of_cell? w _ hx255_4)).trans hx255_4
                                    replace hx255_5 := (HB.out.cell (World.block_lt_of_cell? w _ hx255_5)).trans hx255_5
                                    replace hx255_6 := (HB.out.cell (World.block_lt_of_cell? w _ hx255_6)).trans hx255_6
                                    replace hx255_7 := (HB.out.cell (World.block_lt_of_cell? w _ hx255_7)).trans hx255_7
                                    replace p255 := eq_true p255
                                    replace q255 := eq_true q255
                                    refine start_ (n := 9) (S := fun w' => w'.cell? (ad254.add ((x7_3).toNat * 8)) = some (.int .u64 ((rd_T28 l0 x7_3).f0)) ∧ w'.cell? ⟨(ad254.add ((x7_3).toNat * 8)).block, (ad254.add ((x7_3).toNat * 8)).off + 1, none⟩ = some (.int .u64 ((rd_T28 l0 x7_3).f1)) ∧ w'.cell? ⟨(ad254.add ((x7_3).toNat * 8)).block, (ad254.add ((x7_3).toNat * 8)).off + 2, none⟩ = some (.int .u64 ((rd_T28 l0 x7_3).f2)) ∧ w'.cell? ⟨(ad254.add ((x7_3).toNat * 8)).block, (ad254.add ((x7_3).toNat * 8)).off + 3, none⟩ = some (.int .u64 ((rd_T28 l0 x7_3).f3)) ∧ w'.cell? ⟨(ad254.add ((x7_3).toNat * 8)).block, (ad254.add ((x7_3).toNat * 8)).off + 4, none⟩ = some (.int .u64 ((rd_T28 l0 x7_3).f4)) ∧ w'.cell? ⟨(ad254.add ((x7_3).toNat * 8)).block, (ad254.add ((x7_3).toNat * 8)).off + 5, none⟩ = some (.string ((rd_T28 l0 x7_3).f5)) ∧ w'.cell? ⟨(ad254.add ((x7_3).toNat * 8)).block, (ad254.add ((x7_3).toNat * 8)).off + 6, none⟩ = some (.string ((rd_T28 l0 x7_3).f6)) ∧ w'.cell? ⟨(ad254.add ((x7_3).toNat * 8)).block, (ad254.add ((x7_3).toNat * 8)).off + 7, none⟩ = some (.bool ((rd_T28 l0 x7_3).f7)) ∧ w'.cell? (ad254.add ((x5_2).toNat * 8)) = some (.int .u64 ((rd_T28 l0 x5_2).f0)) ∧ w'.cell? ⟨(ad254.add ((x5_2).toNat * 8)).block, (ad254.add ((x5_2).toNat * 8)).off + 1, none⟩ = some (.int .u64 ((rd_T28 l0 x5_2).f1)) ∧ w'.cell? ⟨(ad254.add ((x5_2).toNat * 8)).block, (ad254.add ((x5_2).toNat * 8)).off + 2, none⟩ = some (.int .u64 ((rd_T28 l0 x5_2).f2)) ∧ w'.cell? ⟨(ad254.add ((x5_2).toNat * 8)).block, (ad254.add ((x5_2).toNat * 8)).off + 3, none⟩ = some (.int .u64 ((rd_T28 l0 x5_2).f3)) ∧ w'.cell? ⟨(ad254.add ((x5_2).toNat * 8)).block, (ad254.add ((x5_2).toNat * 8)).off + 4, none⟩ = some (.int .u64 ((rd_T28 l0 x5_2).f4)) ∧ w'.cell? ⟨(ad254.add ((x5_2).toNat * 8)).block, (ad254.add ((x5_2).toNat * 8)).off + 5, none⟩ = some (.string ((rd_T28 l0 x5_2).f5)) ∧ w'.cell? ⟨(ad254.add ((x5_2).toNat * 8)).block, (ad254.add ((x5_2).toNat * 8)).off + 6, none⟩ = some (.string ((rd_T28 l0 x5_2).f6)) ∧ w'.cell? ⟨(ad254.add ((x5_2).toNat * 8)).block, (ad254.add ((x5_2).toNat * 8)).off + 7, none⟩ = some (.bool ((rd_T28 l0 x5_2).f7))) (ds := []) #[false, false, false, false, false, false, false, false, false] (by kernel_rfl) rfl rfl ⟨((HB.out.cell (World.block_lt_of_cell? w _ hw254_0)).trans hw254_0), ((HB.out.cell (World.block_lt_of_cell? w _ hw254_1)).trans hw254_1), ((HB.out.cell (World.block_lt_of_cell? w _ hw254_2)).trans hw254_2), ((HB.out.cell (World.block_lt_of_cell? w _ hw254_3)).trans hw254_3), ((HB.out.cell (World.block_lt_of_cell? w _ hw254_4)).trans hw254_4), ((HB.out.cell (World.block_lt_of_cell? w _ hw254_5)).trans hw254_5), ((HB.out.cell (World.block_lt_of_cell? w _ hw254_6)).trans hw254_6), ((HB.out.cell (World.block_lt_of_cell? w _ hw254_7)).trans hw254_7), ((HB.out.cell (World.block_lt_of_cell? w _ hw255_0)).trans hw255_0), ((HB.out.cell (World.block_lt_of_cell? w _ hw255_1)).trans hw255_1), ((HB.out.cell (World.block_lt_of_cell? w _ hw255_2)).trans hw255_2), ((HB.out.cell (World.block_lt_of_cell? w _ hw255_3)).trans hw255_3), ((HB.out.cell (World.block_lt_of_cell? w _ hw255_4)).trans hw255_4), ((HB.out.cell (World.block_lt_of_cell? w _ hw255_5)).trans hw255_5), ((HB.out.cell (World.block_lt_of_cell? w _ hw255_6)).trans hw255_6), ((HB.out.cell (World.block_lt_of_cell? w _ hw255_7)).trans hw255_7)⟩ (fun hHeld => ?_); refine with_tabW winnowlaw03_SpanSorted.tab18 winnowlaw03_SpanSorted.bits18 (fun HT_ HW_ => ?_)
                                    generalize wr.drew = w34 at HO_3 HB hx254_0 hx254_1 hx254_2 hx254_3 hx254_4 hx254_5 hx254_6 hx254_7 hx255_0 hx255_1 hx255_2 hx255_3 hx255_4 hx255_5 hx255_6 hx255_7 hHeld ⊢
                                    refine pure_ (i := 0) (N := some 47) (v := ?_) (a' := ?_) #[true, false, false, false, false, false, false, false, false] rfl rfl (any_of HT_.out (by kernel_rfl)) (fun _ _ _ h => h) (Or.inl ⟨by rfl, ?_⟩) ?_ ?_
                                    rotate_left
                                    · intro w'
                                      go_simp
                                      with_reducible rfl
                                    rotate_left
                                    · simp only [Act.put, List.setIfInBounds_toArray, List.set_cons_zero, List.set_cons_succ, i64_w, i32_w]
                                      rfl
                                    refine pure_ (i := 1) (N := some 48) (v := ?_) (a' := ?_) #[true, true, false, false, false, false, false, false, false] rfl rfl (any_of HT_.out (by kernel_rfl)) (fun _ _ _ h => h) (Or.inl ⟨by rfl, ?_⟩) ?_ ?_
                                    rotate_left
                                    · intro w'
                                      go_simp
                                      with_reducible rfl
                                    rotate_left
                                    · simp only [Act.put, List.setIfInBounds_toArray, List.set_cons_zero, List.set_cons_succ, i64_w, i32_w]
                                      rfl
                                    refine pure_ (i := 2) (N := some 49) (v := ?_) (a' := ?_) #[true, true, true, false, false, false, false, false, false] rfl rfl (any_of HT_.out (by kernel_rfl)) (fun _ _ _ h => h) (Or.inl ⟨by rfl, ?_⟩) ?_ ?_
                                    rotate_left
                                    · intro w'
                                      go_simp
                                      with_reducible rfl
                                    rotate_left
                                    · simp only [Act.put, List.setIfInBounds_toArray, List.set_cons_zero, List.set_cons_succ, i64_w, i32_w]
                                      rfl
                                    refine pure_ (i := 4) (N := some 51) (v := ?_) (a' := ?_) #[true, true, true, false, true, false, false, false, false] rfl rfl (any_of HT_.out (by kernel_rfl)) (fun _ _ _ h => h) (Or.inl ⟨by rfl, ?_⟩) ?_ ?_
                                    rotate_left
                                    · intro w'
                                      go_simp
                                      with_reducible rfl
                                    rotate_left
                                    · simp only [Act.put, List.setIfInBounds_toArray, List.set_cons_zero, List.set_cons_succ, i64_w, i32_w]
                                      rfl
                                    refine pure_ (i := 5) (N := some 52) (v := ?_) (a' := ?_) #[true, true, true, false, true, true, false, false, false] rfl rfl (any_of HT_.out (by kernel_rfl)) (fun _ _ _ h => h) (Or.inl ⟨by rfl, ?_⟩) ?_ ?_
                                    rotate_left
                                    · intro w'
                                      go_simp
                                      with_reducible rfl
                                    rotate_left
                                    · simp only [Act.put, List.setIfInBounds_toArray, List.set_cons_zero, List.set_cons_succ, i64_w, i32_w]
                                      rfl
                                    refine pure_ (i := 6) (N := some 53) (v := ?_) (a' := ?_) #[true, true, true, false, true, true, true, false, false] rfl rfl (any_of HT_.out (by kernel_rfl)) (fun _ _ _ h => h) (Or.inl ⟨by rfl, ?_⟩) ?_ ?_
                                    rotate_left
                                    · intro w'
                                      go_simp
                                      with_reducible rfl
                                    rotate_left
                                    · simp only [Act.put, List.setIfInBounds_toArray, List.set_cons_zero, List.set_cons_succ, i64_w, i32_w]
                                      rfl
                                    refine take_ (i := 3) (N := some 50) (v := ?_) (a' := ?_) #[true, true, true, true, true, true, true, false, false] rfl rfl (take_ofW HT_.out HW_.out (by kernel_rfl)) (fun _ _ _ h => h) (Or.inl ⟨by rfl, ?_⟩) hHeld ?_ ?_
                                    rotate_left
                                    · rintro w' ⟨s0, s1, s2, s3, s4, s5, s6, s7, s8, s9, s10, s11, s12, s13, s14, s15⟩
                                      go_simp
                                      with_reducible rfl
                                    rotate_left
                                    · simp only [Act.put, List.setIfInBounds_toArray, List.set_cons_zero, List.set_cons_succ, i64_w, i32_w]
                                      rfl
                                    refine take_ (i := 7) (N := some 54) (v := ?_) (a' := ?_) #[true, true, true, true, true, true, true, true, false] rfl rfl (take_ofW HT_.out HW_.out (by kernel_rfl)) (fun _ _ _ h => h) (Or.inl ⟨by rfl, ?_⟩) hHeld ?_ ?_
                                    rotate_left
                                    · rintro w' ⟨s0, s1, s2, s3, s4, s5, s6, s7, s8, s9, s10, s11, s12, s13, s14, s15⟩
                                      go_simp
                                      with_reducible rfl
                                    rotate_left
                                    · simp only [Act.put, List.setIfInBounds_toArray, List.set_cons_zero, List.set_cons_succ, i64_w, i32_w]
                                      rfl
                                    refine pure_ (i := 8) (N := some 55) (v := ?_) (a' := ?_) #[true, true, true, true, true, true, true, true, true] rfl rfl (any_of HT_.out (by kernel_rfl)) (fun _ _ _ h => h) (Or.inl ⟨by rfl, ?_⟩) ?_ ?_
                                    rotate_left
                                    · intro w'
                                      go_simp
                                      with_reducible rfl
                                    rotate_left
                                    · simp only [Act.put, List.setIfInBounds_toArray, List.set_cons_zero, List.set_cons_succ, i64_w, i32_w]
                                      rfl
                                    refine done_ (done_of HT_.out (by kernel_rfl)) ?_
                                    try go_wp2
                                    have n0_ := Aside0.mk (Kd.R_drew HO_3.out)
                                    have n1_ := Aside0.mk (below_drew1 HB.out)
                                    clear HO_3
                                    clear HB
                                    have HO_3 := n0_
                                    have HB := n1_
                                    clear n0_ n1_
                                    have p258 : 0 ≤ (x7_3 : Int) := of_decide_eq_true (by first | (with_reducible assumption) | assumption)
                                    have q258 : x7_3 < (t247.length : Int) := of_decide_eq_true (by first | (with_reducible assumption) | assumption)
                                    obtain ⟨ad258, e258, hx258_0, hx258_1, hx258_2, hx258_3, hx258_4, hx258_5, hx258_6, hx258_7⟩ := at_T28 (Kd.R_reads' HO_3.out).2.2 x7_3 p258 q258
                                    cases e258
                                    replace p258 := eq_true p258
                                    replace q258 := eq_true q258
                                    have p259 : 0 ≤ (x5_2 : Int) := of_decide_eq_true (by first | (with_reducible assumption) | assumption)
                                    have q259 : x5_2 < (l0.length : Int) := of_decide_eq_true (by first | (with_reducible assumption) | assumption)
                                    obtain ⟨ad259, e259, hx259_0, hx259_1, hx259_2, hx259_3, hx259_4, hx259_5, hx259_6, hx259_7⟩ := at_T28 HR0.out x5_2 p259 q259
                                    have hw259_7 := hx259_7
                                    have hw259_6 := hx259_6
                                    have hw259_5 := hx259_5
                                    have hw259_4 := hx259_4
                                    have hw259_3 := hx259_3
                                    have hw259_2 := hx259_2
                                    have hw259_1 := hx259_1
                                    have hw259_0 := hx259_0
                                    obtain rfl : ad254 = ad259 := (by injection e259)
                                    replace hx259_0 := (HB.out.cell (World.block_lt_of_cell? w _ hx259_0)).trans hx259_0
                                    replace hx259_1 := (HB.out.cell (World.block_lt_of_cell? w _ hx259_1)).trans hx259_1
                                    replace hx259_2 := (HB.out.cell (World.block_lt_of_cell? w _ hx259_2)).trans hx259_2
                                    replace hx259_3 := (HB.out.cell (World.block_lt_of_cell? w _ hx259_3)).trans hx259_3
                                    replace hx259_4 := (HB.out.cell (World.block_lt_of_cell? w _ hx259_4)).trans hx259_4
                                    replace hx259_5 := (HB.out.cell (World.block_lt_of_cell? w _ hx259_5)).trans hx259_5
                                    replace hx259_6 := (HB.out.cell (World.block_lt_of_cell? w _ hx259_6)).trans hx259_6
                                    replace hx259_7 := (HB.out.cell (World.block_lt_of_cell? w _ hx259_7)).trans hx259_7
                                    replace p259 := eq_true p259
                                    replace q259 := eq_true q259
                                    refine start_ (n := 9) (S := fun w' => w'.cell? (ad258.add ((x7_3).toNat * 8)) = some (.int .u64 ((rd_T28 t247 x7_3).f0)) ∧ w'.cell? ⟨(ad258.add ((x7_3).toNat * 8)).block, (ad258.add ((x7_3).toNat * 8)).off + 1, none⟩ = some (.int .u64 ((rd_T28 t247 x7_3).f1)) ∧ w'.cell? ⟨(ad258.add ((x7_3).toNat * 8)).block, (ad258.add ((x7_3).toNat * 8)).off + 2, none⟩ = some (.int .u64 ((rd_T28 t247 x7_3).f2)) ∧ w'.cell? ⟨(ad258.add ((x7_3).toNat * 8)).block, (ad258.add ((x7_3).toNat * 8)).off + 3, none⟩ = some (.int .u64 ((rd_T28 t247 x7_3).f3)) ∧ w'.cell? ⟨(ad258.add ((x7_3).toNat * 8)).block, (ad258.add ((x7_3).toNat * 8)).off + 4, none⟩ = some (.int .u64 ((rd_T28 t247 x7_3).f4)) ∧ w'.cell? ⟨(ad258.add ((x7_3).toNat * 8)).block, (ad258.add ((x7_3).toNat * 8)).off + 5, none⟩ = some (.string ((rd_T28 t247 x7_3).f5)) ∧ w'.cell? ⟨(ad258.add ((x7_3).toNat * 8)).block, (ad258.add ((x7_3).toNat * 8)).off + 6, none⟩ = some (.string ((rd_T28 t247 x7_3).f6)) ∧ w'.cell? ⟨(ad258.add ((x7_3).toNat * 8)).block, (ad258.add ((x7_3).toNat * 8)).off + 7, none⟩ = some (.bool ((rd_T28 t247 x7_3).f7)) ∧ w'.cell? (ad254.add ((x5_2).toNat * 8)) = some (.int .u64 ((rd_T28 l0 x5_2).f0)) ∧ w'.cell? ⟨(ad254.add ((x5_2).toNat * 8)).block, (ad254.add ((x5_2).toNat * 8)).off + 1, none⟩ = some (.int .u64 ((rd_T28 l0 x5_2).f1)) ∧ w'.cell? ⟨(ad254.add ((x5_2).toNat * 8)).block, (ad254.add ((x5_2).toNat * 8)).off + 2, none⟩ = some (.int .u64 ((rd_T28 l0 x5_2).f2)) ∧ w'.cell? ⟨(ad254.add ((x5_2).toNat * 8)).block, (ad254.add ((x5_2).toNat * 8)).off + 3, none⟩ = some (.int .u64 ((rd_T28 l0 x5_2).f3)) ∧ w'.cell? ⟨(ad254.add ((x5_2).toNat * 8)).block, (ad254.add ((x5_2).toNat * 8)).off + 4, none⟩ = some (.int .u64 ((rd_T28 l0 x5_2).f4)) ∧ w'.cell? ⟨(ad254.add ((x5_2).toNat * 8)).block, (ad254.add ((x5_2).toNat * 8)).off + 5, none⟩ = some (.string ((rd_T28 l0 x5_2).f5)) ∧ w'.cell? ⟨(ad254.add ((x5_2).toNat * 8)).block, (ad254.add ((x5_2).toNat * 8)).off + 6, none⟩ = some (.string ((rd_T28 l0 x5_2).f6)) ∧ w'.cell? ⟨(ad254.add ((x5_2).toNat * 8)).block, (ad254.add ((x5_2).toNat * 8)).off + 7, none⟩ = some (.bool ((rd_T28 l0 x5_2).f7))) (ds := []) #[false, false, false, false, false, false, false, false, false] (by kernel_rfl) rfl rfl ⟨hx258_0, hx258_1, hx258_2, hx258_3, hx258_4, hx258_5, hx258_6, hx258_7, ((HB.out.cell (World.block_lt_of_cell? w _ hw259_0)).trans hw259_0), ((HB.out.cell (World.block_lt_of_cell? w _ hw259_1)).trans hw259_1), ((HB.out.cell (World.block_lt_of_cell? w _ hw259_2)).trans hw259_2), ((HB.out.cell (World.block_lt_of_cell? w _ hw259_3)).trans hw259_3), ((HB.out.cell (World.block_lt_of_cell? w _ hw259_4)).trans hw259_4), ((HB.out.cell (World.block_lt_of_cell? w _ hw259_5)).trans hw259_5), ((HB.out.cell (World.block_lt_of_cell? w _ hw259_6)).trans hw259_6), ((HB.out.cell (World.block_lt_of_cell? w _ hw259_7)).trans hw259_7)⟩ (fun hHeld => ?_); refine with_tabW winnowlaw03_SpanSorted.tab20 winnowlaw03_SpanSorted.bits20 (fun HT_ HW_ => ?_)
                                    generalize w34.drew = w35 at HO_3 HB hx258_0 hx258_1 hx258_2 hx258_3 hx258_4 hx258_5 hx258_6 hx258_7 hx259_0 hx259_1 hx259_2 hx259_3 hx259_4 hx259_5 hx259_6 hx259_7 hHeld ⊢
                                    refine pure_ (i := 0) (N := some 58) (v := ?_) (a' := ?_) #[true, false, false, false, false, false, false, false, false] rfl rfl (any_of HT_.out (by kernel_rfl)) (fun _ _ _ h => h) (Or.inl ⟨by rfl, ?_⟩) ?_ ?_
                                    rotate_left
                                    · intro w'
                                      go_simp
                                      with_reducible rfl
                                    rotate_left
                                    · simp only [Act.put, List.setIfInBounds_toArray, List.set_cons_zero, List.set_cons_succ, i64_w, i32_w]
                                      rfl
                                    refine pure_ (i := 1) (N := some 59) (v := ?_) (a' := ?_) #[true, true, false, false, false, false, false, false, false] rfl rfl (any_of HT_.out (by kernel_rfl)) (fun _ _ _ h => h) (Or.inl ⟨by rfl, ?_⟩) ?_ ?_
                                    rotate_left
                                    · intro w'
                                      go_simp
                                      with_reducible rfl
                                    rotate_left
                                    · simp only [Act.put, List.setIfInBounds_toArray, List.set_cons_zero, List.set_cons_succ, i64_w, i32_w]
                                      rfl
                                    refine pure_ (i := 2) (N := some 60) (v := ?_) (a' := ?_) #[true, true, true, false, false, false, false, false, false] rfl rfl (any_of HT_.out (by kernel_rfl)) (fun _ _ _ h => h) (Or.inl ⟨by rfl, ?_⟩) ?_ ?_
                                    rotate_left
                                    · intro w'
                                      go_simp
                                      with_reducible rfl
                                    rotate_left
                                    · simp only [Act.put, List.setIfInBounds_toArray, List.set_cons_zero, List.set_cons_succ, i64_w, i32_w]
                                      rfl
                                    refine pure_ (i := 4) (N := some 62) (v := ?_) (a' := ?_) #[true, true, true, false, true, false, false, false, false] rfl rfl (any_of HT_.out (by kernel_rfl)) (fun _ _ _ h => h) (Or.inl ⟨by rfl, ?_⟩) ?_ ?_
                                    rotate_left
                                    · intro w'
                                      go_simp
                                      with_reducible rfl
                                    rotate_left
                                    · simp only [Act.put, List.setIfInBounds_toArray, List.set_cons_zero, List.set_cons_succ, i64_w, i32_w]
                                      rfl
                                    refine pure_ (i := 5) (N := some 63) (v := ?_) (a' := ?_) #[true, true, true, false, true, true, false, false, false] rfl rfl (any_of HT_.out (by kernel_rfl)) (fun _ _ _ h => h) (Or.inl ⟨by rfl, ?_⟩) ?_ ?_
                                    rotate_left
                                    · intro w'
                                      go_simp
                                      with_reducible rfl
                                    rotate_left
                                    · simp only [Act.put, List.setIfInBounds_toArray, List.set_cons_zero, List.set_cons_succ, i64_w, i32_w]
                                      rfl
                                    refine pure_ (i := 6) (N := some 64) (v := ?_) (a' := ?_) #[true, true, true, false, true, true, true, false, false] rfl rfl (any_of HT_.out (by kernel_rfl)) (fun _ _ _ h => h) (Or.inl ⟨by rfl, ?_⟩) ?_ ?_
                                    rotate_left
                                    · intro w'
                                      go_simp
                                      with_reducible rfl
                                    rotate_left
                                    · simp only [Act.put, List.setIfInBounds_toArray, List.set_cons_zero, List.set_cons_succ, i64_w, i32_w]
                                      rfl
                                    refine take_ (i := 3) (N := some 61) (v := ?_) (a' := ?_) #[true, true, true, true, true, true, true, false, false] rfl rfl (take_ofW HT_.out HW_.out (by kernel_rfl)) (fun _ _ _ h => h) (Or.inl ⟨by rfl, ?_⟩) hHeld ?_ ?_
                                    rotate_left
                                    · rintro w' ⟨s0, s1, s2, s3, s4, s5, s6, s7, s8, s9, s10, s11, s12, s13, s14, s15⟩
                                      go_simp
                                      with_reducible rfl
                                    rotate_left
                                    · simp only [Act.put, List.setIfInBounds_toArray, List.set_cons_zero, List.set_cons_succ, i64_w, i32_w]
                                      rfl
                                    refine take_ (i := 7) (N := some 65) (v := ?_) (a' := ?_) #[true, true, true, true, true, true, true, true, false] rfl rfl (take_ofW HT_.out HW_.out (by kernel_rfl)) (fun _ _ _ h => h) (Or.inl ⟨by rfl, ?_⟩) hHeld ?_ ?_
                                    rotate_left
                                    · rintro w' ⟨s0, s1, s2, s3, s4, s5, s6, s7, s8, s9, s10, s11, s12, s13, s14, s15⟩
                                      go_simp
                                      with_reducible rfl
                                    rotate_left
                                    · simp only [Act.put, List.setIfInBounds_toArray, List.set_cons_zero, List.set_cons_succ, i64_w, i32_w]
                                      rfl
                                    refine pure_ (i := 8) (N := some 66) (v := ?_) (a' := ?_) #[true, true, true, true, true, true, true, true, true] rfl rfl (any_of HT_.out (by kernel_rfl)) (fun _ _ _ h => h) (Or.inl ⟨by rfl, ?_⟩) ?_ ?_
                                    rotate_left
                                    · intro w'
                                      go_simp
                                      with_reducible rfl
                                    rotate_left
                                    · simp only [Act.put, List.setIfInBounds_toArray, List.set_cons_zero, List.set_cons_succ, i64_w, i32_w]
                                      rfl
                                    refine done_ (done_of HT_.out (by kernel_rfl)) ?_
                                    try go_wp2
                                    go_roundg k3
                                    case measure => have := HK1.out; have := HK2.out; have := HK3.out; omega
                                    case rel => exact ⟨(x6_3), (wrap64 (x7_3 + 1)), (by first | rfl | (simp; done) | (simp [*]; done)), (by first | rfl | (simp; done) | (simp [*]; done)), H', ⟨by have := HK1.out; have := HK2.out; have := HK3.out; omega⟩, ⟨by (with_reducible repeat (first | apply Kd.R_alloc | apply Kd.R_drewN | apply Kd.R_drew)); exact HO_3.out⟩, ⟨by repeat (first | (with_reducible first | exact HB.out | apply below_alloc | apply pw_below_drewN | apply below_drew1) | exact HB.out)⟩⟩
                                · rw [if_neg c30] at H
                                  exact absurd H (by simp)
                            · rw [if_neg c22] at H
                              exact absurd H (by simp)
                          · rw [if_neg c21] at H
                            exact absurd H (by simp)
                        · rw [if_neg c20] at H
                          exact absurd H (by simp)
                      · rw [if_neg c19] at H
                        have c19b0 : decide (x7_3 < (l0.length : Int)) = false := decide_eq_false c19
                        clear c19
                        by_cases c36 : x6_3 = 0
                        · rw [if_pos c36] at H
                          have c36b0 : (x6_3 == 0) = true := beq_iff_eq.mpr c36
                          have c36b1 : (x6_3 != 0) = false := bne_eq_false_iff_eq.mpr c36
                          clear c36
                          have H' := Aside0.mk H
                          clear H
                          go_wp2
                          go_roundg k3
                          case measure => have := HK1.out; have := HK2.out; have := HK3.out; omega
                          case rel => exact ⟨(wrap64 (x5_2 + 1)), (by first | rfl | (simp; done) | (simp [*]; done)), H', ⟨by have := HK1.out; have := HK2.out; have := HK3.out; omega⟩, ⟨by (with_reducible repeat (first | apply Kd.R_alloc | apply Kd.R_drewN | apply Kd.R_drew)); exact HO_3.out⟩, ⟨by repeat (first | (with_reducible first | exact HB.out | apply below_alloc | apply pw_below_drewN | apply below_drew1) | exact HB.out)⟩⟩
                        · rw [if_neg c36] at H
                          have c36b0 : (x6_3 == 0) = false := beq_eq_false_iff_ne.mpr c36
                          have c36b1 : (x6_3 != 0) = true := bne_iff_ne.mpr c36
                          exact absurd ((Option.some.inj H).trans HRT_.out) (by decide)
                · rw [if_neg c18] at H
                  have c18b0 : decide (x5_2 < (l0.length : Int)) = false := decide_eq_false c18
                  clear c18
                  replace H := Option.bind_eq_some_iff.mp H
                  obtain ⟨t253, A370, H⟩ := H
                  replace H : (some t253) = some r := H
                  have A37 := Aside0.mk A370
                  clear A370
                  obtain rfl := Option.some.inj H
                  go_wp2_with (first | ((with_reducible refine gate_callee (f := 14) rfl ?_); refine goesL_ (some 71) rfl rfl Try.func14 (by kernel_rfl) rfl #[] rfl (by (try simp only [List.map_toArray, List.map_cons, List.map_nil]); first | done | rfl | (simp only [List.length_drop, List.length_take]; rfl)) ?_; (with_reducible refine (winnowlaw03_alive.calls  t253 _ A37.out).mono ?_); rintro e w38 ⟨rfl, hb⟩; refine ⟨_, rfl, ?_⟩; have n0_ := Aside0.mk (Kd.R_below (by (with_reducible repeat (first | apply Kd.R_alloc | apply Kd.R_drewN | apply Kd.R_drew)); exact HO_3.out) hb); have n1_ := Aside0.mk (below_step (by repeat (first | (with_reducible first | exact HB.out | apply below_alloc | apply pw_below_drewN | apply below_drew1) | exact HB.out)) hb); clear HO_3; clear HB; have HO_3 := n0_; have HB := n1_; clear n0_ n1_; (try clear hb); (try clear hb2); (try clear hk); (try clear hi)))
                  go_ret
                  exact ⟨by first | rfl | (simp [errW_none, errW_some] <;> rfl) | (simp [*, errW_none, errW_some] <;> rfl), by repeat (first | (with_reducible first | exact HB.out | apply below_alloc | apply pw_below_drewN | apply below_drew1) | exact HB.out)⟩
    · rw [if_neg c6] at H
      have c6b0 : ((t247.length : Int) == (l0.length : Int)) = false := beq_eq_false_iff_ne.mpr c6
      have c6b1 : ((t247.length : Int) != (l0.length : Int)) = true := bne_iff_ne.mpr c6
      have c6b2 : (t247.length == l0.length) = false := by first | simpa using c6 | (simp at c6 ⊢; omega)
      exact absurd ((Option.some.inj H).trans HRT_.out) (by decide)

end Go.Proofs.Ytigcdbeaachkoaa.PAll
