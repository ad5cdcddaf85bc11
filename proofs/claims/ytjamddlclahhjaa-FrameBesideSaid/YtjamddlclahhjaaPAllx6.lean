-- Laid by the kit's print.py, called for several functions at once (our call).
import Derived.Test.YtjamddlclahhjaaPAllx0
import Derived.Test.YtjamddlclahhjaaPAllx1
import Derived.Test.YtjamddlclahhjaaPAllx4
import Derived.Test.YtjamddlclahhjaaPAllx5
namespace Go.Proofs.Ytjamddlclahhjaa.PAll
open Go.RowKit Go.Proofs.YtjamddlclahhjaaW.PrintWords Go.Proofs.YtjamddlclahhjaaW.PrintLast Go.Proofs.YtjamddlclahhjaaW.PrintMore
attribute [local go_sem] max2_int min2_int max_two min_two max_three min_three max_four min_four   -- for this text's walks alone
set_option linter.unusedVariables false
set_option linter.unusedSimpArgs false

/-! ### winnowlaw02_FrameBack: function 7 -/
mutual
def winnowlaw02_FrameBack.l0 : Nat → List (List Int) → Int → List Int → List Int → Int → Option (Bool)
  | 0, _, _, _, _, _ => none
  | k + 1, x0, x1, x5, x6, x7 => if x7 < (x0.length : Int) then (if 0 ≤ x7 then ((frame_Put.f k x5 (rd_L1 x0 x7)).bind fun bt289 => (if bt289.2 = 0 then (if x6.length < 17592186044416 then (winnowlaw02_FrameBack.l0 k x0 x1 bt289.1 (x6 ++ [(bt289.1.length : Int)]) (wrap64 (x7 + 1))) else (none)) else (some false))) else (none)) else ((frame_All.f k x5).bind fun bt296 => (if bt296.2.2 = 0 then (if bt296.2.1 = (x5.length : Int) then ((winnowref02_Same.f k bt296.1 x0).bind fun t301 => (winnowlaw02_FrameBack.j1 k x0 x1 x5 x6 (!t301))) else (winnowlaw02_FrameBack.j1 k x0 x1 x5 x6 true)) else (winnowlaw02_FrameBack.j1 k x0 x1 x5 x6 true)))
def winnowlaw02_FrameBack.j1 : Nat → List (List Int) → Int → List Int → List Int → Bool → Option (Bool)
  | 0, _, _, _, _, _ => none
  | k + 1, x0, x1, x5, x6, x63 => if x63 = true then (some false) else (if x1 < 0 then (winnowlaw02_FrameBack.j2 k x0 x1 x5 x6 true) else (winnowlaw02_FrameBack.j2 k x0 x1 x5 x6 (decide (x1 > (x5.length : Int)))))
def winnowlaw02_FrameBack.j2 : Nat → List (List Int) → Int → List Int → List Int → Bool → Option (Bool)
  | 0, _, _, _, _, _ => none
  | k + 1, x0, x1, x5, x6, x71 => if x71 = true then ((winnowlaw02_alive.f).bind fun t302 => (some t302)) else (winnowlaw02_FrameBack.l1 k x0 x1 x5 x6 0 1)
def winnowlaw02_FrameBack.l1 : Nat → List (List Int) → Int → List Int → List Int → Int → Int → Option (Bool)
  | 0, _, _, _, _, _, _ => none
  | k + 1, x0, x1, x5, x6, x13, x14 => if x14 < (x6.length : Int) then (if 0 ≤ x14 then (if (rd x6 x14) ≤ x1 then (winnowlaw02_FrameBack.l1 k x0 x1 x5 x6 x14 (wrap64 (x14 + 1))) else (winnowlaw02_FrameBack.l1 k x0 x1 x5 x6 x13 (wrap64 (x14 + 1)))) else (none)) else (if 0 ≤ x1 then (if x1 ≤ (x5.length : Int) then ((frame_All.f k (x5.take (x1 : Int).toNat)).bind fun bt308 => (if 0 ≤ x13 then (if x13 < (x6.length : Int) then (if (rd x6 x13) = x1 then (if x13 ≤ (x0.length : Int) then ((winnowref02_Same.f k bt308.1 (x0.take (x13 : Int).toNat)).bind fun t318 => (if t318 = true then (if bt308.2.1 = (rd x6 x13) then (if bt308.2.2 = 0 then ((winnowlaw02_alive.f).bind fun t320 => (some t320)) else (some false)) else (some false)) else (some false))) else (none)) else (if x13 ≤ (x0.length : Int) then ((winnowref02_Same.f k bt308.1 (x0.take (x13 : Int).toNat)).bind fun t325 => (if t325 = true then (if bt308.2.1 = (rd x6 x13) then (if bt308.2.2 = 3 then ((winnowlaw02_alive.f).bind fun t327 => (some t327)) else (some false)) else (some false)) else (some false))) else (none))) else (none)) else (none))) else (none)) else (none))
end
def winnowlaw02_FrameBack.f (k : Nat) (l0 : List (List Int)) (a1 : Int) : Option (Bool) := (winnowlaw02_bound.f k l0).bind fun t283 => (if t283 = true then (winnowlaw02_FrameBack.l0 k l0 a1 ([] : List Int) (([0] : List Int)) 0) else ((winnowlaw02_alive.f).bind fun t284 => (some t284)))
theorem winnowlaw02_FrameBack.mono_l : ∀ k, (∀ y0 y1 y2 y3 y4, LeO (winnowlaw02_FrameBack.l0 k y0 y1 y2 y3 y4) (winnowlaw02_FrameBack.l0 (k + 1) y0 y1 y2 y3 y4)) ∧ (∀ y0 y1 y2 y3 y4, LeO (winnowlaw02_FrameBack.j1 k y0 y1 y2 y3 y4) (winnowlaw02_FrameBack.j1 (k + 1) y0 y1 y2 y3 y4)) ∧ (∀ y0 y1 y2 y3 y4, LeO (winnowlaw02_FrameBack.j2 k y0 y1 y2 y3 y4) (winnowlaw02_FrameBack.j2 (k + 1) y0 y1 y2 y3 y4)) ∧ (∀ y0 y1 y2 y3 y4 y5, LeO (winnowlaw02_FrameBack.l1 k y0 y1 y2 y3 y4 y5) (winnowlaw02_FrameBack.l1 (k + 1) y0 y1 y2 y3 y4 y5))
  | 0 => ⟨fun _ _ _ _ _ r h => by simp [winnowlaw02_FrameBack.l0] at h, fun _ _ _ _ _ r h => by simp [winnowlaw02_FrameBack.j1] at h, fun _ _ _ _ _ r h => by simp [winnowlaw02_FrameBack.j2] at h, fun _ _ _ _ _ _ r h => by simp [winnowlaw02_FrameBack.l1] at h⟩
  | k + 1 => by
    obtain ⟨ih0, ih1, ih2, ih3⟩ := winnowlaw02_FrameBack.mono_l k
    refine ⟨?_, ?_, ?_, ?_⟩
    · intro y0 y1 y2 y3 y4
      unfold winnowlaw02_FrameBack.l0
      repeat' first
      | (with_reducible exact ih0 _ _ _ _ _)
      | (with_reducible exact ih1 _ _ _ _ _)
      | (with_reducible exact ih2 _ _ _ _ _)
      | (with_reducible exact ih3 _ _ _ _ _ _)
      | (with_reducible exact frame_All.mono _ _)
      | (with_reducible exact frame_Put.mono _ _ _)
      | (with_reducible exact winnowlaw02_bound.mono _ _)
      | (with_reducible exact winnowref02_Same.mono _ _ _)
      | (with_reducible exact LeO.refl _)
      | (with_reducible exact LeO.none _)
      | (with_reducible refine LeO.ite ?_ ?_)
      | (with_reducible refine LeO.bind ?_ (fun _ => ?_))
      | exact ih0 _ _ _ _ _
      | exact ih1 _ _ _ _ _
      | exact ih2 _ _ _ _ _
      | exact ih3 _ _ _ _ _ _
      | exact frame_All.mono _ _
      | exact frame_Put.mono _ _ _
      | exact winnowlaw02_bound.mono _ _
      | exact winnowref02_Same.mono _ _ _
      | exact LeO.none _
      | refine LeO.ite ?_ ?_
      | refine LeO.bind ?_ (fun _ => ?_)
    · intro y0 y1 y2 y3 y4
      unfold winnowlaw02_FrameBack.j1
      repeat' first
      | (with_reducible exact ih0 _ _ _ _ _)
      | (with_reducible exact ih1 _ _ _ _ _)
      | (with_reducible exact ih2 _ _ _ _ _)
      | (with_reducible exact ih3 _ _ _ _ _ _)
      | (with_reducible exact frame_All.mono _ _)
      | (with_reducible exact frame_Put.mono _ _ _)
      | (with_reducible exact winnowlaw02_bound.mono _ _)
      | (with_reducible exact winnowref02_Same.mono _ _ _)
      | (with_reducible exact LeO.refl _)
      | (with_reducible exact LeO.none _)
      | (with_reducible refine LeO.ite ?_ ?_)
      | (with_reducible refine LeO.bind ?_ (fun _ => ?_))
      | exact ih0 _ _ _ _ _
      | exact ih1 _ _ _ _ _
      | exact ih2 _ _ _ _ _
      | exact ih3 _ _ _ _ _ _
      | exact frame_All.mono _ _
      | exact frame_Put.mono _ _ _
      | exact winnowlaw02_bound.mono _ _
      | exact winnowref02_Same.mono _ _ _
      | exact LeO.none _
      | refine LeO.ite ?_ ?_
      | refine LeO.bind ?_ (fun _ => ?_)
    · intro y0 y1 y2 y3 y4
      unfold winnowlaw02_FrameBack.j2
      repeat' first
      | (with_reducible exact ih0 _ _ _ _ _)
      | (with_reducible exact ih1 _ _ _ _ _)
      | (with_reducible exact ih2 _ _ _ _ _)
      | (with_reducible exact ih3 _ _ _ _ _ _)
      | (with_reducible exact frame_All.mono _ _)
      | (with_reducible exact frame_Put.mono _ _ _)
      | (with_reducible exact winnowlaw02_bound.mono _ _)
      | (with_reducible exact winnowref02_Same.mono _ _ _)
      | (with_reducible exact LeO.refl _)
      | (with_reducible exact LeO.none _)
      | (with_reducible refine LeO.ite ?_ ?_)
      | (with_reducible refine LeO.bind ?_ (fun _ => ?_))
      | exact ih0 _ _ _ _ _
      | exact ih1 _ _ _ _ _
      | exact ih2 _ _ _ _ _
      | exact ih3 _ _ _ _ _ _
      | exact frame_All.mono _ _
      | exact frame_Put.mono _ _ _
      | exact winnowlaw02_bound.mono _ _
      | exact winnowref02_Same.mono _ _ _
      | exact LeO.none _
      | refine LeO.ite ?_ ?_
      | refine LeO.bind ?_ (fun _ => ?_)
    · intro y0 y1 y2 y3 y4 y5
      unfold winnowlaw02_FrameBack.l1
      repeat' first
      | (with_reducible exact ih0 _ _ _ _ _)
      | (with_reducible exact ih1 _ _ _ _ _)
      | (with_reducible exact ih2 _ _ _ _ _)
      | (with_reducible exact ih3 _ _ _ _ _ _)
      | (with_reducible exact frame_All.mono _ _)
      | (with_reducible exact frame_Put.mono _ _ _)
      | (with_reducible exact winnowlaw02_bound.mono _ _)
      | (with_reducible exact winnowref02_Same.mono _ _ _)
      | (with_reducible exact LeO.refl _)
      | (with_reducible exact LeO.none _)
      | (with_reducible refine LeO.ite ?_ ?_)
      | (with_reducible refine LeO.bind ?_ (fun _ => ?_))
      | exact ih0 _ _ _ _ _
      | exact ih1 _ _ _ _ _
      | exact ih2 _ _ _ _ _
      | exact ih3 _ _ _ _ _ _
      | exact frame_All.mono _ _
      | exact frame_Put.mono _ _ _
      | exact winnowlaw02_bound.mono _ _
      | exact winnowref02_Same.mono _ _ _
      | exact LeO.none _
      | refine LeO.ite ?_ ?_
      | refine LeO.bind ?_ (fun _ => ?_)
theorem winnowlaw02_FrameBack.mono : ∀ a0 a1 k, LeO (winnowlaw02_FrameBack.f k a0 a1) (winnowlaw02_FrameBack.f (k + 1) a0 a1) := by
  intro a0 a1 k
  obtain ⟨ih0, ih1, ih2, ih3⟩ := winnowlaw02_FrameBack.mono_l k
  unfold winnowlaw02_FrameBack.f
  repeat' first
      | (with_reducible exact ih0 _ _ _ _ _)
      | (with_reducible exact ih1 _ _ _ _ _)
      | (with_reducible exact ih2 _ _ _ _ _)
      | (with_reducible exact ih3 _ _ _ _ _ _)
      | (with_reducible exact frame_All.mono _ _)
      | (with_reducible exact frame_Put.mono _ _ _)
      | (with_reducible exact winnowlaw02_bound.mono _ _)
      | (with_reducible exact winnowref02_Same.mono _ _ _)
      | (with_reducible exact LeO.refl _)
      | (with_reducible exact LeO.none _)
      | (with_reducible refine LeO.ite ?_ ?_)
      | (with_reducible refine LeO.bind ?_ (fun _ => ?_))
      | exact ih0 _ _ _ _ _
      | exact ih1 _ _ _ _ _
      | exact ih2 _ _ _ _ _
      | exact ih3 _ _ _ _ _ _
      | exact frame_All.mono _ _
      | exact frame_Put.mono _ _ _
      | exact winnowlaw02_bound.mono _ _
      | exact winnowref02_Same.mono _ _ _
      | exact LeO.none _
      | refine LeO.ite ?_ ?_
      | refine LeO.bind ?_ (fun _ => ?_)
set_option maxHeartbeats 40000000 in
set_option maxRecDepth 100000 in
theorem winnowlaw02_FrameBack.calls (k : Nat) (A0 : Option Addr) (c0 : Nat) (l0 : List (List Int)) (a1 : Int) (r : Bool) (w : World) (hr0 : Kd.C (Kd.slice 5 (Kd.int .u8)) w A0 l0.length l0) (hc0 : l0.length ≤ c0) (hrt_ : r = true) (h : winnowlaw02_FrameBack.f k l0 a1 = some r) :
    Calls Try.prog 7 #[.slice A0 l0.length c0, .int .i64 a1] w fun e w' => e = .returned (.bool r) ∧ Below w.heap.size w w' := by
  have HRT_ := Aside0.mk hrt_
  clear hrt_
  have HR0 := Aside0.mk hr0
  have HC0 := Aside0.mk hc0
  clear hr0 hc0
  have HB := Aside0.mk (Below.refl w.heap.size w)
  have H : ((winnowlaw02_bound.f k l0).bind fun t283 => (if t283 = true then (winnowlaw02_FrameBack.l0 k l0 a1 ([] : List Int) (([0] : List Int)) 0) else ((winnowlaw02_alive.f).bind fun t284 => (some t284)))) = some r := h
  clear h
  replace H := Option.bind_eq_some_iff.mp H
  obtain ⟨t283, A30, H⟩ := H
  replace H : (if t283 = true then (winnowlaw02_FrameBack.l0 k l0 a1 ([] : List Int) (([0] : List Int)) 0) else ((winnowlaw02_alive.f).bind fun t284 => (some t284))) = some r := H
  have A3 := Aside0.mk A30
  clear A30
  by_cases c4 : t283 = true
  · subst c4
    have H1 : (winnowlaw02_FrameBack.l0 k l0 a1 ([] : List Int) (([0] : List Int)) 0) = some r := by rw [if_pos rfl] at H; exact H
    clear H
    have H := H1
    clear H1
    obtain ⟨y285, hy285⟩ : ∃ y_ : List Int, y_ = (([0] : List Int)) := ⟨_, rfl⟩
    replace H : (winnowlaw02_FrameBack.l0 k l0 a1 ([] : List Int) y285 0) = some r := by first | (rw [hy285]; with_reducible exact H) | (have H2_ := (Option.bind_some _ _).symm.trans H; rw [hy285]; with_reducible exact H2_) | (have H2_ := (Option.bind_some _ _).symm.trans H; with_reducible exact H2_) | with_reducible exact H | (rw [hy285]; exact H) | exact H
    have Ny285 := Aside0.mk hy285
    clear hy285
    have H' := Aside0.mk H
    clear H
    go_enter Try.func7, Try.ntmps7
    go_wp2_with (first | ((with_reducible refine gate_callee (f := 18) rfl ?_); refine goesL_ (some 17) rfl rfl Try.func18 (by kernel_rfl) rfl #[.slice A0 l0.length c0] rfl (by (try simp only [List.map_toArray, List.map_cons, List.map_nil]); first | done | rfl | (simp only [List.length_drop, List.length_take]; rfl)) ?_; (with_reducible refine (winnowlaw02_bound.calls k _ _ l0 true _ ?side1 ?side2 A3.out).mono ?_); (case side1 => repeat (first | exact HR0.out | (with_reducible refine Kd.C_alloc ?_ _) | (with_reducible refine Kd.C_drewN ?_ _) | (with_reducible refine Kd.C_drew ?_))); (case side2 => exact HC0.out); rintro e w' ⟨rfl, ⟨nd, rfl⟩⟩; refine ⟨_, rfl, ?_⟩) | ((with_reducible refine gate_dst (N := 20) rfl ?_); (try (refine gate_guard (by rfl) ?_; dsimp only)); refine Kd.R_lit (Kd.int .i64) _ 3 ?hg (N := 20) ?hd (xs := ([0] : List Int)) (inner := [.int .i64 0]) (ok := fun _ => True) (okp := fun _ => True) ?hr ?hp (fun _ hk => hk) trivial (Below.refl _ _) (Nat.le_refl _) (by simp) ?_; (case hd => rfl); (case hg => rfl); (case hr => first | (go_simp; done) | (go_simp; rfl)); (case hp => exact (Reps.one (show Kd.M (Kd.int .i64) _ _ _ 0 [.int .i64 0] from rfl) (Reps.none _ _))); intro v286 w5 ho6 hb hg_ hnew_; clear hg_ hnew_; (first | rw [← Ny285.out] at ho6 | (simp only [Int.reduceToNat] at ho6; rw [← Ny285.out] at ho6)); have n0_ := Aside0.mk (Kd.R_lower ho6 (below_size (by repeat (first | (with_reducible first | exact HB.out | apply below_alloc | apply pw_below_drewN | apply below_drew1) | exact HB.out)))); have n1_ := Aside0.mk (below_step (by repeat (first | (with_reducible first | exact HB.out | apply below_alloc | apply pw_below_drewN | apply below_drew1) | exact HB.out)) hb); clear HB; have HO287 := n0_; have HB := n1_; clear n0_ n1_; clear hb ho6))
    go_loopg [5, 6, 7] k (fun kq v5 v6 v7 w' => ∃ (x5_1 : List Int) (x6_1 : List Int) (x7_1 : Int), v7 = .int .i64 x7_1 ∧ Aside0 (winnowlaw02_FrameBack.l0 kq l0 a1 x5_1 x6_1 x7_1 = some r) ∧ Aside0 (kq ≤ k) ∧ Aside0 (Kd.R (Kd.int .u8) 5 w' w.heap.size (fun _ => True) v5 x5_1) ∧ Aside0 (Kd.R (Kd.int .i64) 3 w' w.heap.size (fun _ => True) v6 x6_1) ∧ Aside0 (Below w.heap.size w w'))
    case atStart => exact ⟨(([] : List Int)), (y285), (0), (by first | rfl | (simp; done) | (simp [*]; done)), H', ⟨Nat.le_refl _⟩, ⟨by first | exact Kd.R_nil _ _ _ _ _ | exact Kd.N_nil _ _ _ _ _ | exact Kd.V_nil _ _ _ _ _ | exact Kd.Q_nil _ _ _ _ _ | exact Kd.S_nil _ _ _ _ _⟩, ⟨by (with_reducible repeat (first | apply Kd.R_alloc | apply Kd.R_drewN | apply Kd.R_drew)); exact HO287.out⟩, ⟨by repeat (first | (with_reducible first | exact HB.out | apply below_alloc | apply pw_below_drewN | apply below_drew1) | exact HB.out)⟩⟩
    case round =>
      clear H'
      try clear c1
      try clear p2
      try clear c4
      obtain ⟨x5_1, x6_1, x7_1, rfl, HA, HK1, HO_5, HO_6, HB⟩ := hrel
      cases gk with
      | zero => exact absurd HA.out (by simp [winnowlaw02_FrameBack.l0])
      | succ k1 =>
        have H := HA.out
        clear HA
        simp only [winnowlaw02_FrameBack.l0] at H
        by_cases c7 : x7_1 < (l0.length : Int)
        · rw [if_pos c7] at H
          have c7b0 : decide (x7_1 < (l0.length : Int)) = true := decide_eq_true c7
          clear c7
          by_cases c8 : 0 ≤ x7_1
          · rw [if_pos c8] at H
            have c8b0 : decide (0 ≤ x7_1) = true := decide_eq_true c8
            clear c8
            replace H := Option.bind_eq_some_iff.mp H
            obtain ⟨⟨t289, t292⟩, A90, H⟩ := H
            replace H : (if t292 = 0 then (if x6_1.length < 17592186044416 then (winnowlaw02_FrameBack.l0 k1 l0 a1 t289 (x6_1 ++ [(t289.length : Int)]) (wrap64 (x7_1 + 1))) else (none)) else (some false)) = some r := H
            have A9 := Aside0.mk A90
            clear A90
            by_cases c10 : t292 = 0
            · rw [if_pos c10] at H
              have c10b0 : (t292 == 0) = true := beq_iff_eq.mpr c10
              have c10b1 : (t292 != 0) = false := bne_eq_false_iff_eq.mpr c10
              clear c10
              by_cases c11 : x6_1.length < 17592186044416
              · rw [if_pos c11] at H
                have LMc11 := Aside0.mk c11
                clear c11
                obtain ⟨y293, hy293⟩ : ∃ y_ : List Int, y_ = (x6_1 ++ [(t289.length : Int)]) := ⟨_, rfl⟩
                replace H : (winnowlaw02_FrameBack.l0 k1 l0 a1 t289 y293 (wrap64 (x7_1 + 1))) = some r := by first | (rw [hy293]; with_reducible exact H) | (have H2_ := (Option.bind_some _ _).symm.trans H; rw [hy293]; with_reducible exact H2_) | (have H2_ := (Option.bind_some _ _).symm.trans H; with_reducible exact H2_) | with_reducible exact H | (rw [hy293]; exact H) | exact H
                have Ny293 := Aside0.mk hy293
                clear hy293
                have H' := Aside0.mk H
                clear H
                have p288 : 0 ≤ (x7_1 : Int) := of_decide_eq_true (by first | (with_reducible assumption) | assumption)
                have q288 : x7_1 < (l0.length : Int) := of_decide_eq_true (by first | (with_reducible assumption) | assumption)
                obtain ⟨ad288, A288_0, c288_0, e288, hx288_0, hl288_0, hi288_0⟩ := at_L1 HR0.out x7_1 p288 q288
                cases e288
                replace hx288_0 := (HB.out.cell (World.block_lt_of_cell? w _ hx288_0)).trans hx288_0
                have HR288_0 := Aside0.mk hi288_0
                have HC288_0 := Aside0.mk hl288_0
                clear hi288_0 hl288_0
                replace p288 := eq_true p288
                replace q288 := eq_true q288
                obtain ⟨Ao12, co12, eo12⟩ := Kd.R_slice HO_5.out
                subst eo12
                go_wp2_with (first | ((with_reducible refine gate_callee (f := 10) rfl ?_); refine goesL_ (some 33) rfl rfl Try.func10 (by kernel_rfl) rfl #[.slice Ao12 x5_1.length co12, .slice A288_0 (rd_L1 l0 x7_1).length c288_0] rfl (by (try simp only [List.map_toArray, List.map_cons, List.map_nil]); first | done | rfl | (simp only [List.length_drop, List.length_take]; rfl)) ?_; (with_reducible refine (frame_Put.calls k1 (fun k_ => some k_ = (.slice Ao12 x5_1.length co12 : Value).ownBlock) _ _ x5_1 _ _ (rd_L1 l0 x7_1) t289 t292 _ ?side1 ?side2 ?side3 A9.out).mono ?_); (case side1 => exact Kd.R_V (Kd.R_tight rfl (Kd.R_apart' (HO_5.out) (Kd.R_typed HO_6.out) (by decide)))); (case side2 => repeat (first | exact (Kd.C_below HR288_0.out HB.out) | (with_reducible refine Kd.C_alloc ?_ _) | (with_reducible refine Kd.C_drewN ?_ _) | (with_reducible refine Kd.C_drew ?_))); (case side3 => exact HC288_0.out); rintro e w13 ⟨v290, rfl, ho0, hb⟩; refine ⟨_, rfl, ?_⟩; have n0_ := Aside0.mk (Kd.R_elder' (by (with_reducible repeat (first | apply Kd.R_alloc | apply Kd.R_drewN | apply Kd.R_drew)); exact HO_5.out) (Kd.R_base ho0) hb); have n1_ := Aside0.mk (Kd.R_below (by (with_reducible repeat (first | apply Kd.R_alloc | apply Kd.R_drewN | apply Kd.R_drew)); exact HO_6.out) hb); have n2_ := Aside0.mk (Kd.R_lower (Kd.R_new' (Kd.R_mono (ok' := fun k_ => True) ho0 (fun _ hk_ => trivial)) (Kd.R_lt (by (with_reducible repeat (first | apply Kd.R_alloc | apply Kd.R_drewN | apply Kd.R_drew)); exact HO_5.out))) (below_size (by repeat (first | (with_reducible first | exact HB.out | apply below_alloc | apply pw_below_drewN | apply below_drew1) | exact HB.out)))); have n3_ := Aside0.mk (below_step (by repeat (first | (with_reducible first | exact HB.out | apply below_alloc | apply pw_below_drewN | apply below_drew1) | exact HB.out)) hb); clear HO_5; clear HO_6; clear HB; have HO_5 := n0_; have HO_6 := n1_; have HO291 := n2_; have HB := n3_; clear n0_ n1_ n2_ n3_; (try clear hb); (try clear hb2); (try clear hk); (try clear hi); (try clear ho0); obtain ⟨Ao14, co14, eo14⟩ := Kd.R_slice HO291.out; subst eo14) | ((with_reducible refine gate_builtin (b := .append) (xs := #[.tmp 39, .tmp 42]) rfl ?_); (try (refine gate_guard (by rfl) ?_; dsimp only)); at_builtin; refine Kd.R_append (Kd.int .i64) (w0 := w) w.heap.size rfl (.tmp 39) (.tmp 42) 37 3 (.int .i64 0) 8 rfl Try.underlying37 info3 rfl (by decide) (by omega) u6 x6_1 (t289.length : Int) [.int .i64 (t289.length : Int)] (fun _ => True) (fun _ => False) rfl rfl ?aP (fun _ hk => hk.elim) ?aF ?aO ?aB ?aS ?aL ?_; (case aP => exact rfl); (case aB => exact (by repeat (first | (with_reducible first | exact HB.out | apply below_alloc | apply pw_below_drewN | apply below_drew1) | exact HB.out))); (case aF => exact (fun _ _ => trivial)); (case aO => exact (by (with_reducible repeat (first | apply Kd.R_alloc | apply Kd.R_drewN | apply Kd.R_drew)); exact HO_6.out)); (case aS => exact (below_size (by repeat (first | (with_reducible first | exact HB.out | apply below_alloc | apply pw_below_drewN | apply below_drew1) | exact HB.out)))); (case aL => have := LMc11.out; omega); intro v294 w15 ho hb hg hat; rw [← Ny293.out] at ho; have n0_ := Aside0.mk (Kd.R_over' (by (with_reducible repeat (first | apply Kd.R_alloc | apply Kd.R_drewN | apply Kd.R_drew)); exact HO_5.out) (Kd.R_typed (by (with_reducible repeat (first | apply Kd.R_alloc | apply Kd.R_drewN | apply Kd.R_drew)); exact HO_6.out)) (by decide) hg); have n1_ := Aside0.mk (Kd.R_over' (by (with_reducible repeat (first | apply Kd.R_alloc | apply Kd.R_drewN | apply Kd.R_drew)); exact HO291.out) (Kd.R_typed (by (with_reducible repeat (first | apply Kd.R_alloc | apply Kd.R_drewN | apply Kd.R_drew)); exact HO_6.out)) (by decide) hg); have n2_ := Aside0.mk (hb); have n3_ := Aside0.mk (ho); clear HO_5; clear HO291; clear HB; clear HO_6; have HO_5 := n0_; have HO291 := n1_; have HB := n2_; have HO295 := n3_; clear n0_ n1_ n2_ n3_; clear ho hb hg hat))
                go_roundg k1
                case measure => have := HK1.out; omega
                case rel => exact ⟨(t289), (y293), (wrap64 (x7_1 + 1)), (by first | rfl | (simp; done) | (simp [*]; done)), H', ⟨by have := HK1.out; omega⟩, ⟨by (with_reducible repeat (first | apply Kd.R_alloc | apply Kd.R_drewN | apply Kd.R_drew)); exact Kd.R_mono HO291.out (fun _ hk => trivial)⟩, ⟨by (with_reducible repeat (first | apply Kd.R_alloc | apply Kd.R_drewN | apply Kd.R_drew)); exact HO295.out⟩, ⟨by repeat (first | (with_reducible first | exact HB.out | apply below_alloc | apply pw_below_drewN | apply below_drew1) | exact HB.out)⟩⟩
              · rw [if_neg c11] at H
                exact absurd H (by simp)
            · rw [if_neg c10] at H
              have c10b0 : (t292 == 0) = false := beq_eq_false_iff_ne.mpr c10
              have c10b1 : (t292 != 0) = true := bne_iff_ne.mpr c10
              exact absurd ((Option.some.inj H).trans HRT_.out) (by decide)
          · rw [if_neg c8] at H
            exact absurd H (by simp)
        · rw [if_neg c7] at H
          have c7b0 : decide (x7_1 < (l0.length : Int)) = false := decide_eq_false c7
          clear c7
          replace H := Option.bind_eq_some_iff.mp H
          obtain ⟨⟨t296, t297, t298⟩, A160, H⟩ := H
          replace H : (if t298 = 0 then (if t297 = (x5_1.length : Int) then ((winnowref02_Same.f k1 t296 l0).bind fun t301 => (winnowlaw02_FrameBack.j1 k1 l0 a1 x5_1 x6_1 (!t301))) else (winnowlaw02_FrameBack.j1 k1 l0 a1 x5_1 x6_1 true)) else (winnowlaw02_FrameBack.j1 k1 l0 a1 x5_1 x6_1 true)) = some r := H
          have A16 := Aside0.mk A160
          clear A160
          have HC17 := Aside0.mk H
          clear H
          obtain ⟨Ao18, co18, eo18⟩ := Kd.R_slice HO_5.out
          subst eo18
          go_upto_region 14 with (first | ((with_reducible refine gate_callee (f := 15) rfl ?_); refine goesL_ (some 46) rfl rfl Try.func15 (by kernel_rfl) rfl #[.slice Ao18 x5_1.length co18] rfl (by (try simp only [List.map_toArray, List.map_cons, List.map_nil]); first | done | rfl | (simp only [List.length_drop, List.length_take]; rfl)) ?_; (with_reducible refine (frame_All.calls k1 _ _ x5_1 t296 t297 t298 _ ?side1 ?side2 A16.out).mono ?_); (case side1 => repeat (first | exact (Kd.R_reads' HO_5.out).2.2 | (with_reducible refine Kd.C_alloc ?_ _) | (with_reducible refine Kd.C_drewN ?_ _) | (with_reducible refine Kd.C_drew ?_))); (case side2 => exact (Kd.R_reads' HO_5.out).2.1); rintro e w19 ⟨v299, rfl, ho0, hb⟩; refine ⟨_, rfl, ?_⟩; have n0_ := Aside0.mk (Kd.R_below (by (with_reducible repeat (first | apply Kd.R_alloc | apply Kd.R_drewN | apply Kd.R_drew)); exact HO_5.out) hb); have n1_ := Aside0.mk (Kd.R_below (by (with_reducible repeat (first | apply Kd.R_alloc | apply Kd.R_drewN | apply Kd.R_drew)); exact HO_6.out) hb); have n2_ := Aside0.mk (Kd.S_lower (Kd.S_new' ho0 (Kd.R_lt (by (with_reducible repeat (first | apply Kd.R_alloc | apply Kd.R_drewN | apply Kd.R_drew)); exact HO_5.out))) (below_size (by repeat (first | (with_reducible first | exact HB.out | apply below_alloc | apply pw_below_drewN | apply below_drew1) | exact HB.out)))); have n3_ := Aside0.mk (below_step (by repeat (first | (with_reducible first | exact HB.out | apply below_alloc | apply pw_below_drewN | apply below_drew1) | exact HB.out)) hb); clear HO_5; clear HO_6; clear HB; have HO_5 := n0_; have HO_6 := n1_; have HO300 := n2_; have HB := n3_; clear n0_ n1_ n2_ n3_; (try clear hb); (try clear hb2); (try clear hk); (try clear hi); (try clear ho0)))
          (try simp only [Act.put, List.setIfInBounds_toArray, List.set_cons_zero, List.set_cons_succ])
          go_cut [63] (fun v63 wc => ∃ (kq : Nat) (x63_16 : Bool), v63 = .bool x63_16 ∧ Aside0 (winnowlaw02_FrameBack.j1 kq l0 a1 x5_1 x6_1 x63_16 = some r) ∧ Aside0 (kq ≤ k1) ∧ Aside0 (Kd.R (Kd.int .u8) 5 wc w.heap.size (fun _ => True) (.slice Ao18 x5_1.length co18) x5_1) ∧ Aside0 (Kd.R (Kd.int .i64) 3 wc w.heap.size (fun _ => True) u6 x6_1) ∧ Aside0 (Below w.heap.size w wc))
          case first =>
            have H := HC17.out
            clear HC17
            by_cases c20 : t298 = 0
            · rw [if_pos c20] at H
              have c20b0 : (t298 == 0) = true := beq_iff_eq.mpr c20
              have c20b1 : (t298 != 0) = false := bne_eq_false_iff_eq.mpr c20
              clear c20
              (first | rw [c20b0] | (simp only [i64_w, i32_w]; rw [c20b0]) | skip)
              by_cases c21 : t297 = (x5_1.length : Int)
              · rw [if_pos c21] at H
                have c21b0 : (t297 == (x5_1.length : Int)) = true := beq_iff_eq.mpr c21
                have c21b1 : (t297 != (x5_1.length : Int)) = false := bne_eq_false_iff_eq.mpr c21
                clear c21
                replace H := Option.bind_eq_some_iff.mp H
                obtain ⟨t301, A220, H⟩ := H
                replace H : (winnowlaw02_FrameBack.j1 k1 l0 a1 x5_1 x6_1 (!t301)) = some r := H
                have A22 := Aside0.mk A220
                clear A220
                have H' := Aside0.mk H
                clear H
                obtain ⟨Ao23, co23, eo23⟩ := Kd.S_slice HO300.out
                subst eo23
                go_wp2_with (first | (go_at_call 17; (with_reducible refine (winnowref02_Same.calls k1 _ _ t296 _ _ l0 t301 _ ?side1 ?side2 ?side3 ?side4 A22.out).mono ?_); (case side1 => repeat (first | exact (Kd.S_reads' HO300.out).2.2 | (with_reducible refine Kd.C_alloc ?_ _) | (with_reducible refine Kd.C_drewN ?_ _) | (with_reducible refine Kd.C_drew ?_))); (case side2 => exact (Kd.S_reads' HO300.out).2.1); (case side3 => repeat (first | exact (Kd.C_below HR0.out HB.out) | (with_reducible refine Kd.C_alloc ?_ _) | (with_reducible refine Kd.C_drewN ?_ _) | (with_reducible refine Kd.C_drew ?_))); (case side4 => exact HC0.out); rintro e w' ⟨rfl, ⟨nd, rfl⟩⟩))
                go_meet
                case rel => exact ⟨_, (!t301), (by first | rfl | (simp; done) | (simp [*]; done)), H', ⟨by have := HK1.out; first | omega | exact Nat.le_refl _⟩, ⟨by (with_reducible repeat (first | apply Kd.R_alloc | apply Kd.R_drewN | apply Kd.R_drew)); exact HO_5.out⟩, ⟨by (with_reducible repeat (first | apply Kd.R_alloc | apply Kd.R_drewN | apply Kd.R_drew)); exact HO_6.out⟩, ⟨by repeat (first | (with_reducible first | exact HB.out | apply below_alloc | apply pw_below_drewN | apply below_drew1) | exact HB.out)⟩⟩
              · rw [if_neg c21] at H
                have c21b0 : (t297 == (x5_1.length : Int)) = false := beq_eq_false_iff_ne.mpr c21
                have c21b1 : (t297 != (x5_1.length : Int)) = true := bne_iff_ne.mpr c21
                exact absurd H (by cases k1 <;> simp [winnowlaw02_FrameBack.j1, HRT_.out])
            · rw [if_neg c20] at H
              have c20b0 : (t298 == 0) = false := beq_eq_false_iff_ne.mpr c20
              have c20b1 : (t298 != 0) = true := bne_iff_ne.mpr c20
              (first | rw [c20b0] | (simp only [i64_w, i32_w]; rw [c20b0]) | skip)
              exact absurd H (by cases k1 <;> simp [winnowlaw02_FrameBack.j1, HRT_.out])
          case rest =>
            clear HC17
            try clear c1
            try clear c2
            try clear p2
            try clear q2
            try clear hx2
            try clear c4
            try clear p6
            try clear c7
            try clear c7b0
            try clear c8
            try clear c8b0
            try clear c10
            try clear c10b0
            try clear c10b1
            try clear c11
            try clear c15
            try clear c18
            try clear c20
            try clear c20b0
            try clear c20b1
            try clear c21
            try clear c21b0
            try clear c21b1
            try clear hx288_0
            try clear p2
            try clear p288
            try clear q288
            obtain ⟨kq, x63_16, rfl, HA, HJ16, HO_5, HO_6, HB⟩ := hcut
            cases kq with
            | zero => exact absurd HA.out (by simp [winnowlaw02_FrameBack.j1])
            | succ kj16 =>
              have H := HA.out
              clear HA
              simp only [winnowlaw02_FrameBack.j1] at H
              by_cases c24 : x63_16 = true
              · subst c24
                have H1 : (some false) = some r := by rw [if_pos rfl] at H; exact H
                clear H
                have H := H1
                clear H1
                exact absurd ((Option.some.inj H).trans HRT_.out) (by decide)
              · replace c24 := Bool.eq_false_iff.mpr c24
                subst c24
                have H1 : (if a1 < 0 then (winnowlaw02_FrameBack.j2 kj16 l0 a1 x5_1 x6_1 true) else (winnowlaw02_FrameBack.j2 kj16 l0 a1 x5_1 x6_1 (decide (a1 > (x5_1.length : Int))))) = some r := by rw [if_neg (show ¬ (false = true) by decide)] at H; exact H
                clear H
                have H := H1
                clear H1
                have HC25 := Aside0.mk H
                clear H
                go_upto_region 16 with (fail)
                go_cut [71] (fun v71 wc => ∃ (kq : Nat) (x71_24 : Bool), v71 = .bool x71_24 ∧ Aside0 (winnowlaw02_FrameBack.j2 kq l0 a1 x5_1 x6_1 x71_24 = some r) ∧ Aside0 (kq ≤ kj16) ∧ Aside0 (Kd.R (Kd.int .u8) 5 wc w.heap.size (fun _ => True) (.slice Ao18 x5_1.length co18) x5_1) ∧ Aside0 (Kd.R (Kd.int .i64) 3 wc w.heap.size (fun _ => True) u6 x6_1) ∧ Aside0 (Below w.heap.size w wc))
                case first =>
                  have H := HC25.out
                  clear HC25
                  by_cases c26 : a1 < 0
                  · rw [if_pos c26] at H
                    have c26b0 : decide (a1 < 0) = true := decide_eq_true c26
                    clear c26
                    (first | rw [c26b0] | (simp only [i64_w, i32_w]; rw [c26b0]) | skip)
                    have H' := Aside0.mk H
                    clear H
                    go_wp2
                    go_meet
                    case rel => exact ⟨_, (true), (by first | rfl | (simp; done) | (simp [*]; done)), H', ⟨by have := HK1.out; have := HJ16.out; first | omega | exact Nat.le_refl _⟩, ⟨by (with_reducible repeat (first | apply Kd.R_alloc | apply Kd.R_drewN | apply Kd.R_drew)); exact HO_5.out⟩, ⟨by (with_reducible repeat (first | apply Kd.R_alloc | apply Kd.R_drewN | apply Kd.R_drew)); exact HO_6.out⟩, ⟨by repeat (first | (with_reducible first | exact HB.out | apply below_alloc | apply pw_below_drewN | apply below_drew1) | exact HB.out)⟩⟩
                  · rw [if_neg c26] at H
                    have c26b0 : decide (a1 < 0) = false := decide_eq_false c26
                    clear c26
                    (first | rw [c26b0] | (simp only [i64_w, i32_w]; rw [c26b0]) | skip)
                    have H' := Aside0.mk H
                    clear H
                    go_wp2
                    go_meet
                    case rel => exact ⟨_, (decide (a1 > (x5_1.length : Int))), (by first | rfl | (simp; done) | (simp [*]; done)), H', ⟨by have := HK1.out; have := HJ16.out; first | omega | exact Nat.le_refl _⟩, ⟨by (with_reducible repeat (first | apply Kd.R_alloc | apply Kd.R_drewN | apply Kd.R_drew)); exact HO_5.out⟩, ⟨by (with_reducible repeat (first | apply Kd.R_alloc | apply Kd.R_drewN | apply Kd.R_drew)); exact HO_6.out⟩, ⟨by repeat (first | (with_reducible first | exact HB.out | apply below_alloc | apply pw_below_drewN | apply below_drew1) | exact HB.out)⟩⟩
                case rest =>
                  clear HC25
                  try clear c1
                  try clear c2
                  try clear p2
                  try clear q2
                  try clear hx2
                  try clear c4
                  try clear p6
                  try clear c7
                  try clear c7b0
                  try clear c8
                  try clear c8b0
                  try clear c10
                  try clear c10b0
                  try clear c10b1
                  try clear c11
                  try clear c15
                  try clear c18
                  try clear c20
                  try clear c20b0
                  try clear c20b1
                  try clear c21
                  try clear c21b0
                  try clear c21b1
                  try clear c24
                  try clear c26
                  try clear c26b0
                  try clear hx288_0
                  try clear p2
                  try clear p288
                  try clear p6
                  try clear q2
                  try clear q288
                  obtain ⟨kq, x71_24, rfl, HA, HJ24, HO_5, HO_6, HB⟩ := hcut
                  cases kq with
                  | zero => exact absurd HA.out (by simp [winnowlaw02_FrameBack.j2])
                  | succ kj24 =>
                    have H := HA.out
                    clear HA
                    simp only [winnowlaw02_FrameBack.j2] at H
                    by_cases c27 : x71_24 = true
                    · subst c27
                      have H1 : ((winnowlaw02_alive.f).bind fun t302 => (some t302)) = some r := by rw [if_pos rfl] at H; exact H
                      clear H
                      have H := H1
                      clear H1
                      replace H := Option.bind_eq_some_iff.mp H
                      obtain ⟨t302, A280, H⟩ := H
                      replace H : (some t302) = some r := H
                      have A28 := Aside0.mk A280
                      clear A280
                      obtain rfl := Option.some.inj H
                      go_wp2_with (first | ((with_reducible refine gate_callee (f := 9) rfl ?_); refine goesL_ (some 72) rfl rfl Try.func9 (by kernel_rfl) rfl #[] rfl (by (try simp only [List.map_toArray, List.map_cons, List.map_nil]); first | done | rfl | (simp only [List.length_drop, List.length_take]; rfl)) ?_; (with_reducible refine (winnowlaw02_alive.calls  t302 _ A28.out).mono ?_); rintro e w29 ⟨rfl, hb⟩; refine ⟨_, rfl, ?_⟩; have n0_ := Aside0.mk (Kd.R_below (by (with_reducible repeat (first | apply Kd.R_alloc | apply Kd.R_drewN | apply Kd.R_drew)); exact HO_5.out) hb); have n1_ := Aside0.mk (Kd.R_below (by (with_reducible repeat (first | apply Kd.R_alloc | apply Kd.R_drewN | apply Kd.R_drew)); exact HO_6.out) hb); have n2_ := Aside0.mk (below_step (by repeat (first | (with_reducible first | exact HB.out | apply below_alloc | apply pw_below_drewN | apply below_drew1) | exact HB.out)) hb); clear HO_5; clear HO_6; clear HB; have HO_5 := n0_; have HO_6 := n1_; have HB := n2_; clear n0_ n1_ n2_; (try clear hb); (try clear hb2); (try clear hk); (try clear hi)))
                      go_ret
                      exact ⟨by first | rfl | (simp [errW_none, errW_some] <;> rfl) | (simp [*, errW_none, errW_some] <;> rfl), by repeat (first | (with_reducible first | exact HB.out | apply below_alloc | apply pw_below_drewN | apply below_drew1) | exact HB.out)⟩
                    · replace c27 := Bool.eq_false_iff.mpr c27
                      subst c27
                      have H1 : (winnowlaw02_FrameBack.l1 kj24 l0 a1 x5_1 x6_1 0 1) = some r := by rw [if_neg (show ¬ (false = true) by decide)] at H; exact H
                      clear H
                      have H := H1
                      clear H1
                      have H' := Aside0.mk H
                      clear H
                      go_wp2
                      go_loopg [13, 14] kj24 (fun kq v13 v14 w' => ∃ (x13_4 : Int) (x14_4 : Int), v13 = .int .i64 x13_4 ∧ v14 = .int .i64 x14_4 ∧ Aside0 (winnowlaw02_FrameBack.l1 kq l0 a1 x5_1 x6_1 x13_4 x14_4 = some r) ∧ Aside0 (kq ≤ kj24) ∧ Aside0 (Kd.R (Kd.int .u8) 5 w' w.heap.size (fun _ => True) (.slice Ao18 x5_1.length co18) x5_1) ∧ Aside0 (Kd.R (Kd.int .i64) 3 w' w.heap.size (fun _ => True) u6 x6_1) ∧ Aside0 (Below w.heap.size w w'))
                      case atStart => exact ⟨(0), (1), (by first | rfl | (simp; done) | (simp [*]; done)), (by first | rfl | (simp; done) | (simp [*]; done)), H', ⟨Nat.le_refl _⟩, ⟨by (with_reducible repeat (first | apply Kd.R_alloc | apply Kd.R_drewN | apply Kd.R_drew)); exact HO_5.out⟩, ⟨by (with_reducible repeat (first | apply Kd.R_alloc | apply Kd.R_drewN | apply Kd.R_drew)); exact HO_6.out⟩, ⟨by repeat (first | (with_reducible first | exact HB.out | apply below_alloc | apply pw_below_drewN | apply below_drew1) | exact HB.out)⟩⟩
                      case round =>
                        clear H'
                        try clear c1
                        try clear c2
                        try clear p2
                        try clear q2
                        try clear hx2
                        try clear c4
                        try clear p6
                        try clear c7
                        try clear c7b0
                        try clear c8
                        try clear c8b0
                        try clear c9
                        try clear c10
                        try clear c10b0
                        try clear c10b1
                        try clear c11
                        try clear c15
                        try clear c18
                        try clear c20
                        try clear c20b0
                        try clear c20b1
                        try clear c21
                        try clear c21b0
                        try clear c21b1
                        try clear c24
                        try clear c26
                        try clear c26b0
                        try clear c27
                        try clear c28
                        try clear p28
                        try clear q28
                        try clear hx28
                        try clear hx288_0
                        try clear p2
                        try clear p288
                        try clear p6
                        try clear q2
                        try clear q288
                        obtain ⟨x13_4, x14_4, rfl, rfl, HA, HK4, HO_5, HO_6, HB⟩ := hrel
                        cases gk with
                        | zero => exact absurd HA.out (by simp [winnowlaw02_FrameBack.l1])
                        | succ k4 =>
                          have H := HA.out
                          clear HA
                          simp only [winnowlaw02_FrameBack.l1] at H
                          by_cases c30 : x14_4 < (x6_1.length : Int)
                          · rw [if_pos c30] at H
                            have c30b0 : decide (x14_4 < (x6_1.length : Int)) = true := decide_eq_true c30
                            clear c30
                            by_cases c31 : 0 ≤ x14_4
                            · rw [if_pos c31] at H
                              have c31b0 : decide (0 ≤ x14_4) = true := decide_eq_true c31
                              clear c31
                              by_cases c32 : (rd x6_1 x14_4) ≤ a1
                              · rw [if_pos c32] at H
                                have c32b0 : decide ((rd x6_1 x14_4) ≤ a1) = true := decide_eq_true c32
                                clear c32
                                have H' := Aside0.mk H
                                clear H
                                obtain ⟨Ao33, co33, eo33⟩ := Kd.R_slice HO_6.out
                                subst eo33
                                have p303 : 0 ≤ (x14_4 : Int) := of_decide_eq_true (by first | (with_reducible assumption) | assumption)
                                have q303 : x14_4 < (x6_1.length : Int) := of_decide_eq_true (by first | (with_reducible assumption) | assumption)
                                obtain ⟨ad303, e303, hx303_0⟩ := Kd.at_int (Kd.R_reads' HO_6.out).2.2 x14_4 p303 q303
                                cases e303
                                replace p303 := eq_true p303
                                replace q303 := eq_true q303
                                go_wp2
                                go_roundg k4
                                case measure => have := HK1.out; have := HJ16.out; have := HJ24.out; have := HK4.out; omega
                                case rel => exact ⟨(x14_4), (wrap64 (x14_4 + 1)), (by first | rfl | (simp; done) | (simp [*]; done)), (by first | rfl | (simp; done) | (simp [*]; done)), H', ⟨by have := HK1.out; have := HJ16.out; have := HJ24.out; have := HK4.out; omega⟩, ⟨by (with_reducible repeat (first | apply Kd.R_alloc | apply Kd.R_drewN | apply Kd.R_drew)); exact HO_5.out⟩, ⟨by (with_reducible repeat (first | apply Kd.R_alloc | apply Kd.R_drewN | apply Kd.R_drew)); exact HO_6.out⟩, ⟨by repeat (first | (with_reducible first | exact HB.out | apply below_alloc | apply pw_below_drewN | apply below_drew1) | exact HB.out)⟩⟩
                              · rw [if_neg c32] at H
                                have c32b0 : decide ((rd x6_1 x14_4) ≤ a1) = false := decide_eq_false c32
                                clear c32
                                have H' := Aside0.mk H
                                clear H
                                obtain ⟨Ao34, co34, eo34⟩ := Kd.R_slice HO_6.out
                                subst eo34
                                have p303 : 0 ≤ (x14_4 : Int) := of_decide_eq_true (by first | (with_reducible assumption) | assumption)
                                have q303 : x14_4 < (x6_1.length : Int) := of_decide_eq_true (by first | (with_reducible assumption) | assumption)
                                obtain ⟨ad303, e303, hx303_0⟩ := Kd.at_int (Kd.R_reads' HO_6.out).2.2 x14_4 p303 q303
                                cases e303
                                replace p303 := eq_true p303
                                replace q303 := eq_true q303
                                go_wp2
                                go_roundg k4
                                case measure => have := HK1.out; have := HJ16.out; have := HJ24.out; have := HK4.out; omega
                                case rel => exact ⟨(x13_4), (wrap64 (x14_4 + 1)), (by first | rfl | (simp; done) | (simp [*]; done)), (by first | rfl | (simp; done) | (simp [*]; done)), H', ⟨by have := HK1.out; have := HJ16.out; have := HJ24.out; have := HK4.out; omega⟩, ⟨by (with_reducible repeat (first | apply Kd.R_alloc | apply Kd.R_drewN | apply Kd.R_drew)); exact HO_5.out⟩, ⟨by (with_reducible repeat (first | apply Kd.R_alloc | apply Kd.R_drewN | apply Kd.R_drew)); exact HO_6.out⟩, ⟨by repeat (first | (with_reducible first | exact HB.out | apply below_alloc | apply pw_below_drewN | apply below_drew1) | exact HB.out)⟩⟩
                            · rw [if_neg c31] at H
                              exact absurd H (by simp)
                          · rw [if_neg c30] at H
                            have c30b0 : decide (x14_4 < (x6_1.length : Int)) = false := decide_eq_false c30
                            clear c30
                            by_cases c35 : 0 ≤ a1
                            · rw [if_pos c35] at H
                              have c35b0 := eq_true c35
                              have c35b1 : decide (0 ≤ a1) = true := decide_eq_true c35
                              clear c35
                              by_cases c36 : a1 ≤ (x5_1.length : Int)
                              · rw [if_pos c36] at H
                                have c36b0 := eq_true c36
                                have c36b1 : decide (a1 ≤ (x5_1.length : Int)) = true := decide_eq_true c36
                                clear c36
                                obtain ⟨y304, hy304⟩ : ∃ y_ : List Int, y_ = (x5_1.take (a1 : Int).toNat) := ⟨_, rfl⟩
                                replace H : ((frame_All.f k4 y304).bind fun bt308 => (if 0 ≤ x13_4 then (if x13_4 < (x6_1.length : Int) then (if (rd x6_1 x13_4) = a1 then (if x13_4 ≤ (l0.length : Int) then ((winnowref02_Same.f k4 bt308.1 (l0.take (x13_4 : Int).toNat)).bind fun t318 => (if t318 = true then (if bt308.2.1 = (rd x6_1 x13_4) then (if bt308.2.2 = 0 then ((winnowlaw02_alive.f).bind fun t320 => (some t320)) else (some false)) else (some false)) else (some false))) else (none)) else (if x13_4 ≤ (l0.length : Int) then ((winnowref02_Same.f k4 bt308.1 (l0.take (x13_4 : Int).toNat)).bind fun t325 => (if t325 = true then (if bt308.2.1 = (rd x6_1 x13_4) then (if bt308.2.2 = 3 then ((winnowlaw02_alive.f).bind fun t327 => (some t327)) else (some false)) else (some false)) else (some false))) else (none))) else (none)) else (none))) = some r := by first | (rw [hy304]; with_reducible exact H) | (have H2_ := (Option.bind_some _ _).symm.trans H; rw [hy304]; with_reducible exact H2_) | (have H2_ := (Option.bind_some _ _).symm.trans H; with_reducible exact H2_) | with_reducible exact H | (rw [hy304]; exact H) | exact H
                                have Ny304 := Aside0.mk hy304
                                clear hy304
                                replace H := Option.bind_eq_some_iff.mp H
                                obtain ⟨⟨t308, t309, t310⟩, A370, H⟩ := H
                                replace H : (if 0 ≤ x13_4 then (if x13_4 < (x6_1.length : Int) then (if (rd x6_1 x13_4) = a1 then (if x13_4 ≤ (l0.length : Int) then ((winnowref02_Same.f k4 t308 (l0.take (x13_4 : Int).toNat)).bind fun t318 => (if t318 = true then (if t309 = (rd x6_1 x13_4) then (if t310 = 0 then ((winnowlaw02_alive.f).bind fun t320 => (some t320)) else (some false)) else (some false)) else (some false))) else (none)) else (if x13_4 ≤ (l0.length : Int) then ((winnowref02_Same.f k4 t308 (l0.take (x13_4 : Int).toNat)).bind fun t325 => (if t325 = true then (if t309 = (rd x6_1 x13_4) then (if t310 = 3 then ((winnowlaw02_alive.f).bind fun t327 => (some t327)) else (some false)) else (some false)) else (some false))) else (none))) else (none)) else (none)) = some r := H
                                have A37 := Aside0.mk A370
                                clear A370
                                by_cases c38 : 0 ≤ x13_4
                                · rw [if_pos c38] at H
                                  have c38b0 : decide (0 ≤ x13_4) = true := decide_eq_true c38
                                  clear c38
                                  by_cases c39 : x13_4 < (x6_1.length : Int)
                                  · rw [if_pos c39] at H
                                    have c39b0 : decide (x13_4 < (x6_1.length : Int)) = true := decide_eq_true c39
                                    clear c39
                                    by_cases c40 : (rd x6_1 x13_4) = a1
                                    · rw [if_pos c40] at H
                                      have c40b0 : ((rd x6_1 x13_4) == a1) = true := beq_iff_eq.mpr c40
                                      have c40b1 : ((rd x6_1 x13_4) != a1) = false := bne_eq_false_iff_eq.mpr c40
                                      clear c40
                                      have c41b0 := eq_true (of_decide_eq_true (by first | (with_reducible assumption) | assumption) : 0 ≤ x13_4)
                                      by_cases c42 : x13_4 ≤ (l0.length : Int)
                                      · rw [if_pos c42] at H
                                        have c42b0 := eq_true c42
                                        have c42b1 : decide (x13_4 ≤ (l0.length : Int)) = true := decide_eq_true c42
                                        clear c42
                                        obtain ⟨y314, hy314⟩ : ∃ y_ : List (List Int), y_ = (l0.take (x13_4 : Int).toNat) := ⟨_, rfl⟩
                                        replace H : ((winnowref02_Same.f k4 t308 y314).bind fun t318 => (if t318 = true then (if t309 = (rd x6_1 x13_4) then (if t310 = 0 then ((winnowlaw02_alive.f).bind fun t320 => (some t320)) else (some false)) else (some false)) else (some false))) = some r := by first | (rw [hy314]; with_reducible exact H) | (have H2_ := (Option.bind_some _ _).symm.trans H; rw [hy314]; with_reducible exact H2_) | (have H2_ := (Option.bind_some _ _).symm.trans H; with_reducible exact H2_) | with_reducible exact H | (rw [hy314]; exact H) | exact H
                                        have Ny314 := Aside0.mk hy314
                                        clear hy314
                                        replace H := Option.bind_eq_some_iff.mp H
                                        obtain ⟨t318, A430, H⟩ := H
                                        replace H : (if t318 = true then (if t309 = (rd x6_1 x13_4) then (if t310 = 0 then ((winnowlaw02_alive.f).bind fun t320 => (some t320)) else (some false)) else (some false)) else (some false)) = some r := H
                                        have A43 := Aside0.mk A430
                                        clear A430
                                        by_cases c44 : t318 = true
                                        · subst c44
                                          have H1 : (if t309 = (rd x6_1 x13_4) then (if t310 = 0 then ((winnowlaw02_alive.f).bind fun t320 => (some t320)) else (some false)) else (some false)) = some r := by rw [if_pos rfl] at H; exact H
                                          clear H
                                          have H := H1
                                          clear H1
                                          by_cases c45 : t309 = (rd x6_1 x13_4)
                                          · rw [if_pos c45] at H
                                            have c45b0 : (t309 == (rd x6_1 x13_4)) = true := beq_iff_eq.mpr c45
                                            have c45b1 : (t309 != (rd x6_1 x13_4)) = false := bne_eq_false_iff_eq.mpr c45
                                            clear c45
                                            by_cases c46 : t310 = 0
                                            · rw [if_pos c46] at H
                                              have c46b0 : (t310 == 0) = true := beq_iff_eq.mpr c46
                                              have c46b1 : (t310 != 0) = false := bne_eq_false_iff_eq.mpr c46
                                              clear c46
                                              replace H := Option.bind_eq_some_iff.mp H
                                              obtain ⟨t320, A470, H⟩ := H
                                              replace H : (some t320) = some r := H
                                              have A47 := Aside0.mk A470
                                              clear A470
                                              obtain rfl := Option.some.inj H
                                              obtain ⟨Ao48, co48, eo48⟩ := Kd.R_slice HO_6.out
                                              subst eo48
                                              have q49 : (a1 : Int) ≤ ((x5_1.length : Int) : Int) := of_decide_eq_true (by first | (with_reducible assumption) | assumption)
                                              obtain ⟨i049, hi049, _, hsz49, _⟩ := info_parts info5
                                              have hroom49 : x5_1.length ≤ co18 := (Kd.R_reads' HO_5.out).2.1
                                              have hC49 : Kd.C (Kd.int .u8) _ Ao18 x5_1.length x5_1 := (Kd.R_reads' HO_5.out).2.2
                                              have hcut49 := cut_to (P := Try.prog) 22 5 .i64 Try.underlying22 hi049 Ao18 x5_1.length co18 a1 (of_decide_eq_true (by first | (with_reducible assumption) | assumption)) q49 hroom49
                                              have hr49 := Kd.C_take (m := (a1 : Int).toNat) hC49 (by omega)
                                              have hy49 : y304.length = (a1 : Int).toNat := (by rw [Ny304.out, List.length_take]; omega)
                                              rw [← Ny304.out] at hr49
                                              rw [← hy49] at hcut49
                                              have HR307 := Aside0.mk hr49
                                              have HC307 := Aside0.mk (show y304.length ≤ co18 from by omega)
                                              clear hr49 hC49 hroom49 hi049 hsz49
                                              have KY49 := Aside0.mk hy49
                                              clear hy49
                                              have KL49 := Aside0.mk (show (a1 : Int).toNat ≤ x5_1.length from by omega)
                                              replace q49 := eq_true q49
                                              go_wp2_with (first | ((with_reducible refine gate_callee (f := 15) rfl ?_); refine goesL_ (some 90) rfl rfl Try.func15 (by kernel_rfl) rfl #[.slice Ao18 y304.length co18] rfl (by (try simp only [List.map_toArray, List.map_cons, List.map_nil]); first | done | rfl | (simp only [List.length_drop, List.length_take]; rfl)) ?_; (with_reducible refine (frame_All.calls k4 _ _ y304 t308 t309 t310 _ ?side1 ?side2 A37.out).mono ?_); (case side1 => repeat (first | exact (by repeat (first | (with_reducible exact HR307.out) | (with_reducible refine Kd.C_alloc ?_ _) | (with_reducible refine Kd.C_drewN ?_ _) | (with_reducible refine Kd.C_drew ?_) | exact HR307.out)) | (with_reducible refine Kd.C_alloc ?_ _) | (with_reducible refine Kd.C_drewN ?_ _) | (with_reducible refine Kd.C_drew ?_))); (case side2 => exact HC307.out); rintro e w50 ⟨v311, rfl, ho0, hb⟩; refine ⟨_, rfl, ?_⟩; have n0_ := Aside0.mk (Kd.R_below (by (with_reducible repeat (first | apply Kd.R_alloc | apply Kd.R_drewN | apply Kd.R_drew)); exact HO_5.out) hb); have n1_ := Aside0.mk (Kd.R_below (by (with_reducible repeat (first | apply Kd.R_alloc | apply Kd.R_drewN | apply Kd.R_drew)); exact HO_6.out) hb); have n2_ := Aside0.mk (Kd.S_lower (Kd.S_new' ho0 (Kd.R_lt (by (with_reducible repeat (first | apply Kd.R_alloc | apply Kd.R_drewN | apply Kd.R_drew)); exact HO_5.out))) (below_size (by repeat (first | (with_reducible first | exact HB.out | apply below_alloc | apply pw_below_drewN | apply below_drew1) | exact HB.out)))); have n3_ := Aside0.mk (Kd.C_below (by repeat (first | (with_reducible exact HR307.out) | (with_reducible refine Kd.C_alloc ?_ _) | (with_reducible refine Kd.C_drewN ?_ _) | (with_reducible refine Kd.C_drew ?_) | exact HR307.out)) hb); have n4_ := Aside0.mk (below_step (by repeat (first | (with_reducible first | exact HB.out | apply below_alloc | apply pw_below_drewN | apply below_drew1) | exact HB.out)) hb); clear HO_5; clear HO_6; clear HR307; clear HB; have HO_5 := n0_; have HO_6 := n1_; have HO312 := n2_; have HR307 := n3_; have HB := n4_; clear n0_ n1_ n2_ n3_ n4_; (try clear hb); (try clear hb2); (try clear hk); (try clear hi); (try clear ho0); have p313 : 0 ≤ (x13_4 : Int) := of_decide_eq_true (by first | (with_reducible assumption) | assumption); have q313 : x13_4 < (x6_1.length : Int) := of_decide_eq_true (by first | (with_reducible assumption) | assumption); obtain ⟨ad313, e313, hx313_0⟩ := Kd.at_int (Kd.R_reads' HO_6.out).2.2 x13_4 p313 q313; cases e313; replace p313 := eq_true p313; replace q313 := eq_true q313; have q51 : (x13_4 : Int) ≤ ((l0.length : Int) : Int) := of_decide_eq_true (by first | (with_reducible assumption) | assumption); obtain ⟨i051, hi051, _, hsz51, _⟩ := info_parts info22; have hroom51 : l0.length ≤ c0 := HC0.out; have hC51 : Kd.C (Kd.slice 5 (Kd.int .u8)) _ A0 l0.length l0 := HR0.out; have hcut51 := cut_to (P := Try.prog) 32 22 .i64 Try.underlying32 hi051 A0 l0.length c0 x13_4 (of_decide_eq_true (by first | (with_reducible assumption) | assumption)) q51 hroom51; have hr51 := Kd.C_take (m := (x13_4 : Int).toNat) hC51 (by omega); have hy51 : y314.length = (x13_4 : Int).toNat := (by rw [Ny314.out, List.length_take]; omega); rw [← Ny314.out] at hr51; rw [← hy51] at hcut51; have HR317 := Aside0.mk hr51; have HC317 := Aside0.mk (show y314.length ≤ c0 from by omega); clear hr51 hC51 hroom51 hi051 hsz51; have KY51 := Aside0.mk hy51; clear hy51; replace q51 := eq_true q51; obtain ⟨Ao52, co52, eo52⟩ := Kd.S_slice HO312.out; subst eo52) | ((with_reducible refine gate_callee (f := 17) rfl ?_); refine goesL_ (some 104) rfl rfl Try.func17 (by kernel_rfl) rfl #[.slice Ao52 t308.length co52, .slice A0 y314.length c0] rfl (by (try simp only [List.map_toArray, List.map_cons, List.map_nil]); first | done | rfl | (simp only [List.length_drop, List.length_take]; rfl)) ?_; (with_reducible refine (winnowref02_Same.calls k4 _ _ t308 _ _ y314 true _ ?side1 ?side2 ?side3 ?side4 A43.out).mono ?_); (case side1 => repeat (first | exact (Kd.S_reads' HO312.out).2.2 | (with_reducible refine Kd.C_alloc ?_ _) | (with_reducible refine Kd.C_drewN ?_ _) | (with_reducible refine Kd.C_drew ?_))); (case side2 => exact (Kd.S_reads' HO312.out).2.1); (case side3 => repeat (first | exact (Kd.C_below HR317.out HB.out) | (with_reducible refine Kd.C_alloc ?_ _) | (with_reducible refine Kd.C_drewN ?_ _) | (with_reducible refine Kd.C_drew ?_))); (case side4 => exact HC317.out); rintro e w' ⟨rfl, ⟨nd, rfl⟩⟩; refine ⟨_, rfl, ?_⟩; have p319 : 0 ≤ (x13_4 : Int) := of_decide_eq_true (by first | (with_reducible assumption) | assumption); have q319 : x13_4 < (x6_1.length : Int) := of_decide_eq_true (by first | (with_reducible assumption) | assumption); obtain ⟨ad319, e319, hx319_0⟩ := Kd.at_int (Kd.R_reads' HO_6.out).2.2 x13_4 p319 q319; obtain rfl : ad313 = ad319 := (by injection e319); replace p319 := eq_true p319; replace q319 := eq_true q319) | (go_at_call 9; (with_reducible refine (winnowlaw02_alive.calls  t320 _ A47.out).mono ?_); rintro e w53 ⟨rfl, hb⟩; have n0_ := Aside0.mk (Kd.R_below (by (with_reducible repeat (first | apply Kd.R_alloc | apply Kd.R_drewN | apply Kd.R_drew)); exact HO_5.out) hb); have n1_ := Aside0.mk (Kd.R_below (by (with_reducible repeat (first | apply Kd.R_alloc | apply Kd.R_drewN | apply Kd.R_drew)); exact HO_6.out) hb); have n2_ := Aside0.mk (Kd.S_below (by (with_reducible repeat (first | apply Kd.S_alloc | apply Kd.S_drewN | apply Kd.S_drew)); exact HO312.out) hb); have n3_ := Aside0.mk (Kd.C_below (by repeat (first | (with_reducible exact HR307.out) | (with_reducible refine Kd.C_alloc ?_ _) | (with_reducible refine Kd.C_drewN ?_ _) | (with_reducible refine Kd.C_drew ?_) | exact HR307.out)) hb); have n4_ := Aside0.mk (below_step (by repeat (first | (with_reducible first | exact HB.out | apply below_alloc | apply pw_below_drewN | apply below_drew1) | exact HB.out)) hb); clear HO_5; clear HO_6; clear HO312; clear HR307; clear HB; have HO_5 := n0_; have HO_6 := n1_; have HO312 := n2_; have HR307 := n3_; have HB := n4_; clear n0_ n1_ n2_ n3_ n4_; (try clear hb); (try clear hb2); (try clear hk); (try clear hi)))
                                              go_ret
                                              exact ⟨by first | rfl | (simp [errW_none, errW_some] <;> rfl) | (simp [*, errW_none, errW_some] <;> rfl), by repeat (first | (with_reducible first | exact HB.out | apply below_alloc | apply pw_below_drewN | apply below_drew1) | exact HB.out)⟩
                                            · rw [if_neg c46] at H
                                              have c46b0 : (t310 == 0) = false := beq_eq_false_iff_ne.mpr c46
                                              have c46b1 : (t310 != 0) = true := bne_iff_ne.mpr c46
                                              exact absurd ((Option.some.inj H).trans HRT_.out) (by decide)
                                          · rw [if_neg c45] at H
                                            have c45b0 : (t309 == (rd x6_1 x13_4)) = false := beq_eq_false_iff_ne.mpr c45
                                            have c45b1 : (t309 != (rd x6_1 x13_4)) = true := bne_iff_ne.mpr c45
                                            exact absurd ((Option.some.inj H).trans HRT_.out) (by decide)
                                        · replace c44 := Bool.eq_false_iff.mpr c44
                                          subst c44
                                          have H1 : (some false) = some r := by rw [if_neg (show ¬ (false = true) by decide)] at H; exact H
                                          clear H
                                          have H := H1
                                          clear H1
                                          exact absurd ((Option.some.inj H).trans HRT_.out) (by decide)
                                      · rw [if_neg c42] at H
                                        exact absurd H (by simp)
                                    · rw [if_neg c40] at H
                                      have c40b0 : ((rd x6_1 x13_4) == a1) = false := beq_eq_false_iff_ne.mpr c40
                                      have c40b1 : ((rd x6_1 x13_4) != a1) = true := bne_iff_ne.mpr c40
                                      have c54b0 := eq_true (of_decide_eq_true (by first | (with_reducible assumption) | assumption) : 0 ≤ x13_4)
                                      by_cases c55 : x13_4 ≤ (l0.length : Int)
                                      · rw [if_pos c55] at H
                                        have c55b0 := eq_true c55
                                        have c55b1 : decide (x13_4 ≤ (l0.length : Int)) = true := decide_eq_true c55
                                        clear c55
                                        obtain ⟨y321, hy321⟩ : ∃ y_ : List (List Int), y_ = (l0.take (x13_4 : Int).toNat) := ⟨_, rfl⟩
                                        replace H : ((winnowref02_Same.f k4 t308 y321).bind fun t325 => (if t325 = true then (if t309 = (rd x6_1 x13_4) then (if t310 = 3 then ((winnowlaw02_alive.f).bind fun t327 => (some t327)) else (some false)) else (some false)) else (some false))) = some r := by first | (rw [hy321]; with_reducible exact H) | (have H2_ := (Option.bind_some _ _).symm.trans H; rw [hy321]; with_reducible exact H2_) | (have H2_ := (Option.bind_some _ _).symm.trans H; with_reducible exact H2_) | with_reducible exact H | (rw [hy321]; exact H) | exact H
                                        have Ny321 := Aside0.mk hy321
                                        clear hy321
                                        replace H := Option.bind_eq_some_iff.mp H
                                        obtain ⟨t325, A560, H⟩ := H
                                        replace H : (if t325 = true then (if t309 = (rd x6_1 x13_4) then (if t310 = 3 then ((winnowlaw02_alive.f).bind fun t327 => (some t327)) else (some false)) else (some false)) else (some false)) = some r := H
                                        have A56 := Aside0.mk A560
                                        clear A560
                                        by_cases c57 : t325 = true
                                        · subst c57
                                          have H1 : (if t309 = (rd x6_1 x13_4) then (if t310 = 3 then ((winnowlaw02_alive.f).bind fun t327 => (some t327)) else (some false)) else (some false)) = some r := by rw [if_pos rfl] at H; exact H
                                          clear H
                                          have H := H1
                                          clear H1
                                          by_cases c58 : t309 = (rd x6_1 x13_4)
                                          · rw [if_pos c58] at H
                                            have c58b0 : (t309 == (rd x6_1 x13_4)) = true := beq_iff_eq.mpr c58
                                            have c58b1 : (t309 != (rd x6_1 x13_4)) = false := bne_eq_false_iff_eq.mpr c58
                                            clear c58
                                            by_cases c59 : t310 = 3
                                            · rw [if_pos c59] at H
                                              have c59b0 : (t310 == 3) = true := beq_iff_eq.mpr c59
                                              have c59b1 : (t310 != 3) = false := bne_eq_false_iff_eq.mpr c59
                                              clear c59
                                              replace H := Option.bind_eq_some_iff.mp H
                                              obtain ⟨t327, A600, H⟩ := H
                                              replace H : (some t327) = some r := H
                                              have A60 := Aside0.mk A600
                                              clear A600
                                              obtain rfl := Option.some.inj H
                                              obtain ⟨Ao61, co61, eo61⟩ := Kd.R_slice HO_6.out
                                              subst eo61
                                              have q62 : (a1 : Int) ≤ ((x5_1.length : Int) : Int) := of_decide_eq_true (by first | (with_reducible assumption) | assumption)
                                              obtain ⟨i062, hi062, _, hsz62, _⟩ := info_parts info5
                                              have hroom62 : x5_1.length ≤ co18 := (Kd.R_reads' HO_5.out).2.1
                                              have hC62 : Kd.C (Kd.int .u8) _ Ao18 x5_1.length x5_1 := (Kd.R_reads' HO_5.out).2.2
                                              have hcut62 := cut_to (P := Try.prog) 22 5 .i64 Try.underlying22 hi062 Ao18 x5_1.length co18 a1 (of_decide_eq_true (by first | (with_reducible assumption) | assumption)) q62 hroom62
                                              have hr62 := Kd.C_take (m := (a1 : Int).toNat) hC62 (by omega)
                                              have hy62 : y304.length = (a1 : Int).toNat := (by rw [Ny304.out, List.length_take]; omega)
                                              rw [← Ny304.out] at hr62
                                              rw [← hy62] at hcut62
                                              have HR307 := Aside0.mk hr62
                                              have HC307 := Aside0.mk (show y304.length ≤ co18 from by omega)
                                              clear hr62 hC62 hroom62 hi062 hsz62
                                              have KY62 := Aside0.mk hy62
                                              clear hy62
                                              have KL62 := Aside0.mk (show (a1 : Int).toNat ≤ x5_1.length from by omega)
                                              replace q62 := eq_true q62
                                              go_wp2_with (first | ((with_reducible refine gate_callee (f := 15) rfl ?_); refine goesL_ (some 90) rfl rfl Try.func15 (by kernel_rfl) rfl #[.slice Ao18 y304.length co18] rfl (by (try simp only [List.map_toArray, List.map_cons, List.map_nil]); first | done | rfl | (simp only [List.length_drop, List.length_take]; rfl)) ?_; (with_reducible refine (frame_All.calls k4 _ _ y304 t308 t309 t310 _ ?side1 ?side2 A37.out).mono ?_); (case side1 => repeat (first | exact (by repeat (first | (with_reducible exact HR307.out) | (with_reducible refine Kd.C_alloc ?_ _) | (with_reducible refine Kd.C_drewN ?_ _) | (with_reducible refine Kd.C_drew ?_) | exact HR307.out)) | (with_reducible refine Kd.C_alloc ?_ _) | (with_reducible refine Kd.C_drewN ?_ _) | (with_reducible refine Kd.C_drew ?_))); (case side2 => exact HC307.out); rintro e w63 ⟨v311, rfl, ho0, hb⟩; refine ⟨_, rfl, ?_⟩; have n0_ := Aside0.mk (Kd.R_below (by (with_reducible repeat (first | apply Kd.R_alloc | apply Kd.R_drewN | apply Kd.R_drew)); exact HO_5.out) hb); have n1_ := Aside0.mk (Kd.R_below (by (with_reducible repeat (first | apply Kd.R_alloc | apply Kd.R_drewN | apply Kd.R_drew)); exact HO_6.out) hb); have n2_ := Aside0.mk (Kd.S_lower (Kd.S_new' ho0 (Kd.R_lt (by (with_reducible repeat (first | apply Kd.R_alloc | apply Kd.R_drewN | apply Kd.R_drew)); exact HO_5.out))) (below_size (by repeat (first | (with_reducible first | exact HB.out | apply below_alloc | apply pw_below_drewN | apply below_drew1) | exact HB.out)))); have n3_ := Aside0.mk (Kd.C_below (by repeat (first | (with_reducible exact HR307.out) | (with_reducible refine Kd.C_alloc ?_ _) | (with_reducible refine Kd.C_drewN ?_ _) | (with_reducible refine Kd.C_drew ?_) | exact HR307.out)) hb); have n4_ := Aside0.mk (below_step (by repeat (first | (with_reducible first | exact HB.out | apply below_alloc | apply pw_below_drewN | apply below_drew1) | exact HB.out)) hb); clear HO_5; clear HO_6; clear HR307; clear HB; have HO_5 := n0_; have HO_6 := n1_; have HO312 := n2_; have HR307 := n3_; have HB := n4_; clear n0_ n1_ n2_ n3_ n4_; (try clear hb); (try clear hb2); (try clear hk); (try clear hi); (try clear ho0); have p313 : 0 ≤ (x13_4 : Int) := of_decide_eq_true (by first | (with_reducible assumption) | assumption); have q313 : x13_4 < (x6_1.length : Int) := of_decide_eq_true (by first | (with_reducible assumption) | assumption); obtain ⟨ad313, e313, hx313_0⟩ := Kd.at_int (Kd.R_reads' HO_6.out).2.2 x13_4 p313 q313; cases e313; replace p313 := eq_true p313; replace q313 := eq_true q313; have q64 : (x13_4 : Int) ≤ ((l0.length : Int) : Int) := of_decide_eq_true (by first | (with_reducible assumption) | assumption); obtain ⟨i064, hi064, _, hsz64, _⟩ := info_parts info22; have hroom64 : l0.length ≤ c0 := HC0.out; have hC64 : Kd.C (Kd.slice 5 (Kd.int .u8)) _ A0 l0.length l0 := HR0.out; have hcut64 := cut_to (P := Try.prog) 32 22 .i64 Try.underlying32 hi064 A0 l0.length c0 x13_4 (of_decide_eq_true (by first | (with_reducible assumption) | assumption)) q64 hroom64; have hr64 := Kd.C_take (m := (x13_4 : Int).toNat) hC64 (by omega); have hy64 : y321.length = (x13_4 : Int).toNat := (by rw [Ny321.out, List.length_take]; omega); rw [← Ny321.out] at hr64; rw [← hy64] at hcut64; have HR324 := Aside0.mk hr64; have HC324 := Aside0.mk (show y321.length ≤ c0 from by omega); clear hr64 hC64 hroom64 hi064 hsz64; have KY64 := Aside0.mk hy64; clear hy64; replace q64 := eq_true q64; obtain ⟨Ao65, co65, eo65⟩ := Kd.S_slice HO312.out; subst eo65) | ((with_reducible refine gate_callee (f := 17) rfl ?_); refine goesL_ (some 104) rfl rfl Try.func17 (by kernel_rfl) rfl #[.slice Ao65 t308.length co65, .slice A0 y321.length c0] rfl (by (try simp only [List.map_toArray, List.map_cons, List.map_nil]); first | done | rfl | (simp only [List.length_drop, List.length_take]; rfl)) ?_; (with_reducible refine (winnowref02_Same.calls k4 _ _ t308 _ _ y321 true _ ?side1 ?side2 ?side3 ?side4 A56.out).mono ?_); (case side1 => repeat (first | exact (Kd.S_reads' HO312.out).2.2 | (with_reducible refine Kd.C_alloc ?_ _) | (with_reducible refine Kd.C_drewN ?_ _) | (with_reducible refine Kd.C_drew ?_))); (case side2 => exact (Kd.S_reads' HO312.out).2.1); (case side3 => repeat (first | exact (Kd.C_below HR324.out HB.out) | (with_reducible refine Kd.C_alloc ?_ _) | (with_reducible refine Kd.C_drewN ?_ _) | (with_reducible refine Kd.C_drew ?_))); (case side4 => exact HC324.out); rintro e w' ⟨rfl, ⟨nd, rfl⟩⟩; refine ⟨_, rfl, ?_⟩; have p326 : 0 ≤ (x13_4 : Int) := of_decide_eq_true (by first | (with_reducible assumption) | assumption); have q326 : x13_4 < (x6_1.length : Int) := of_decide_eq_true (by first | (with_reducible assumption) | assumption); obtain ⟨ad326, e326, hx326_0⟩ := Kd.at_int (Kd.R_reads' HO_6.out).2.2 x13_4 p326 q326; obtain rfl : ad313 = ad326 := (by injection e326); replace p326 := eq_true p326; replace q326 := eq_true q326) | (go_at_call 9; (with_reducible refine (winnowlaw02_alive.calls  t327 _ A60.out).mono ?_); rintro e w66 ⟨rfl, hb⟩; have n0_ := Aside0.mk (Kd.R_below (by (with_reducible repeat (first | apply Kd.R_alloc | apply Kd.R_drewN | apply Kd.R_drew)); exact HO_5.out) hb); have n1_ := Aside0.mk (Kd.R_below (by (with_reducible repeat (first | apply Kd.R_alloc | apply Kd.R_drewN | apply Kd.R_drew)); exact HO_6.out) hb); have n2_ := Aside0.mk (Kd.S_below (by (with_reducible repeat (first | apply Kd.S_alloc | apply Kd.S_drewN | apply Kd.S_drew)); exact HO312.out) hb); have n3_ := Aside0.mk (Kd.C_below (by repeat (first | (with_reducible exact HR307.out) | (with_reducible refine Kd.C_alloc ?_ _) | (with_reducible refine Kd.C_drewN ?_ _) | (with_reducible refine Kd.C_drew ?_) | exact HR307.out)) hb); have n4_ := Aside0.mk (below_step (by repeat (first | (with_reducible first | exact HB.out | apply below_alloc | apply pw_below_drewN | apply below_drew1) | exact HB.out)) hb); clear HO_5; clear HO_6; clear HO312; clear HR307; clear HB; have HO_5 := n0_; have HO_6 := n1_; have HO312 := n2_; have HR307 := n3_; have HB := n4_; clear n0_ n1_ n2_ n3_ n4_; (try clear hb); (try clear hb2); (try clear hk); (try clear hi)))
                                              go_ret
                                              exact ⟨by first | rfl | (simp [errW_none, errW_some] <;> rfl) | (simp [*, errW_none, errW_some] <;> rfl), by repeat (first | (with_reducible first | exact HB.out | apply below_alloc | apply pw_below_drewN | apply below_drew1) | exact HB.out)⟩
                                            · rw [if_neg c59] at H
                                              have c59b0 : (t310 == 3) = false := beq_eq_false_iff_ne.mpr c59
                                              have c59b1 : (t310 != 3) = true := bne_iff_ne.mpr c59
                                              exact absurd ((Option.some.inj H).trans HRT_.out) (by decide)
                                          · rw [if_neg c58] at H
                                            have c58b0 : (t309 == (rd x6_1 x13_4)) = false := beq_eq_false_iff_ne.mpr c58
                                            have c58b1 : (t309 != (rd x6_1 x13_4)) = true := bne_iff_ne.mpr c58
                                            exact absurd ((Option.some.inj H).trans HRT_.out) (by decide)
                                        · replace c57 := Bool.eq_false_iff.mpr c57
                                          subst c57
                                          have H1 : (some false) = some r := by rw [if_neg (show ¬ (false = true) by decide)] at H; exact H
                                          clear H
                                          have H := H1
                                          clear H1
                                          exact absurd ((Option.some.inj H).trans HRT_.out) (by decide)
                                      · rw [if_neg c55] at H
                                        exact absurd H (by simp)
                                  · rw [if_neg c39] at H
                                    exact absurd H (by simp)
                                · rw [if_neg c38] at H
                                  exact absurd H (by simp)
                              · rw [if_neg c36] at H
                                exact absurd H (by simp)
                            · rw [if_neg c35] at H
                              exact absurd H (by simp)
  · replace c4 := Bool.eq_false_iff.mpr c4
    subst c4
    have H1 : ((winnowlaw02_alive.f).bind fun t284 => (some t284)) = some r := by rw [if_neg (show ¬ (false = true) by decide)] at H; exact H
    clear H
    have H := H1
    clear H1
    replace H := Option.bind_eq_some_iff.mp H
    obtain ⟨t284, A670, H⟩ := H
    replace H : (some t284) = some r := H
    have A67 := Aside0.mk A670
    clear A670
    obtain rfl := Option.some.inj H
    go_enter Try.func7, Try.ntmps7
    go_wp2_with (first | ((with_reducible refine gate_callee (f := 18) rfl ?_); refine goesL_ (some 17) rfl rfl Try.func18 (by kernel_rfl) rfl #[.slice A0 l0.length c0] rfl (by (try simp only [List.map_toArray, List.map_cons, List.map_nil]); first | done | rfl | (simp only [List.length_drop, List.length_take]; rfl)) ?_; (with_reducible refine (winnowlaw02_bound.calls k _ _ l0 false _ ?side1 ?side2 A3.out).mono ?_); (case side1 => repeat (first | exact HR0.out | (with_reducible refine Kd.C_alloc ?_ _) | (with_reducible refine Kd.C_drewN ?_ _) | (with_reducible refine Kd.C_drew ?_))); (case side2 => exact HC0.out); rintro e w' ⟨rfl, ⟨nd, rfl⟩⟩; refine ⟨_, rfl, ?_⟩) | ((with_reducible refine gate_callee (f := 9) rfl ?_); refine goesL_ (some 19) rfl rfl Try.func9 (by kernel_rfl) rfl #[] rfl (by (try simp only [List.map_toArray, List.map_cons, List.map_nil]); first | done | rfl | (simp only [List.length_drop, List.length_take]; rfl)) ?_; (with_reducible refine (winnowlaw02_alive.calls  t284 _ A67.out).mono ?_); rintro e w68 ⟨rfl, hb⟩; refine ⟨_, rfl, ?_⟩; have n0_ := Aside0.mk (below_step (by repeat (first | (with_reducible first | exact HB.out | apply below_alloc | apply pw_below_drewN | apply below_drew1) | exact HB.out)) hb); clear HB; have HB := n0_; clear n0_; (try clear hb); (try clear hb2); (try clear hk); (try clear hi)))
    go_ret
    exact ⟨by first | rfl | (simp [errW_none, errW_some] <;> rfl) | (simp [*, errW_none, errW_some] <;> rfl), by repeat (first | (with_reducible first | exact HB.out | apply below_alloc | apply pw_below_drewN | apply below_drew1) | exact HB.out)⟩

end Go.Proofs.Ytjamddlclahhjaa.PAll
