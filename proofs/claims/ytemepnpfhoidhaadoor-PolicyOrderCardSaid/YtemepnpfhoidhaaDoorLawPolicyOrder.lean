import Derived.Test.YtemepnpfhoidhaaDoorPolicyHandN
import Derived.Test.YtemepnpfhoidhaaDoorPAllx5m
namespace Go.Proofs.YtemepnpfhoidhaaDoor.PAll
open Go.RowKit Go.Proofs.YtemepnpfhoidhaaDoorW.PrintWords Go.Proofs.YtemepnpfhoidhaaDoorW.PrintLast Go.Proofs.YtemepnpfhoidhaaDoorW.PrintMore
attribute [local go_sem] max2_int min2_int max_two min_two max_three min_three max_four min_four   -- for this text's walks alone
set_option linter.unusedVariables false
set_option linter.unusedSimpArgs false

/-! ### winnowlaw04_PolicyOrder: function 6 -/
mutual
def winnowlaw04_PolicyOrder.j0 : Nat → List (S39) → List (S44) → Int → Int → Bool → Option (Bool)
  | 0, _, _, _, _, _ => none
  | k + 1, x0, x1, x2, x3, x40 => if x40 = true then ((winnowlaw04_alive.f).bind fun t215 => (some t215)) else ((winnowlaw04_Own.f k x0).bind fun t216 => ((some (([] : List (S44)) : List (S44))).bind fun y219 => (if y219.length + x1.length < 1759218604441 then ((some (y219 ++ x1 : List (S44))).bind fun y222 => (if 0 ≤ x3 then (if x3 < (x1.length : Int) then (if 0 ≤ x2 then (if x2 < (x1.length : Int) then (if x2 < (y222.length : Int) then (if x3 < (y222.length : Int) then ((some ((y222.set (x2 : Int).toNat (⟨(rd_T44 x1 x3).f0, (rd_T44 x1 x3).f1, (rd_T44 x1 x3).f2, (rd_T44 x1 x3).f3, (rd_T44 x1 x3).f4, (rd_T44 x1 x3).f5, (rd_T44 x1 x3).f6, (rd_T44 x1 x3).f7⟩ : S44)).set (x3 : Int).toNat (⟨(rd_T44 x1 x2).f0, (rd_T44 x1 x2).f1, (rd_T44 x1 x2).f2, (rd_T44 x1 x2).f3, (rd_T44 x1 x2).f4, (rd_T44 x1 x2).f5, (rd_T44 x1 x2).f6, (rd_T44 x1 x2).f7⟩ : S44) : List (S44))).bind fun y228 => ((policy_Eval.f t216 x1).bind fun t229 => ((policy_Eval.f t216 y228).bind fun t230 => (if t229 = t230 then (winnowlaw04_PolicyOrder.l0 k x0 x1 x2 t216 y228 0) else (some false))))) else (none)) else (none)) else (none)) else (none)) else (none)) else (none))) else (none))))
def winnowlaw04_PolicyOrder.l0 : Nat → List (S39) → List (S44) → Int → List (S37) → List (S44) → Int → Option (Bool)
  | 0, _, _, _, _, _, _ => none
  | k + 1, x0, x1, x2, x9, x10, x11 => if x11 < (x0.length : Int) then (if 0 ≤ x11 then (if ((rd_T39 x0 x11).f1).toList = ([109, 97, 110, 121] : List UInt8) then ((winnowlaw04_alive.f).bind fun t232 => (some t232)) else (winnowlaw04_PolicyOrder.l0 k x0 x1 x2 x9 x10 (wrap64 (x11 + 1)))) else (none)) else (if 0 ≤ x2 then (if x2 < (x1.length : Int) then (if x10.length < 1759218604441 then ((policy_Eval.f x9 (x10 ++ [(⟨(rd_T44 x1 x2).f0, (rd_T44 x1 x2).f1, (rd_T44 x1 x2).f2, (rd_T44 x1 x2).f3, (rd_T44 x1 x2).f4, (rd_T44 x1 x2).f5, (rd_T44 x1 x2).f6, (rd_T44 x1 x2).f7⟩ : S44)])).bind fun t237 => ((policy_Eval.f x9 x1).bind fun t238 => (if t237 = t238 then ((winnowlaw04_alive.f).bind fun t239 => (some t239)) else (some false)))) else (none)) else (none)) else (none))
end
def winnowlaw04_PolicyOrder.f (k : Nat) (l0 : List (S39)) (l1 : List (S44)) (a2 : Int) (a3 : Int) : Option (Bool) := (winnowlaw04_Light.f k l0 l1).bind fun t213 => (if t213 = true then ((winnowlaw04_right.f k l1).bind fun t214 => (if t214 = true then (if a2 < 0 then (winnowlaw04_PolicyOrder.j0 k l0 l1 a2 a3 true) else (if a3 < 0 then (winnowlaw04_PolicyOrder.j0 k l0 l1 a2 a3 true) else (if a2 ≥ (l1.length : Int) then (winnowlaw04_PolicyOrder.j0 k l0 l1 a2 a3 true) else (winnowlaw04_PolicyOrder.j0 k l0 l1 a2 a3 (decide (a3 ≥ (l1.length : Int))))))) else (winnowlaw04_PolicyOrder.j0 k l0 l1 a2 a3 true))) else (winnowlaw04_PolicyOrder.j0 k l0 l1 a2 a3 true))
theorem cellSet_ {w : World} {b : Addr} (a : Addr) (v : Value) {u : Value} (h : w.cell? b = some u) : ∃ u2, (w.setCell a v).cell? b = some u2 := by
  by_cases e : a = b
  · subst e
    exact ⟨v, World.cell?_setCell_same _ _ _ h⟩
  exact ⟨u, (World.cell?_setCell_other _ _ _ _ e).trans h⟩
theorem R_far_cells {α : Type} {d : Kd α} {e base : Nat} {ok : Nat → Prop} {v : Value} {xs : List α} {g : Nat} (hok : ∀ k, ok k → k ≠ g) : ∀ (vs : List Value) (o : Nat) {W : World}, Kd.R d e W base ok v xs → Kd.R d e (W.setCells g o vs) base ok v xs
  | [], _, _, h => h
  | u :: vs, o, W, h => R_far_cells hok vs (o + 1) (Kd.R_far h (p := ⟨g, o, none⟩) hok u)
theorem lastSkip_ {P : Program} {ops : Array Oper} {Q : Exit → Act → World → Prop} {md : Region.Mode} {S : World → Prop} {ds : List Nat} {i : Nat} {oi : Oper} {fuel : Nat} {l : Array Bool} {a : Act} {w w1 : World} (l' : Array Bool) (hi : ops[i]? = some oi) (hN : oi.dst = none) (hc : readyB md ops l l' i = true) (hd : i ∈ ds) (hw : Region.wanted oi (yielded ops a.tmps) = true) (hrun : (execOp a.eval oi).run P w = .ok .skip w1) (h : wpAnyLast P md ops Q S ds fuel l' (a.put none undef) w1) : wpAnyLast P md ops Q S ds (fuel + 1) l a w :=
  last_ l' hi hN hc hd (fun K hK => skip_ hw hN hrun (hK.out _ _ h))
theorem winnowlaw04_PolicyOrder.mono_l : ∀ k, (∀ y0 y1 y2 y3 y4, LeO (winnowlaw04_PolicyOrder.j0 k y0 y1 y2 y3 y4) (winnowlaw04_PolicyOrder.j0 (k + 1) y0 y1 y2 y3 y4)) ∧ (∀ y0 y1 y2 y3 y4 y5, LeO (winnowlaw04_PolicyOrder.l0 k y0 y1 y2 y3 y4 y5) (winnowlaw04_PolicyOrder.l0 (k + 1) y0 y1 y2 y3 y4 y5))
  | 0 => ⟨fun _ _ _ _ _ r h => by simp [winnowlaw04_PolicyOrder.j0] at h, fun _ _ _ _ _ _ r h => by simp [winnowlaw04_PolicyOrder.l0] at h⟩
  | k + 1 => by
    obtain ⟨ih0, ih1⟩ := winnowlaw04_PolicyOrder.mono_l k
    refine ⟨?_, ?_⟩
    · intro y0 y1 y2 y3 y4
      unfold winnowlaw04_PolicyOrder.j0
      repeat' first
      | (with_reducible exact ih0 _ _ _ _ _)
      | (with_reducible exact ih1 _ _ _ _ _ _)
      | (with_reducible exact winnowlaw04_Light.mono _ _ _)
      | (with_reducible exact winnowlaw04_Own.mono _ _)
      | (with_reducible exact winnowlaw04_right.mono _ _)
      | (with_reducible exact LeO.refl _)
      | (with_reducible exact LeO.none _)
      | (with_reducible refine LeO.ite ?_ ?_)
      | (with_reducible refine LeO.bind ?_ (fun _ => ?_))
      | exact ih0 _ _ _ _ _
      | exact ih1 _ _ _ _ _ _
      | exact winnowlaw04_Light.mono _ _ _
      | exact winnowlaw04_Own.mono _ _
      | exact winnowlaw04_right.mono _ _
      | exact LeO.none _
      | refine LeO.ite ?_ ?_
      | refine LeO.bind ?_ (fun _ => ?_)
    · intro y0 y1 y2 y3 y4 y5
      unfold winnowlaw04_PolicyOrder.l0
      repeat' first
      | (with_reducible exact ih0 _ _ _ _ _)
      | (with_reducible exact ih1 _ _ _ _ _ _)
      | (with_reducible exact winnowlaw04_Light.mono _ _ _)
      | (with_reducible exact winnowlaw04_Own.mono _ _)
      | (with_reducible exact winnowlaw04_right.mono _ _)
      | (with_reducible exact LeO.refl _)
      | (with_reducible exact LeO.none _)
      | (with_reducible refine LeO.ite ?_ ?_)
      | (with_reducible refine LeO.bind ?_ (fun _ => ?_))
      | exact ih0 _ _ _ _ _
      | exact ih1 _ _ _ _ _ _
      | exact winnowlaw04_Light.mono _ _ _
      | exact winnowlaw04_Own.mono _ _
      | exact winnowlaw04_right.mono _ _
      | exact LeO.none _
      | refine LeO.ite ?_ ?_
      | refine LeO.bind ?_ (fun _ => ?_)
theorem winnowlaw04_PolicyOrder.mono : ∀ a0 a1 a2 a3 k, LeO (winnowlaw04_PolicyOrder.f k a0 a1 a2 a3) (winnowlaw04_PolicyOrder.f (k + 1) a0 a1 a2 a3) := by
  intro a0 a1 a2 a3 k
  obtain ⟨ih0, ih1⟩ := winnowlaw04_PolicyOrder.mono_l k
  unfold winnowlaw04_PolicyOrder.f
  repeat' first
      | (with_reducible exact ih0 _ _ _ _ _)
      | (with_reducible exact ih1 _ _ _ _ _ _)
      | (with_reducible exact winnowlaw04_Light.mono _ _ _)
      | (with_reducible exact winnowlaw04_Own.mono _ _)
      | (with_reducible exact winnowlaw04_right.mono _ _)
      | (with_reducible exact LeO.refl _)
      | (with_reducible exact LeO.none _)
      | (with_reducible refine LeO.ite ?_ ?_)
      | (with_reducible refine LeO.bind ?_ (fun _ => ?_))
      | exact ih0 _ _ _ _ _
      | exact ih1 _ _ _ _ _ _
      | exact winnowlaw04_Light.mono _ _ _
      | exact winnowlaw04_Own.mono _ _
      | exact winnowlaw04_right.mono _ _
      | exact LeO.none _
      | refine LeO.ite ?_ ?_
      | refine LeO.bind ?_ (fun _ => ?_)
def winnowlaw04_PolicyOrder.T5 : Bool × List (List Nat × List Nat) := (true, [([], []), ([], []), ([], []), ([], []), ([], []), ([], []), ([4, 5], [4, 5]), ([6], [6]), ([], []), ([], []), ([8, 9], [8, 9]), ([10], [10]), ([0, 1, 0, 1, 4, 5, 6, 7, 11], [0, 1]), ([12, 7, 0, 1, 4, 5, 6, 7, 11], [7, 12]), ([2, 3, 0, 1, 2, 3, 4, 5, 6, 7, 8, 9, 10, 11, 12, 13], [2, 3]), ([14, 11, 13, 0, 1, 2, 3, 4, 5, 6, 7, 8, 9, 10, 11, 12, 13], [11, 14])])
def winnowlaw04_PolicyOrder.B5 : List Nat := [0, 0, 0, 0, 0, 0, 48, 112, 0, 0, 768, 1792, 4083, 8179, 16383, 32767]
theorem winnowlaw04_PolicyOrder.tab5 : rtab .any (opsOf Tryd.f6 5) = winnowlaw04_PolicyOrder.T5 := by kernel_rfl
theorem winnowlaw04_PolicyOrder.bits5 : waitsOk winnowlaw04_PolicyOrder.T5.2 winnowlaw04_PolicyOrder.B5 = true := by kernel_rfl
set_option maxHeartbeats 40000000 in
set_option maxRecDepth 100000 in
theorem winnowlaw04_PolicyOrder.calls (k : Nat) (A0 : Option Addr) (c0 : Nat) (l0 : List (S39)) (A1 : Option Addr) (c1 : Nat) (l1 : List (S44)) (a2 : Int) (a3 : Int) (r : Bool) (w : World) (hr0 : Kd.C k39 w A0 l0.length l0) (hc0 : l0.length ≤ c0) (hr1 : Kd.C k44 w A1 l1.length l1) (hc1 : l1.length ≤ c1) (hL : Laid w) (h : winnowlaw04_PolicyOrder.f k l0 l1 a2 a3 = some r) :
    Calls Tryd.prog 6 #[.slice A0 l0.length c0, .slice A1 l1.length c1, .int .i64 a2, .int .i64 a3] w fun e w' => e = .returned (.bool r) ∧ Below w.heap.size w w' := by
  have HLD := Aside0.mk hL; clear hL; have hu44 := Tryd.underlying44; have HR0 := Aside0.mk hr0; have HC0 := Aside0.mk hc0; clear hr0 hc0; have HR1 := Aside0.mk hr1; have HC1 := Aside0.mk hc1; clear hr1 hc1; have HB := Aside0.mk (Below.refl w.heap.size w)
  have H : ((winnowlaw04_Light.f k l0 l1).bind fun t213 => (if t213 = true then ((winnowlaw04_right.f k l1).bind fun t214 => (if t214 = true then (if a2 < 0 then (winnowlaw04_PolicyOrder.j0 k l0 l1 a2 a3 true) else (if a3 < 0 then (winnowlaw04_PolicyOrder.j0 k l0 l1 a2 a3 true) else (if a2 ≥ (l1.length : Int) then (winnowlaw04_PolicyOrder.j0 k l0 l1 a2 a3 true) else (winnowlaw04_PolicyOrder.j0 k l0 l1 a2 a3 (decide (a3 ≥ (l1.length : Int))))))) else (winnowlaw04_PolicyOrder.j0 k l0 l1 a2 a3 true))) else (winnowlaw04_PolicyOrder.j0 k l0 l1 a2 a3 true))) = some r := h
  clear h; have HC5 := Aside0.mk H; clear H
  go_enter Tryd.func6, Tryd.ntmps6
  go_upto_region 1 with (fail)
  go_cut [40] (fun v40 wc => ∃ (kq : Nat) (x40_4 : Bool), v40 = .bool x40_4 ∧ Aside0 (winnowlaw04_PolicyOrder.j0 kq l0 l1 a2 a3 x40_4 = some r) ∧ Aside0 (kq ≤ k) ∧ Aside0 (Below w.heap.size w wc))
  case first =>
    have H := HC5.out; clear HC5
    replace H := Option.bind_eq_some_iff.mp H
    obtain ⟨t213, A60, H⟩ := H
    (try dsimp only at H)
    have A6 := Aside0.mk A60; clear A60
    by_cases c7 : t213 = true
    · subst c7
      rw [if_pos rfl] at H
      replace H := Option.bind_eq_some_iff.mp H
      obtain ⟨t214, A80, H⟩ := H
      (try dsimp only at H)
      have A8 := Aside0.mk A80; clear A80
      by_cases c9 : t214 = true
      · subst c9
        rw [if_pos rfl] at H
        by_cases c10 : a2 < 0
        · rw [if_pos c10] at H
          have c10b0 : decide (a2 < 0) = true := decide_eq_true c10; clear c10
          (first | rw [c10b0] | (simp only [i64_w, i32_w]; rw [c10b0]) | skip)
          have H' := Aside0.mk H
          clear H
          go_wp2_with (first | ((with_reducible refine gate_callee (f := 17) rfl ?_); refine goesL_ (some 14) rfl rfl Tryd.func17 (by kernel_rfl) rfl #[.slice A0 l0.length c0, .slice A1 l1.length c1] rfl (by (try simp only [List.map_toArray, List.map_cons, List.map_nil]); first | done | rfl | (simp only [List.length_drop, List.length_take]; rfl)) ?_; (with_reducible refine (winnowlaw04_Light.calls k _ _ l0 _ _ l1 true _ ?side1 ?side2 ?side3 ?side4 A6.out).mono ?_); (case side1 => repeat (first | exact (Kd.C_below HR0.out HB.out) | (with_reducible refine Kd.C_alloc ?_ _) | (with_reducible refine Kd.C_drewN ?_ _) | (with_reducible refine Kd.C_drew ?_))); (case side2 => exact HC0.out); (case side3 => repeat (first | exact (Kd.C_below HR1.out HB.out) | (with_reducible refine Kd.C_alloc ?_ _) | (with_reducible refine Kd.C_drewN ?_ _) | (with_reducible refine Kd.C_drew ?_))); (case side4 => exact HC1.out); rintro e w' ⟨rfl, ⟨nd, rfl⟩⟩; refine ⟨_, rfl, ?_⟩) | (go_at_call 18; (with_reducible refine (winnowlaw04_right.calls k _ _ l1 true _ ?side1 ?side2 A8.out).mono ?_); (case side1 => repeat (first | exact (Kd.C_below HR1.out (by repeat (first | (with_reducible first | exact HB.out | apply below_alloc | apply pw_below_drewN | apply below_drew1) | exact HB.out))) | (with_reducible refine Kd.C_alloc ?_ _) | (with_reducible refine Kd.C_drewN ?_ _) | (with_reducible refine Kd.C_drew ?_))); (case side2 => exact HC1.out); rintro e w11 ⟨rfl, hb⟩; have n0_ := Aside0.mk (below_step (by repeat (first | (with_reducible first | exact HB.out | apply below_alloc | apply pw_below_drewN | apply below_drew1) | exact HB.out)) hb); clear HB; have HB := n0_; clear n0_; (try clear hb); (try clear hb2); (try clear hk); (try clear hi)))
          go_meet
          case rel => exact ⟨_, (true), (by first | rfl | (simp; done) | (simp [*]; done)), H', ⟨by first | omega | exact Nat.le_refl _⟩, ⟨by repeat (first | (with_reducible first | exact HB.out | apply below_alloc | apply pw_below_drewN | apply below_drew1) | exact HB.out)⟩⟩
        · rw [if_neg c10] at H
          have c10b0 : decide (a2 < 0) = false := decide_eq_false c10; clear c10
          (first | rw [c10b0] | (simp only [i64_w, i32_w]; rw [c10b0]) | skip)
          by_cases c12 : a3 < 0
          · rw [if_pos c12] at H
            have c12b0 : decide (a3 < 0) = true := decide_eq_true c12; clear c12
            have H' := Aside0.mk H
            clear H
            go_wp2_with (first | ((with_reducible refine gate_callee (f := 17) rfl ?_); refine goesL_ (some 14) rfl rfl Tryd.func17 (by kernel_rfl) rfl #[.slice A0 l0.length c0, .slice A1 l1.length c1] rfl (by (try simp only [List.map_toArray, List.map_cons, List.map_nil]); first | done | rfl | (simp only [List.length_drop, List.length_take]; rfl)) ?_; (with_reducible refine (winnowlaw04_Light.calls k _ _ l0 _ _ l1 true _ ?side1 ?side2 ?side3 ?side4 A6.out).mono ?_); (case side1 => repeat (first | exact (Kd.C_below HR0.out HB.out) | (with_reducible refine Kd.C_alloc ?_ _) | (with_reducible refine Kd.C_drewN ?_ _) | (with_reducible refine Kd.C_drew ?_))); (case side2 => exact HC0.out); (case side3 => repeat (first | exact (Kd.C_below HR1.out HB.out) | (with_reducible refine Kd.C_alloc ?_ _) | (with_reducible refine Kd.C_drewN ?_ _) | (with_reducible refine Kd.C_drew ?_))); (case side4 => exact HC1.out); rintro e w' ⟨rfl, ⟨nd, rfl⟩⟩; refine ⟨_, rfl, ?_⟩) | (go_at_call 18; (with_reducible refine (winnowlaw04_right.calls k _ _ l1 true _ ?side1 ?side2 A8.out).mono ?_); (case side1 => repeat (first | exact (Kd.C_below HR1.out (by repeat (first | (with_reducible first | exact HB.out | apply below_alloc | apply pw_below_drewN | apply below_drew1) | exact HB.out))) | (with_reducible refine Kd.C_alloc ?_ _) | (with_reducible refine Kd.C_drewN ?_ _) | (with_reducible refine Kd.C_drew ?_))); (case side2 => exact HC1.out); rintro e w13 ⟨rfl, hb⟩; have n0_ := Aside0.mk (below_step (by repeat (first | (with_reducible first | exact HB.out | apply below_alloc | apply pw_below_drewN | apply below_drew1) | exact HB.out)) hb); clear HB; have HB := n0_; clear n0_; (try clear hb); (try clear hb2); (try clear hk); (try clear hi)))
            go_meet
            case rel => exact ⟨_, (true), (by first | rfl | (simp; done) | (simp [*]; done)), H', ⟨by first | omega | exact Nat.le_refl _⟩, ⟨by repeat (first | (with_reducible first | exact HB.out | apply below_alloc | apply pw_below_drewN | apply below_drew1) | exact HB.out)⟩⟩
          · rw [if_neg c12] at H
            have c12b0 : decide (a3 < 0) = false := decide_eq_false c12; clear c12
            by_cases c14 : a2 ≥ (l1.length : Int)
            · rw [if_pos c14] at H
              have c14b0 : decide ((l1.length : Int) ≤ a2) = true := decide_eq_true c14; clear c14
              have H' := Aside0.mk H
              clear H
              go_wp2_with (first | ((with_reducible refine gate_callee (f := 17) rfl ?_); refine goesL_ (some 14) rfl rfl Tryd.func17 (by kernel_rfl) rfl #[.slice A0 l0.length c0, .slice A1 l1.length c1] rfl (by (try simp only [List.map_toArray, List.map_cons, List.map_nil]); first | done | rfl | (simp only [List.length_drop, List.length_take]; rfl)) ?_; (with_reducible refine (winnowlaw04_Light.calls k _ _ l0 _ _ l1 true _ ?side1 ?side2 ?side3 ?side4 A6.out).mono ?_); (case side1 => repeat (first | exact (Kd.C_below HR0.out HB.out) | (with_reducible refine Kd.C_alloc ?_ _) | (with_reducible refine Kd.C_drewN ?_ _) | (with_reducible refine Kd.C_drew ?_))); (case side2 => exact HC0.out); (case side3 => repeat (first | exact (Kd.C_below HR1.out HB.out) | (with_reducible refine Kd.C_alloc ?_ _) | (with_reducible refine Kd.C_drewN ?_ _) | (with_reducible refine Kd.C_drew ?_))); (case side4 => exact HC1.out); rintro e w' ⟨rfl, ⟨nd, rfl⟩⟩; refine ⟨_, rfl, ?_⟩) | (go_at_call 18; (with_reducible refine (winnowlaw04_right.calls k _ _ l1 true _ ?side1 ?side2 A8.out).mono ?_); (case side1 => repeat (first | exact (Kd.C_below HR1.out (by repeat (first | (with_reducible first | exact HB.out | apply below_alloc | apply pw_below_drewN | apply below_drew1) | exact HB.out))) | (with_reducible refine Kd.C_alloc ?_ _) | (with_reducible refine Kd.C_drewN ?_ _) | (with_reducible refine Kd.C_drew ?_))); (case side2 => exact HC1.out); rintro e w15 ⟨rfl, hb⟩; have n0_ := Aside0.mk (below_step (by repeat (first | (with_reducible first | exact HB.out | apply below_alloc | apply pw_below_drewN | apply below_drew1) | exact HB.out)) hb); clear HB; have HB := n0_; clear n0_; (try clear hb); (try clear hb2); (try clear hk); (try clear hi)))
              go_meet
              case rel => exact ⟨_, (true), (by first | rfl | (simp; done) | (simp [*]; done)), H', ⟨by first | omega | exact Nat.le_refl _⟩, ⟨by repeat (first | (with_reducible first | exact HB.out | apply below_alloc | apply pw_below_drewN | apply below_drew1) | exact HB.out)⟩⟩
            · rw [if_neg c14] at H
              have c14b0 : decide ((l1.length : Int) ≤ a2) = false := decide_eq_false c14; clear c14
              have H' := Aside0.mk H
              clear H
              go_wp2_with (first | ((with_reducible refine gate_callee (f := 17) rfl ?_); refine goesL_ (some 14) rfl rfl Tryd.func17 (by kernel_rfl) rfl #[.slice A0 l0.length c0, .slice A1 l1.length c1] rfl (by (try simp only [List.map_toArray, List.map_cons, List.map_nil]); first | done | rfl | (simp only [List.length_drop, List.length_take]; rfl)) ?_; (with_reducible refine (winnowlaw04_Light.calls k _ _ l0 _ _ l1 true _ ?side1 ?side2 ?side3 ?side4 A6.out).mono ?_); (case side1 => repeat (first | exact (Kd.C_below HR0.out HB.out) | (with_reducible refine Kd.C_alloc ?_ _) | (with_reducible refine Kd.C_drewN ?_ _) | (with_reducible refine Kd.C_drew ?_))); (case side2 => exact HC0.out); (case side3 => repeat (first | exact (Kd.C_below HR1.out HB.out) | (with_reducible refine Kd.C_alloc ?_ _) | (with_reducible refine Kd.C_drewN ?_ _) | (with_reducible refine Kd.C_drew ?_))); (case side4 => exact HC1.out); rintro e w' ⟨rfl, ⟨nd, rfl⟩⟩; refine ⟨_, rfl, ?_⟩) | (go_at_call 18; (with_reducible refine (winnowlaw04_right.calls k _ _ l1 true _ ?side1 ?side2 A8.out).mono ?_); (case side1 => repeat (first | exact (Kd.C_below HR1.out (by repeat (first | (with_reducible first | exact HB.out | apply below_alloc | apply pw_below_drewN | apply below_drew1) | exact HB.out))) | (with_reducible refine Kd.C_alloc ?_ _) | (with_reducible refine Kd.C_drewN ?_ _) | (with_reducible refine Kd.C_drew ?_))); (case side2 => exact HC1.out); rintro e w16 ⟨rfl, hb⟩; have n0_ := Aside0.mk (below_step (by repeat (first | (with_reducible first | exact HB.out | apply below_alloc | apply pw_below_drewN | apply below_drew1) | exact HB.out)) hb); clear HB; have HB := n0_; clear n0_; (try clear hb); (try clear hb2); (try clear hk); (try clear hi)))
              go_meet
              case rel => exact ⟨_, (decide (a3 ≥ (l1.length : Int))), (by first | rfl | (simp; done) | (simp [*]; done)), H', ⟨by first | omega | exact Nat.le_refl _⟩, ⟨by repeat (first | (with_reducible first | exact HB.out | apply below_alloc | apply pw_below_drewN | apply below_drew1) | exact HB.out)⟩⟩
      · replace c9 := Bool.eq_false_iff.mpr c9
        subst c9
        rw [if_neg (show ¬ (false = true) by decide)] at H
        have H' := Aside0.mk H
        clear H
        go_wp2_with (first | ((with_reducible refine gate_callee (f := 17) rfl ?_); refine goesL_ (some 14) rfl rfl Tryd.func17 (by kernel_rfl) rfl #[.slice A0 l0.length c0, .slice A1 l1.length c1] rfl (by (try simp only [List.map_toArray, List.map_cons, List.map_nil]); first | done | rfl | (simp only [List.length_drop, List.length_take]; rfl)) ?_; (with_reducible refine (winnowlaw04_Light.calls k _ _ l0 _ _ l1 true _ ?side1 ?side2 ?side3 ?side4 A6.out).mono ?_); (case side1 => repeat (first | exact (Kd.C_below HR0.out HB.out) | (with_reducible refine Kd.C_alloc ?_ _) | (with_reducible refine Kd.C_drewN ?_ _) | (with_reducible refine Kd.C_drew ?_))); (case side2 => exact HC0.out); (case side3 => repeat (first | exact (Kd.C_below HR1.out HB.out) | (with_reducible refine Kd.C_alloc ?_ _) | (with_reducible refine Kd.C_drewN ?_ _) | (with_reducible refine Kd.C_drew ?_))); (case side4 => exact HC1.out); rintro e w' ⟨rfl, ⟨nd, rfl⟩⟩; refine ⟨_, rfl, ?_⟩) | (go_at_call 18; (with_reducible refine (winnowlaw04_right.calls k _ _ l1 false _ ?side1 ?side2 A8.out).mono ?_); (case side1 => repeat (first | exact (Kd.C_below HR1.out (by repeat (first | (with_reducible first | exact HB.out | apply below_alloc | apply pw_below_drewN | apply below_drew1) | exact HB.out))) | (with_reducible refine Kd.C_alloc ?_ _) | (with_reducible refine Kd.C_drewN ?_ _) | (with_reducible refine Kd.C_drew ?_))); (case side2 => exact HC1.out); rintro e w17 ⟨rfl, hb⟩; have n0_ := Aside0.mk (below_step (by repeat (first | (with_reducible first | exact HB.out | apply below_alloc | apply pw_below_drewN | apply below_drew1) | exact HB.out)) hb); clear HB; have HB := n0_; clear n0_; (try clear hb); (try clear hb2); (try clear hk); (try clear hi)))
        go_meet
        case rel => exact ⟨_, (true), (by first | rfl | (simp; done) | (simp [*]; done)), H', ⟨by first | omega | exact Nat.le_refl _⟩, ⟨by repeat (first | (with_reducible first | exact HB.out | apply below_alloc | apply pw_below_drewN | apply below_drew1) | exact HB.out)⟩⟩
    · replace c7 := Bool.eq_false_iff.mpr c7
      subst c7
      rw [if_neg (show ¬ (false = true) by decide)] at H
      have H' := Aside0.mk H
      clear H
      go_wp2_with (first | ((with_reducible refine gate_callee (f := 17) rfl ?_); refine goesL_ (some 14) rfl rfl Tryd.func17 (by kernel_rfl) rfl #[.slice A0 l0.length c0, .slice A1 l1.length c1] rfl (by (try simp only [List.map_toArray, List.map_cons, List.map_nil]); first | done | rfl | (simp only [List.length_drop, List.length_take]; rfl)) ?_; (with_reducible refine (winnowlaw04_Light.calls k _ _ l0 _ _ l1 false _ ?side1 ?side2 ?side3 ?side4 A6.out).mono ?_); (case side1 => repeat (first | exact (Kd.C_below HR0.out HB.out) | (with_reducible refine Kd.C_alloc ?_ _) | (with_reducible refine Kd.C_drewN ?_ _) | (with_reducible refine Kd.C_drew ?_))); (case side2 => exact HC0.out); (case side3 => repeat (first | exact (Kd.C_below HR1.out HB.out) | (with_reducible refine Kd.C_alloc ?_ _) | (with_reducible refine Kd.C_drewN ?_ _) | (with_reducible refine Kd.C_drew ?_))); (case side4 => exact HC1.out); rintro e w' ⟨rfl, ⟨nd, rfl⟩⟩; refine ⟨_, rfl, ?_⟩))
      go_meet
      case rel => exact ⟨_, (true), (by first | rfl | (simp; done) | (simp [*]; done)), H', ⟨by first | omega | exact Nat.le_refl _⟩, ⟨by repeat (first | (with_reducible first | exact HB.out | apply below_alloc | apply pw_below_drewN | apply below_drew1) | exact HB.out)⟩⟩
  case rest =>
    clear HC5; (try clear c1); (try clear p2); (try clear c6); (try clear c7); (try clear c9); (try clear c10); (try clear c10b0); (try clear c12); (try clear c12b0); (try clear c14); (try clear c14b0); (try clear c17)
    obtain ⟨kq, x40_4, rfl, HA, HJ4, HB⟩ := hcut
    cases kq with
    | zero => exact absurd HA.out (by simp [winnowlaw04_PolicyOrder.j0])
    | succ kj4 =>
      have H := HA.out; clear HA
      simp only [winnowlaw04_PolicyOrder.j0] at H
      by_cases c18 : x40_4 = true
      · subst c18
        rw [if_pos rfl] at H
        replace H := Option.bind_eq_some_iff.mp H
        obtain ⟨t215, A190, H⟩ := H
        replace H : (some t215) = some r := H
        have A19 := Aside0.mk A190; clear A190
        obtain rfl := Option.some.inj H
        go_wp2_with (first | ((with_reducible refine gate_callee (f := 13) rfl ?_); refine goesL_ (some 41) rfl rfl Tryd.func13 (by kernel_rfl) rfl #[] rfl (by (try simp only [List.map_toArray, List.map_cons, List.map_nil]); first | done | rfl | (simp only [List.length_drop, List.length_take]; rfl)) ?_; (with_reducible refine (winnowlaw04_alive.calls  t215 _ A19.out).mono ?_); rintro e w20 ⟨rfl, hb⟩; refine ⟨_, rfl, ?_⟩; have n0_ := Aside0.mk (below_step (by repeat (first | (with_reducible first | exact HB.out | apply below_alloc | apply pw_below_drewN | apply below_drew1) | exact HB.out)) hb); clear HB; have HB := n0_; clear n0_; (try clear hb); (try clear hb2); (try clear hk); (try clear hi)))
        go_ret
        exact ⟨by first | rfl | (simp [errW_none, errW_some] <;> rfl) | (simp [*, errW_none, errW_some] <;> rfl), by repeat (first | (with_reducible first | exact HB.out | apply below_alloc | apply pw_below_drewN | apply below_drew1) | exact HB.out)⟩
      · replace c18 := Bool.eq_false_iff.mpr c18
        subst c18
        rw [if_neg (show ¬ (false = true) by decide)] at H
        replace H := Option.bind_eq_some_iff.mp H
        obtain ⟨t216, A210, H⟩ := H
        (try dsimp only at H)
        have A21 := Aside0.mk A210; clear A210
        obtain ⟨y219, hy219⟩ : ∃ y_ : List (S44), y_ = (([] : List (S44))) := ⟨_, rfl⟩
        replace H : (if y219.length + l1.length < 1759218604441 then ((some (y219 ++ l1 : List (S44))).bind fun y222 => (if 0 ≤ a3 then (if a3 < (l1.length : Int) then (if 0 ≤ a2 then (if a2 < (l1.length : Int) then (if a2 < (y222.length : Int) then (if a3 < (y222.length : Int) then ((some ((y222.set (a2 : Int).toNat (⟨(rd_T44 l1 a3).f0, (rd_T44 l1 a3).f1, (rd_T44 l1 a3).f2, (rd_T44 l1 a3).f3, (rd_T44 l1 a3).f4, (rd_T44 l1 a3).f5, (rd_T44 l1 a3).f6, (rd_T44 l1 a3).f7⟩ : S44)).set (a3 : Int).toNat (⟨(rd_T44 l1 a2).f0, (rd_T44 l1 a2).f1, (rd_T44 l1 a2).f2, (rd_T44 l1 a2).f3, (rd_T44 l1 a2).f4, (rd_T44 l1 a2).f5, (rd_T44 l1 a2).f6, (rd_T44 l1 a2).f7⟩ : S44) : List (S44))).bind fun y228 => ((policy_Eval.f t216 l1).bind fun t229 => ((policy_Eval.f t216 y228).bind fun t230 => (if t229 = t230 then (winnowlaw04_PolicyOrder.l0 kj4 l0 l1 a2 t216 y228 0) else (some false))))) else (none)) else (none)) else (none)) else (none)) else (none)) else (none))) else (none)) = some r := by first | (rw [hy219]; with_reducible exact H) | (have H2_ := (Option.bind_some _ _).symm.trans H; rw [hy219]; with_reducible exact H2_) | (have H2_ := (Option.bind_some _ _).symm.trans H; with_reducible exact H2_) | with_reducible exact H | (rw [hy219]; exact H) | exact H
        have Ny219 := Aside0.mk hy219; clear hy219
        by_cases c22 : y219.length + l1.length < 1759218604441
        · rw [if_pos c22] at H
          have LMc22 := Aside0.mk c22; clear c22
          obtain ⟨y222, hy222⟩ : ∃ y_ : List (S44), y_ = (y219 ++ l1) := ⟨_, rfl⟩
          replace H : (if 0 ≤ a3 then (if a3 < (l1.length : Int) then (if 0 ≤ a2 then (if a2 < (l1.length : Int) then (if a2 < (y222.length : Int) then (if a3 < (y222.length : Int) then ((some ((y222.set (a2 : Int).toNat (⟨(rd_T44 l1 a3).f0, (rd_T44 l1 a3).f1, (rd_T44 l1 a3).f2, (rd_T44 l1 a3).f3, (rd_T44 l1 a3).f4, (rd_T44 l1 a3).f5, (rd_T44 l1 a3).f6, (rd_T44 l1 a3).f7⟩ : S44)).set (a3 : Int).toNat (⟨(rd_T44 l1 a2).f0, (rd_T44 l1 a2).f1, (rd_T44 l1 a2).f2, (rd_T44 l1 a2).f3, (rd_T44 l1 a2).f4, (rd_T44 l1 a2).f5, (rd_T44 l1 a2).f6, (rd_T44 l1 a2).f7⟩ : S44) : List (S44))).bind fun y228 => ((policy_Eval.f t216 l1).bind fun t229 => ((policy_Eval.f t216 y228).bind fun t230 => (if t229 = t230 then (winnowlaw04_PolicyOrder.l0 kj4 l0 l1 a2 t216 y228 0) else (some false))))) else (none)) else (none)) else (none)) else (none)) else (none)) else (none)) = some r := by first | (rw [hy222]; with_reducible exact H) | (have H2_ := (Option.bind_some _ _).symm.trans H; rw [hy222]; with_reducible exact H2_) | (have H2_ := (Option.bind_some _ _).symm.trans H; with_reducible exact H2_) | with_reducible exact H | (rw [hy222]; exact H) | exact H
          have Ny222 := Aside0.mk hy222; clear hy222
          by_cases c23 : 0 ≤ a3
          · rw [if_pos c23] at H
            have c23b0 : decide (0 ≤ a3) = true := decide_eq_true c23; clear c23
            by_cases c24 : a3 < (l1.length : Int)
            · rw [if_pos c24] at H
              have c24b0 : decide (a3 < (l1.length : Int)) = true := decide_eq_true c24; clear c24
              by_cases c25 : 0 ≤ a2
              · rw [if_pos c25] at H
                have c25b0 : decide (0 ≤ a2) = true := decide_eq_true c25; clear c25
                by_cases c26 : a2 < (l1.length : Int)
                · rw [if_pos c26] at H
                  have c26b0 : decide (a2 < (l1.length : Int)) = true := decide_eq_true c26; clear c26
                  by_cases c27 : a2 < (y222.length : Int)
                  · rw [if_pos c27] at H
                    have c27b0 : decide (a2 < (y222.length : Int)) = true := decide_eq_true c27; clear c27
                    obtain ⟨y227, hy227⟩ : ∃ y_ : List (S44), y_ = (y222.set (a2 : Int).toNat (⟨(rd_T44 l1 a3).f0, (rd_T44 l1 a3).f1, (rd_T44 l1 a3).f2, (rd_T44 l1 a3).f3, (rd_T44 l1 a3).f4, (rd_T44 l1 a3).f5, (rd_T44 l1 a3).f6, (rd_T44 l1 a3).f7⟩ : S44)) := ⟨_, rfl⟩
                    replace H : (if a3 < (y222.length : Int) then ((some (y227.set (a3 : Int).toNat (⟨(rd_T44 l1 a2).f0, (rd_T44 l1 a2).f1, (rd_T44 l1 a2).f2, (rd_T44 l1 a2).f3, (rd_T44 l1 a2).f4, (rd_T44 l1 a2).f5, (rd_T44 l1 a2).f6, (rd_T44 l1 a2).f7⟩ : S44) : List (S44))).bind fun y228 => ((policy_Eval.f t216 l1).bind fun t229 => ((policy_Eval.f t216 y228).bind fun t230 => (if t229 = t230 then (winnowlaw04_PolicyOrder.l0 kj4 l0 l1 a2 t216 y228 0) else (some false))))) else (none)) = some r := by first | (rw [hy227]; with_reducible exact H) | (have H2_ := (Option.bind_some _ _).symm.trans H; rw [hy227]; with_reducible exact H2_) | (have H2_ := (Option.bind_some _ _).symm.trans H; with_reducible exact H2_) | with_reducible exact H | (rw [hy227]; exact H) | exact H
                    have Ny227 := Aside0.mk hy227; clear hy227
                    by_cases c29 : a3 < (y222.length : Int)
                    · rw [if_pos c29] at H
                      have c29b0 : decide (a3 < (y222.length : Int)) = true := decide_eq_true c29; clear c29
                      obtain ⟨y228, hy228⟩ : ∃ y_ : List (S44), y_ = (y227.set (a3 : Int).toNat (⟨(rd_T44 l1 a2).f0, (rd_T44 l1 a2).f1, (rd_T44 l1 a2).f2, (rd_T44 l1 a2).f3, (rd_T44 l1 a2).f4, (rd_T44 l1 a2).f5, (rd_T44 l1 a2).f6, (rd_T44 l1 a2).f7⟩ : S44)) := ⟨_, rfl⟩
                      replace H : ((policy_Eval.f t216 l1).bind fun t229 => ((policy_Eval.f t216 y228).bind fun t230 => (if t229 = t230 then (winnowlaw04_PolicyOrder.l0 kj4 l0 l1 a2 t216 y228 0) else (some false)))) = some r := by first | (rw [hy228]; with_reducible exact H) | (have H2_ := (Option.bind_some _ _).symm.trans H; rw [hy228]; with_reducible exact H2_) | (have H2_ := (Option.bind_some _ _).symm.trans H; with_reducible exact H2_) | with_reducible exact H | (rw [hy228]; exact H) | exact H
                      have Ny228 := Aside0.mk hy228; clear hy228
                      replace H := Option.bind_eq_some_iff.mp H
                      obtain ⟨t229, A310, H⟩ := H
                      (try dsimp only at H)
                      have A31 := Aside0.mk A310; clear A310
                      replace H := Option.bind_eq_some_iff.mp H
                      obtain ⟨t230, A320, H⟩ := H
                      (try dsimp only at H)
                      have A32 := Aside0.mk A320; clear A320
                      by_cases c33 : t229 = t230
                      · rw [if_pos c33] at H
                        have c33b0 : (t229 == t230) = true := beq_iff_eq.mpr c33; have c33b1 : (t229 != t230) = false := bne_eq_false_iff_eq.mpr c33; clear c33
                        have H' := Aside0.mk H
                        clear H
                        try go_wp2_with (first | ((with_reducible refine gate_callee (f := 19) rfl ?_); refine goesL_ (some 43) rfl rfl Tryd.func19 (by kernel_rfl) rfl #[.slice A0 l0.length c0] rfl (by (try simp only [List.map_toArray, List.map_cons, List.map_nil]); first | done | rfl | (simp only [List.length_drop, List.length_take]; rfl)) ?_; (with_reducible refine (winnowlaw04_Own.calls kj4 _ _ l0 t216 _ ?side1 ?side2 A21.out).mono ?_); (case side1 => repeat (first | exact (Kd.C_below HR0.out HB.out) | (with_reducible refine Kd.C_alloc ?_ _) | (with_reducible refine Kd.C_drewN ?_ _) | (with_reducible refine Kd.C_drew ?_))); (case side2 => exact HC0.out); rintro e w34 ⟨v217, rfl, ho0, hb⟩; refine ⟨_, rfl, ?_⟩; have n0_ := Aside0.mk (Kd.R_lower ho0 (below_size (by repeat (first | (with_reducible first | exact HB.out | apply below_alloc | apply pw_below_drewN | apply below_drew1) | exact HB.out)))); have n1_ := Aside0.mk (below_step (by repeat (first | (with_reducible first | exact HB.out | apply below_alloc | apply pw_below_drewN | apply below_drew1) | exact HB.out)) hb); clear HB; have HO218 := n0_; have HB := n1_; clear n0_ n1_; (try clear hb); (try clear hb2); (try clear hk); (try clear hi); (try clear ho0)) | ((with_reducible refine gate_dst (N := 44) rfl ?_); (try (refine gate_guard (by rfl) ?_; dsimp only)); refine Kd.R_lit k44 _ 44 ?hg (N := 44) ?hd (xs := ([] : List (S44))) (inner := []) (ok := fun _ => True) (okp := fun _ => True) ?hr ?hp (fun _ hk => hk) trivial (Below.refl _ _) (Nat.le_refl _) (by simp) ?_; (case hd => rfl); (case hg => rfl); (case hr => first | (go_simp; done) | (go_simp; rfl)); (case hp => exact (Reps.none _ _)); intro v220 w35 ho36 hb hg_ hnew_; clear hg_ hnew_; (first | rw [← Ny219.out] at ho36 | (simp only [Int.reduceToNat] at ho36; rw [← Ny219.out] at ho36)); have n0_ := Aside0.mk (Kd.R_below (by (with_reducible repeat (first | apply Kd.R_alloc | apply Kd.R_drewN | apply Kd.R_drew)); exact HO218.out) hb); have n1_ := Aside0.mk (Kd.R_lower ho36 (below_size (by repeat (first | (with_reducible first | exact HB.out | apply below_alloc | apply pw_below_drewN | apply below_drew1) | exact HB.out)))); have n2_ := Aside0.mk (below_step (by repeat (first | (with_reducible first | exact HB.out | apply below_alloc | apply pw_below_drewN | apply below_drew1) | exact HB.out)) hb); clear HO218; clear HB; have HO218 := n0_; have HO221 := n1_; have HB := n2_; clear n0_ n1_ n2_; clear hb ho36) | ((with_reducible refine gate_builtin (b := .append) (xs := #[.tmp 44, .tmp 45]) rfl ?_); (try (refine gate_guard (by rfl) ?_; dsimp only)); at_builtin; refine Kd.R_append_rows k44 (w0 := w) w.heap.size rfl (.tmp 44) (.tmp 45) 30 44 (.agg #[(.int .u64 0), (.int .u64 0), (.int .u64 0), (.int .u64 0), (.int .u64 0), (.string ⟨#[]⟩), (.string ⟨#[]⟩), (.bool false)]) 80 rfl Tryd.underlying30 info44 rfl (by decide) (by omega) v220 y219 l1 _ _ _ (fun _ => True) (fun _ => False) rfl rfl ?aO ?aR (fun _ _ h => h) (fun _ h => h.elim) ?aF ?aB ?aS ?aL ?_; (case aR => repeat (first | exact (Kd.C_below HR1.out HB.out) | (with_reducible refine Kd.C_alloc ?_ _) | (with_reducible refine Kd.C_drewN ?_ _) | (with_reducible refine Kd.C_drew ?_))); (case aB => exact (by repeat (first | (with_reducible first | exact HB.out | apply below_alloc | apply pw_below_drewN | apply below_drew1) | exact HB.out))); (case aF => exact (fun _ _ => trivial)); (case aO => exact (by (with_reducible repeat (first | apply Kd.R_alloc | apply Kd.R_drewN | apply Kd.R_drew)); exact HO221.out)); (case aS => exact (below_size (by repeat (first | (with_reducible first | exact HB.out | apply below_alloc | apply pw_below_drewN | apply below_drew1) | exact HB.out)))); (case aL => have := LMc22.out; omega); intro v223 w37 ho hb hg hat; rw [← Ny222.out] at ho; have n0_ := Aside0.mk (Kd.R_over' (by (with_reducible repeat (first | apply Kd.R_alloc | apply Kd.R_drewN | apply Kd.R_drew)); exact HO218.out) (Kd.R_typed (by (with_reducible repeat (first | apply Kd.R_alloc | apply Kd.R_drewN | apply Kd.R_drew)); exact HO221.out)) (by decide) hg); have n1_ := Aside0.mk (hb); have n2_ := Aside0.mk (ho); clear HO218; clear HB; clear HO221; have HO218 := n0_; have HB := n1_; have HO224 := n2_; clear n0_ n1_ n2_; clear ho hb hg hat))
                        have n0_ := Aside0.mk (Kd.R_drew HO218.out); have n1_ := Aside0.mk (Kd.R_drew HO224.out); have n2_ := Aside0.mk (below_drew1 HB.out); clear HO218; clear HO224; clear HB; have HO218 := n0_; have HO224 := n1_; have HB := n2_; clear n0_ n1_ n2_; have p225 : 0 ≤ (a3 : Int) := of_decide_eq_true (by first | (with_reducible assumption) | assumption); have q225 : a3 < (l1.length : Int) := of_decide_eq_true (by first | (with_reducible assumption) | assumption)
                        obtain ⟨ad225, e225, hx225_0, hx225_1, hx225_2, hx225_3, hx225_4, hx225_5, hx225_6, hx225_7⟩ := at_T44 HR1.out a3 p225 q225
                        have hw225_7 := hx225_7; have hw225_6 := hx225_6; have hw225_5 := hx225_5; have hw225_4 := hx225_4; have hw225_3 := hx225_3; have hw225_2 := hx225_2; have hw225_1 := hx225_1; have hw225_0 := hx225_0
                        cases e225
                        replace hx225_0 := (HB.out.cell (World.block_lt_of_cell? w _ hx225_0)).trans hx225_0
                        replace hx225_1 := (HB.out.cell (World.block_lt_of_cell? w _ hx225_1)).trans hx225_1
                        replace hx225_2 := (HB.out.cell (World.block_lt_of_cell? w _ hx225_2)).trans hx225_2
                        replace hx225_3 := (HB.out.cell (World.block_lt_of_cell? w _ hx225_3)).trans hx225_3
                        replace hx225_4 := (HB.out.cell (World.block_lt_of_cell? w _ hx225_4)).trans hx225_4
                        replace hx225_5 := (HB.out.cell (World.block_lt_of_cell? w _ hx225_5)).trans hx225_5
                        replace hx225_6 := (HB.out.cell (World.block_lt_of_cell? w _ hx225_6)).trans hx225_6
                        replace hx225_7 := (HB.out.cell (World.block_lt_of_cell? w _ hx225_7)).trans hx225_7
                        replace p225 := eq_true p225
                        replace q225 := eq_true q225
                        have p226 : 0 ≤ (a2 : Int) := of_decide_eq_true (by first | (with_reducible assumption) | assumption); have q226 : a2 < (l1.length : Int) := of_decide_eq_true (by first | (with_reducible assumption) | assumption)
                        obtain ⟨ad226, e226, hx226_0, hx226_1, hx226_2, hx226_3, hx226_4, hx226_5, hx226_6, hx226_7⟩ := at_T44 HR1.out a2 p226 q226
                        have hw226_7 := hx226_7; have hw226_6 := hx226_6; have hw226_5 := hx226_5; have hw226_4 := hx226_4; have hw226_3 := hx226_3; have hw226_2 := hx226_2; have hw226_1 := hx226_1; have hw226_0 := hx226_0
                        obtain rfl : ad225 = ad226 := (by injection e226)
                        replace hx226_0 := (HB.out.cell (World.block_lt_of_cell? w _ hx226_0)).trans hx226_0
                        replace hx226_1 := (HB.out.cell (World.block_lt_of_cell? w _ hx226_1)).trans hx226_1
                        replace hx226_2 := (HB.out.cell (World.block_lt_of_cell? w _ hx226_2)).trans hx226_2
                        replace hx226_3 := (HB.out.cell (World.block_lt_of_cell? w _ hx226_3)).trans hx226_3
                        replace hx226_4 := (HB.out.cell (World.block_lt_of_cell? w _ hx226_4)).trans hx226_4
                        replace hx226_5 := (HB.out.cell (World.block_lt_of_cell? w _ hx226_5)).trans hx226_5
                        replace hx226_6 := (HB.out.cell (World.block_lt_of_cell? w _ hx226_6)).trans hx226_6
                        replace hx226_7 := (HB.out.cell (World.block_lt_of_cell? w _ hx226_7)).trans hx226_7
                        replace p226 := eq_true p226
                        replace q226 := eq_true q226
                        have p28 : 0 ≤ (a2 : Int) := of_decide_eq_true (by first | (with_reducible assumption) | assumption); have q28 : (a2 : Int) < ((y222.length : Int) : Int) := of_decide_eq_true (by first | (with_reducible assumption) | assumption)
                        obtain ⟨go28, co28, eo28, gb28, gl28, cl28, HG28⟩ := Kd.R_form HO224.out (by omega)
                        (first | cases eo28 | (injection eo28 with ea_ en_ ec_; (first | subst ea_ | (injection ea_ with ea_; subst ea_)); subst ec_; clear en_))
                        have GB28 := Aside0.mk gb28; have GG28 := Aside0.mk HG28; clear gb28 gl28 HG28
                        obtain ⟨ce28, hcl28, hM28, hcc28, hfr28⟩ := Kd.R_elem HO224.out z44 (a2 : Int) p28 q28
                        obtain rfl := k44_openM hM28
                        have hx28_0 : World.cell? _ ⟨go28, (a2 : Int).toNat * 8, none⟩ = some (.int .u64 ((rd_T44 y222 a2).f0)) := hcc28 0 _ rfl; have hx28_1 : World.cell? _ ⟨go28, (a2 : Int).toNat * 8 + 1, none⟩ = some (.int .u64 ((rd_T44 y222 a2).f1)) := hcc28 1 _ rfl; have hx28_2 : World.cell? _ ⟨go28, (a2 : Int).toNat * 8 + 2, none⟩ = some (.int .u64 ((rd_T44 y222 a2).f2)) := hcc28 2 _ rfl; have hx28_3 : World.cell? _ ⟨go28, (a2 : Int).toNat * 8 + 3, none⟩ = some (.int .u64 ((rd_T44 y222 a2).f3)) := hcc28 3 _ rfl; have hx28_4 : World.cell? _ ⟨go28, (a2 : Int).toNat * 8 + 4, none⟩ = some (.int .u64 ((rd_T44 y222 a2).f4)) := hcc28 4 _ rfl; have hx28_5 : World.cell? _ ⟨go28, (a2 : Int).toNat * 8 + 5, none⟩ = some (.string ((rd_T44 y222 a2).f5)) := hcc28 5 _ rfl; have hx28_6 : World.cell? _ ⟨go28, (a2 : Int).toNat * 8 + 6, none⟩ = some (.string ((rd_T44 y222 a2).f6)) := hcc28 6 _ rfl; have hx28_7 : World.cell? _ ⟨go28, (a2 : Int).toNat * 8 + 7, none⟩ = some (.bool ((rd_T44 y222 a2).f7)) := hcc28 7 _ rfl; have hf28_0 : World.frozen? _ ⟨go28, (a2 : Int).toNat * 8, none⟩ = false := hfr28 0; have hf28_1 : World.frozen? _ ⟨go28, (a2 : Int).toNat * 8 + 1, none⟩ = false := hfr28 1; have hf28_2 : World.frozen? _ ⟨go28, (a2 : Int).toNat * 8 + 2, none⟩ = false := hfr28 2; have hf28_3 : World.frozen? _ ⟨go28, (a2 : Int).toNat * 8 + 3, none⟩ = false := hfr28 3; have hf28_4 : World.frozen? _ ⟨go28, (a2 : Int).toNat * 8 + 4, none⟩ = false := hfr28 4; have hf28_5 : World.frozen? _ ⟨go28, (a2 : Int).toNat * 8 + 5, none⟩ = false := hfr28 5; have hf28_6 : World.frozen? _ ⟨go28, (a2 : Int).toNat * 8 + 6, none⟩ = false := hfr28 6; have hf28_7 : World.frozen? _ ⟨go28, (a2 : Int).toNat * 8 + 7, none⟩ = false := hfr28 7; clear hcl28 hcc28 hfr28 hM28
                        replace p28 := eq_true p28
                        replace q28 := eq_true q28
                        obtain ⟨ce39, hcl39, hM39, hcc39, hfr39⟩ := Kd.R_elem HO224.out z44 (a2 : Int) (of_decide_eq_true (by first | (with_reducible assumption) | assumption)) (by have h_ : (a2 : Int) < ((y222.length : Int) : Int) := of_decide_eq_true (by first | (with_reducible assumption) | assumption); first | exact h_ | (have e_ := (Kd.R_reads' HO224.out).1; omega) | simpa using h_)
                        obtain rfl := k44_openM hM39
                        have HP39 := (Kd.R_seg HO224.out (a2 : Int) (of_decide_eq_true (by first | (with_reducible assumption) | assumption)) (by have h_ : (a2 : Int) < ((y222.length : Int) : Int) := of_decide_eq_true (by first | (with_reducible assumption) | assumption); first | exact h_ | (have e_ := (Kd.R_reads' HO224.out).1; omega) | simpa using h_) (seg := [.int .u64 ((rd_T44 l1 a3).f0), .int .u64 ((rd_T44 l1 a3).f1), .int .u64 ((rd_T44 l1 a3).f2), .int .u64 ((rd_T44 l1 a3).f3), .int .u64 ((rd_T44 l1 a3).f4), .string ((rd_T44 l1 a3).f5), .string ((rd_T44 l1 a3).f6), .bool ((rd_T44 l1 a3).f7)]) (j := 0) hcl39 hcc39 (show 8 ≤ 8 from by decide) (x' := (⟨(rd_T44 l1 a3).f0, (rd_T44 l1 a3).f1, (rd_T44 l1 a3).f2, (rd_T44 l1 a3).f3, (rd_T44 l1 a3).f4, (rd_T44 l1 a3).f5, (rd_T44 l1 a3).f6, (rd_T44 l1 a3).f7⟩ : S44)) (k44_mkM _ _ _ (⟨(rd_T44 l1 a3).f0, (rd_T44 l1 a3).f1, (rd_T44 l1 a3).f2, (rd_T44 l1 a3).f3, (rd_T44 l1 a3).f4, (rd_T44 l1 a3).f5, (rd_T44 l1 a3).f6, (rd_T44 l1 a3).f7⟩ : S44) ) (fun _ hk => hk)).1
                        rw [← Ny227.out] at HP39
                        have HQ39 := Aside0.mk HP39; clear hcl39 hcc39 hfr39 hM39 HP39; have p30 : 0 ≤ (a3 : Int) := of_decide_eq_true (by first | (with_reducible assumption) | assumption); have q30 : (a3 : Int) < ((y222.length : Int) : Int) := of_decide_eq_true (by first | (with_reducible assumption) | assumption)
                        obtain ⟨ce30, hcl30, hM30, hcc30, hfr30⟩ := Kd.R_elem HQ39.out z44 (a3 : Int) p30 q30
                        obtain rfl := k44_openM hM30
                        have hx30_0 : World.cell? _ ⟨go28, (a3 : Int).toNat * 8, none⟩ = some (.int .u64 ((rd_T44 y227 a3).f0)) := hcc30 0 _ rfl; have hx30_1 : World.cell? _ ⟨go28, (a3 : Int).toNat * 8 + 1, none⟩ = some (.int .u64 ((rd_T44 y227 a3).f1)) := hcc30 1 _ rfl; have hx30_2 : World.cell? _ ⟨go28, (a3 : Int).toNat * 8 + 2, none⟩ = some (.int .u64 ((rd_T44 y227 a3).f2)) := hcc30 2 _ rfl; have hx30_3 : World.cell? _ ⟨go28, (a3 : Int).toNat * 8 + 3, none⟩ = some (.int .u64 ((rd_T44 y227 a3).f3)) := hcc30 3 _ rfl; have hx30_4 : World.cell? _ ⟨go28, (a3 : Int).toNat * 8 + 4, none⟩ = some (.int .u64 ((rd_T44 y227 a3).f4)) := hcc30 4 _ rfl; have hx30_5 : World.cell? _ ⟨go28, (a3 : Int).toNat * 8 + 5, none⟩ = some (.string ((rd_T44 y227 a3).f5)) := hcc30 5 _ rfl; have hx30_6 : World.cell? _ ⟨go28, (a3 : Int).toNat * 8 + 6, none⟩ = some (.string ((rd_T44 y227 a3).f6)) := hcc30 6 _ rfl; have hx30_7 : World.cell? _ ⟨go28, (a3 : Int).toNat * 8 + 7, none⟩ = some (.bool ((rd_T44 y227 a3).f7)) := hcc30 7 _ rfl; have hf30_0 : World.frozen? _ ⟨go28, (a3 : Int).toNat * 8, none⟩ = false := hfr30 0; have hf30_1 : World.frozen? _ ⟨go28, (a3 : Int).toNat * 8 + 1, none⟩ = false := hfr30 1; have hf30_2 : World.frozen? _ ⟨go28, (a3 : Int).toNat * 8 + 2, none⟩ = false := hfr30 2; have hf30_3 : World.frozen? _ ⟨go28, (a3 : Int).toNat * 8 + 3, none⟩ = false := hfr30 3; have hf30_4 : World.frozen? _ ⟨go28, (a3 : Int).toNat * 8 + 4, none⟩ = false := hfr30 4; have hf30_5 : World.frozen? _ ⟨go28, (a3 : Int).toNat * 8 + 5, none⟩ = false := hfr30 5; have hf30_6 : World.frozen? _ ⟨go28, (a3 : Int).toNat * 8 + 6, none⟩ = false := hfr30 6; have hf30_7 : World.frozen? _ ⟨go28, (a3 : Int).toNat * 8 + 7, none⟩ = false := hfr30 7; clear hcl30 hcc30 hfr30 hM30
                        replace p30 := eq_true p30
                        replace q30 := eq_true q30
                        obtain ⟨ce40, hcl40, hM40, hcc40, hfr40⟩ := Kd.R_elem HQ39.out z44 (a3 : Int) (of_decide_eq_true (by first | (with_reducible assumption) | assumption)) (by have h_ : (a3 : Int) < ((y222.length : Int) : Int) := of_decide_eq_true (by first | (with_reducible assumption) | assumption); first | exact h_ | (have e_ := (Kd.R_reads' HO224.out).1; omega) | simpa using h_)
                        obtain rfl := k44_openM hM40
                        have HP40 := (Kd.R_seg HQ39.out (a3 : Int) (of_decide_eq_true (by first | (with_reducible assumption) | assumption)) (by have h_ : (a3 : Int) < ((y222.length : Int) : Int) := of_decide_eq_true (by first | (with_reducible assumption) | assumption); first | exact h_ | (have e_ := (Kd.R_reads' HO224.out).1; omega) | simpa using h_) (seg := [.int .u64 ((rd_T44 l1 a2).f0), .int .u64 ((rd_T44 l1 a2).f1), .int .u64 ((rd_T44 l1 a2).f2), .int .u64 ((rd_T44 l1 a2).f3), .int .u64 ((rd_T44 l1 a2).f4), .string ((rd_T44 l1 a2).f5), .string ((rd_T44 l1 a2).f6), .bool ((rd_T44 l1 a2).f7)]) (j := 0) hcl40 hcc40 (show 8 ≤ 8 from by decide) (x' := (⟨(rd_T44 l1 a2).f0, (rd_T44 l1 a2).f1, (rd_T44 l1 a2).f2, (rd_T44 l1 a2).f3, (rd_T44 l1 a2).f4, (rd_T44 l1 a2).f5, (rd_T44 l1 a2).f6, (rd_T44 l1 a2).f7⟩ : S44)) (k44_mkM _ _ _ (⟨(rd_T44 l1 a2).f0, (rd_T44 l1 a2).f1, (rd_T44 l1 a2).f2, (rd_T44 l1 a2).f3, (rd_T44 l1 a2).f4, (rd_T44 l1 a2).f5, (rd_T44 l1 a2).f6, (rd_T44 l1 a2).f7⟩ : S44) ) (fun _ hk => hk)).1
                        rw [← Ny228.out] at HP40
                        have HQ40 := Aside0.mk HP40; clear hcl40 hcc40 hfr40 hM40 HP40
                        refine start_ (n := 16) (S := fun w' => w'.cell? (ad225.add ((a3).toNat * 8)) = some (.int .u64 ((rd_T44 l1 a3).f0)) ∧ w'.cell? ⟨(ad225.add ((a3).toNat * 8)).block, (ad225.add ((a3).toNat * 8)).off + 1, none⟩ = some (.int .u64 ((rd_T44 l1 a3).f1)) ∧ w'.cell? ⟨(ad225.add ((a3).toNat * 8)).block, (ad225.add ((a3).toNat * 8)).off + 2, none⟩ = some (.int .u64 ((rd_T44 l1 a3).f2)) ∧ w'.cell? ⟨(ad225.add ((a3).toNat * 8)).block, (ad225.add ((a3).toNat * 8)).off + 3, none⟩ = some (.int .u64 ((rd_T44 l1 a3).f3)) ∧ w'.cell? ⟨(ad225.add ((a3).toNat * 8)).block, (ad225.add ((a3).toNat * 8)).off + 4, none⟩ = some (.int .u64 ((rd_T44 l1 a3).f4)) ∧ w'.cell? ⟨(ad225.add ((a3).toNat * 8)).block, (ad225.add ((a3).toNat * 8)).off + 5, none⟩ = some (.string ((rd_T44 l1 a3).f5)) ∧ w'.cell? ⟨(ad225.add ((a3).toNat * 8)).block, (ad225.add ((a3).toNat * 8)).off + 6, none⟩ = some (.string ((rd_T44 l1 a3).f6)) ∧ w'.cell? ⟨(ad225.add ((a3).toNat * 8)).block, (ad225.add ((a3).toNat * 8)).off + 7, none⟩ = some (.bool ((rd_T44 l1 a3).f7)) ∧ w'.cell? (ad225.add ((a2).toNat * 8)) = some (.int .u64 ((rd_T44 l1 a2).f0)) ∧ w'.cell? ⟨(ad225.add ((a2).toNat * 8)).block, (ad225.add ((a2).toNat * 8)).off + 1, none⟩ = some (.int .u64 ((rd_T44 l1 a2).f1)) ∧ w'.cell? ⟨(ad225.add ((a2).toNat * 8)).block, (ad225.add ((a2).toNat * 8)).off + 2, none⟩ = some (.int .u64 ((rd_T44 l1 a2).f2)) ∧ w'.cell? ⟨(ad225.add ((a2).toNat * 8)).block, (ad225.add ((a2).toNat * 8)).off + 3, none⟩ = some (.int .u64 ((rd_T44 l1 a2).f3)) ∧ w'.cell? ⟨(ad225.add ((a2).toNat * 8)).block, (ad225.add ((a2).toNat * 8)).off + 4, none⟩ = some (.int .u64 ((rd_T44 l1 a2).f4)) ∧ w'.cell? ⟨(ad225.add ((a2).toNat * 8)).block, (ad225.add ((a2).toNat * 8)).off + 5, none⟩ = some (.string ((rd_T44 l1 a2).f5)) ∧ w'.cell? ⟨(ad225.add ((a2).toNat * 8)).block, (ad225.add ((a2).toNat * 8)).off + 6, none⟩ = some (.string ((rd_T44 l1 a2).f6)) ∧ w'.cell? ⟨(ad225.add ((a2).toNat * 8)).block, (ad225.add ((a2).toNat * 8)).off + 7, none⟩ = some (.bool ((rd_T44 l1 a2).f7))) (ds := [13, 15]) #[false, false, false, false, false, false, false, false, false, false, false, false, false, false, false, false] (by kernel_rfl) rfl rfl ⟨((HB.out.cell (World.block_lt_of_cell? w _ hw225_0)).trans hw225_0), ((HB.out.cell (World.block_lt_of_cell? w _ hw225_1)).trans hw225_1), ((HB.out.cell (World.block_lt_of_cell? w _ hw225_2)).trans hw225_2), ((HB.out.cell (World.block_lt_of_cell? w _ hw225_3)).trans hw225_3), ((HB.out.cell (World.block_lt_of_cell? w _ hw225_4)).trans hw225_4), ((HB.out.cell (World.block_lt_of_cell? w _ hw225_5)).trans hw225_5), ((HB.out.cell (World.block_lt_of_cell? w _ hw225_6)).trans hw225_6), ((HB.out.cell (World.block_lt_of_cell? w _ hw225_7)).trans hw225_7), ((HB.out.cell (World.block_lt_of_cell? w _ hw226_0)).trans hw226_0), ((HB.out.cell (World.block_lt_of_cell? w _ hw226_1)).trans hw226_1), ((HB.out.cell (World.block_lt_of_cell? w _ hw226_2)).trans hw226_2), ((HB.out.cell (World.block_lt_of_cell? w _ hw226_3)).trans hw226_3), ((HB.out.cell (World.block_lt_of_cell? w _ hw226_4)).trans hw226_4), ((HB.out.cell (World.block_lt_of_cell? w _ hw226_5)).trans hw226_5), ((HB.out.cell (World.block_lt_of_cell? w _ hw226_6)).trans hw226_6), ((HB.out.cell (World.block_lt_of_cell? w _ hw226_7)).trans hw226_7)⟩ (fun hHeld => ?_); refine with_tabW winnowlaw04_PolicyOrder.tab5 winnowlaw04_PolicyOrder.bits5 (fun HT_ HW_ => ?_)
                        generalize w37.drew = w38 at HO218 HO224 HB GG28 HQ39 HQ40 hf28_0 hf28_1 hf28_2 hf28_3 hf28_4 hf28_5 hf28_6 hf28_7 hf30_0 hf30_1 hf30_2 hf30_3 hf30_4 hf30_5 hf30_6 hf30_7 hx225_0 hx225_1 hx225_2 hx225_3 hx225_4 hx225_5 hx225_6 hx225_7 hx226_0 hx226_1 hx226_2 hx226_3 hx226_4 hx226_5 hx226_6 hx226_7 hx28_0 hx28_1 hx28_2 hx28_3 hx28_4 hx28_5 hx28_6 hx28_7 hx30_0 hx30_1 hx30_2 hx30_3 hx30_4 hx30_5 hx30_6 hx30_7 hHeld ⊢
                        refine pure_ (i := 0) (N := some 47) (v := ?_) (a' := ?_) #[true, false, false, false, false, false, false, false, false, false, false, false, false, false, false, false] rfl rfl (any_of HT_.out (by kernel_rfl)) (fun _ _ _ h => h) (Or.inl ⟨by rfl, ?_⟩) ?_ ?_
                        rotate_left
                        · intro w'; go_simp; with_reducible rfl
                        rotate_left
                        · simp only [Act.put, List.setIfInBounds_toArray, List.set_cons_zero, List.set_cons_succ, i64_w, i32_w]; rfl
                        refine pure_ (i := 1) (N := some 48) (v := ?_) (a' := ?_) #[true, true, false, false, false, false, false, false, false, false, false, false, false, false, false, false] rfl rfl (any_of HT_.out (by kernel_rfl)) (fun _ _ _ h => h) (Or.inl ⟨by rfl, ?_⟩) ?_ ?_
                        rotate_left
                        · intro w'; go_simp; with_reducible rfl
                        rotate_left
                        · simp only [Act.put, List.setIfInBounds_toArray, List.set_cons_zero, List.set_cons_succ, i64_w, i32_w]; rfl
                        refine pure_ (i := 2) (N := some 49) (v := ?_) (a' := ?_) #[true, true, true, false, false, false, false, false, false, false, false, false, false, false, false, false] rfl rfl (any_of HT_.out (by kernel_rfl)) (fun _ _ _ h => h) (Or.inl ⟨by rfl, ?_⟩) ?_ ?_
                        rotate_left
                        · intro w'; go_simp; with_reducible rfl
                        rotate_left
                        · simp only [Act.put, List.setIfInBounds_toArray, List.set_cons_zero, List.set_cons_succ, i64_w, i32_w]; rfl
                        refine pure_ (i := 3) (N := some 50) (v := ?_) (a' := ?_) #[true, true, true, true, false, false, false, false, false, false, false, false, false, false, false, false] rfl rfl (any_of HT_.out (by kernel_rfl)) (fun _ _ _ h => h) (Or.inl ⟨by rfl, ?_⟩) ?_ ?_
                        rotate_left
                        · intro w'; go_simp; with_reducible rfl
                        rotate_left
                        · simp only [Act.put, List.setIfInBounds_toArray, List.set_cons_zero, List.set_cons_succ, i64_w, i32_w]; rfl
                        refine pure_ (i := 4) (N := some 51) (v := ?_) (a' := ?_) #[true, true, true, true, true, false, false, false, false, false, false, false, false, false, false, false] rfl rfl (any_of HT_.out (by kernel_rfl)) (fun _ _ _ h => h) (Or.inl ⟨by rfl, ?_⟩) ?_ ?_
                        rotate_left
                        · intro w'; go_simp; with_reducible rfl
                        rotate_left
                        · simp only [Act.put, List.setIfInBounds_toArray, List.set_cons_zero, List.set_cons_succ, i64_w, i32_w]; rfl
                        refine pure_ (i := 5) (N := some 52) (v := ?_) (a' := ?_) #[true, true, true, true, true, true, false, false, false, false, false, false, false, false, false, false] rfl rfl (any_of HT_.out (by kernel_rfl)) (fun _ _ _ h => h) (Or.inl ⟨by rfl, ?_⟩) ?_ ?_
                        rotate_left
                        · intro w'; go_simp; with_reducible rfl
                        rotate_left
                        · simp only [Act.put, List.setIfInBounds_toArray, List.set_cons_zero, List.set_cons_succ, i64_w, i32_w]; rfl
                        refine pure_ (i := 6) (N := some 53) (v := ?_) (a' := ?_) #[true, true, true, true, true, true, true, false, false, false, false, false, false, false, false, false] rfl rfl (any_of HT_.out (by kernel_rfl)) (fun _ _ _ h => h) (Or.inl ⟨by rfl, ?_⟩) ?_ ?_
                        rotate_left
                        · intro w'; go_simp; with_reducible rfl
                        rotate_left
                        · simp only [Act.put, List.setIfInBounds_toArray, List.set_cons_zero, List.set_cons_succ, i64_w, i32_w]; rfl
                        refine pure_ (i := 8) (N := some 55) (v := ?_) (a' := ?_) #[true, true, true, true, true, true, true, false, true, false, false, false, false, false, false, false] rfl rfl (any_of HT_.out (by kernel_rfl)) (fun _ _ _ h => h) (Or.inl ⟨by rfl, ?_⟩) ?_ ?_
                        rotate_left
                        · intro w'; go_simp; with_reducible rfl
                        rotate_left
                        · simp only [Act.put, List.setIfInBounds_toArray, List.set_cons_zero, List.set_cons_succ, i64_w, i32_w]; rfl
                        refine pure_ (i := 9) (N := some 56) (v := ?_) (a' := ?_) #[true, true, true, true, true, true, true, false, true, true, false, false, false, false, false, false] rfl rfl (any_of HT_.out (by kernel_rfl)) (fun _ _ _ h => h) (Or.inl ⟨by rfl, ?_⟩) ?_ ?_
                        rotate_left
                        · intro w'; go_simp; with_reducible rfl
                        rotate_left
                        · simp only [Act.put, List.setIfInBounds_toArray, List.set_cons_zero, List.set_cons_succ, i64_w, i32_w]; rfl
                        refine pure_ (i := 10) (N := some 57) (v := ?_) (a' := ?_) #[true, true, true, true, true, true, true, false, true, true, true, false, false, false, false, false] rfl rfl (any_of HT_.out (by kernel_rfl)) (fun _ _ _ h => h) (Or.inl ⟨by rfl, ?_⟩) ?_ ?_
                        rotate_left
                        · intro w'; go_simp; with_reducible rfl
                        rotate_left
                        · simp only [Act.put, List.setIfInBounds_toArray, List.set_cons_zero, List.set_cons_succ, i64_w, i32_w]; rfl
                        refine take_ (i := 7) (N := some 54) (v := ?_) (a' := ?_) #[true, true, true, true, true, true, true, true, true, true, true, false, false, false, false, false] rfl rfl (take_ofW HT_.out HW_.out (by kernel_rfl)) (fun _ _ _ h => h) (Or.inl ⟨by rfl, ?_⟩) hHeld ?_ ?_
                        rotate_left
                        · rintro w' ⟨s0, s1, s2, s3, s4, s5, s6, s7, s8, s9, s10, s11, s12, s13, s14, s15⟩; go_simp; with_reducible rfl
                        rotate_left
                        · simp only [Act.put, List.setIfInBounds_toArray, List.set_cons_zero, List.set_cons_succ, i64_w, i32_w]; rfl
                        refine take_ (i := 11) (N := some 58) (v := ?_) (a' := ?_) #[true, true, true, true, true, true, true, true, true, true, true, true, false, false, false, false] rfl rfl (take_ofW HT_.out HW_.out (by kernel_rfl)) (fun _ _ _ h => h) (Or.inl ⟨by rfl, ?_⟩) hHeld ?_ ?_
                        rotate_left
                        · rintro w' ⟨s0, s1, s2, s3, s4, s5, s6, s7, s8, s9, s10, s11, s12, s13, s14, s15⟩; go_simp; with_reducible rfl
                        rotate_left
                        · simp only [Act.put, List.setIfInBounds_toArray, List.set_cons_zero, List.set_cons_succ, i64_w, i32_w]; rfl
                        refine pure_ (i := 12) (N := some 59) (v := ?_) (a' := ?_) #[true, true, true, true, true, true, true, true, true, true, true, true, true, false, false, false] rfl rfl (any_of HT_.out (by kernel_rfl)) (fun _ _ _ h => h) (Or.inl ⟨by rfl, ?_⟩) ?_ ?_
                        rotate_left
                        · intro w'; go_simp; with_reducible rfl
                        rotate_left
                        · simp only [Act.put, List.setIfInBounds_toArray, List.set_cons_zero, List.set_cons_succ, i64_w, i32_w]; rfl
                        refine last_ (i := 13) (N := none) #[true, true, true, true, true, true, true, true, true, true, true, true, true, true, false, false] rfl rfl (one_of HT_.out (by kernel_rfl)) (by decide) (fun K hK => ?_)
                        refine skip_ (w1 := (w38.setCells go28 ((a2 : Int).toNat * k44.sz + 0) [.int .u64 ((rd_T44 l1 a3).f0), .int .u64 ((rd_T44 l1 a3).f1), .int .u64 ((rd_T44 l1 a3).f2), .int .u64 ((rd_T44 l1 a3).f3), .int .u64 ((rd_T44 l1 a3).f4), .string ((rd_T44 l1 a3).f5), .string ((rd_T44 l1 a3).f6), .bool ((rd_T44 l1 a3).f7)])) (by rfl) rfl ?_ ?_
                        · go_simp; rfl
                        refine hK.out _ _ ?_
                        clear hK K; have nB_ := Aside0.mk (Hand.below_setCells GB28.out [.int .u64 ((rd_T44 l1 a3).f0), .int .u64 ((rd_T44 l1 a3).f1), .int .u64 ((rd_T44 l1 a3).f2), .int .u64 ((rd_T44 l1 a3).f3), .int .u64 ((rd_T44 l1 a3).f4), .string ((rd_T44 l1 a3).f5), .string ((rd_T44 l1 a3).f6), .bool ((rd_T44 l1 a3).f7)] ((a2 : Int).toNat * k44.sz + 0) HB.out)
                        have nR_ := Aside0.mk (R_far_cells (fun _ hk => hk.2) [.int .u64 ((rd_T44 l1 a3).f0), .int .u64 ((rd_T44 l1 a3).f1), .int .u64 ((rd_T44 l1 a3).f2), .int .u64 ((rd_T44 l1 a3).f3), .int .u64 ((rd_T44 l1 a3).f4), .string ((rd_T44 l1 a3).f5), .string ((rd_T44 l1 a3).f6), .bool ((rd_T44 l1 a3).f7)] ((a2 : Int).toNat * k44.sz + 0) (Kd.R_types HO218.out GG28.out (by decide)))
                        clear HB HO218 HO224 GG28; clear hHeld; clear hx28_0 hx28_1 hx28_2 hx28_3 hx28_4 hx28_5 hx28_6 hx28_7; clear hf28_0 hf28_1 hf28_2 hf28_3 hf28_4 hf28_5 hf28_6 hf28_7; clear hx30_0 hx30_1 hx30_2 hx30_3 hx30_4 hx30_5 hx30_6 hx30_7; clear hf30_0 hf30_1 hf30_2 hf30_3 hf30_4 hf30_5 hf30_6 hf30_7; clear hx225_0 hx225_1 hx225_2 hx225_3 hx225_4 hx225_5 hx225_6 hx225_7; clear hx226_0 hx226_1 hx226_2 hx226_3 hx226_4 hx226_5 hx226_6 hx226_7; have HB := nB_; have HO218 := nR_; clear nB_ nR_
                        generalize (w38.setCells go28 ((a2 : Int).toNat * k44.sz + 0) [.int .u64 ((rd_T44 l1 a3).f0), .int .u64 ((rd_T44 l1 a3).f1), .int .u64 ((rd_T44 l1 a3).f2), .int .u64 ((rd_T44 l1 a3).f3), .int .u64 ((rd_T44 l1 a3).f4), .string ((rd_T44 l1 a3).f5), .string ((rd_T44 l1 a3).f6), .bool ((rd_T44 l1 a3).f7)]) = wm at HB HO218 HQ39 HQ40 ⊢
                        refine pure_ (i := 14) (N := some 60) (v := ?_) (a' := ?_) #[true, true, true, true, true, true, true, true, true, true, true, true, true, true, true, false] rfl rfl (any_of HT_.out (by kernel_rfl)) (fun _ _ _ h => h) (Or.inl ⟨by rfl, ?_⟩) ?_ ?_
                        rotate_left
                        · intro w'; go_simp; with_reducible rfl
                        rotate_left
                        · simp only [Act.put, List.setIfInBounds_toArray, List.set_cons_zero, List.set_cons_succ, i64_w, i32_w]; rfl
                        obtain ⟨ce41, hcl41, hM41, hcc41, hfr41⟩ := Kd.R_elem HQ39.out z44 (a3 : Int) (of_decide_eq_true (by first | (with_reducible assumption) | assumption)) (by have h_ : (a3 : Int) < ((y222.length : Int) : Int) := of_decide_eq_true (by first | (with_reducible assumption) | assumption); first | exact h_ | (have e_ := (Kd.R_reads' HQ39.out).1; omega) | simpa using h_)
                        obtain rfl := k44_openM hM41
                        have hg_0 : World.frozen? _ ⟨go28, (a3 : Int).toNat * 8, none⟩ = false := hfr41 0; have hu_0 : World.cell? _ ⟨go28, (a3 : Int).toNat * 8, none⟩ = some _ := hcc41 0 _ rfl; have hg_1 : World.frozen? _ ⟨go28, (a3 : Int).toNat * 8 + 1, none⟩ = false := hfr41 1; have hu_1 : World.cell? _ ⟨go28, (a3 : Int).toNat * 8 + 1, none⟩ = some _ := hcc41 1 _ rfl; have hg_2 : World.frozen? _ ⟨go28, (a3 : Int).toNat * 8 + 2, none⟩ = false := hfr41 2; have hu_2 : World.cell? _ ⟨go28, (a3 : Int).toNat * 8 + 2, none⟩ = some _ := hcc41 2 _ rfl; have hg_3 : World.frozen? _ ⟨go28, (a3 : Int).toNat * 8 + 3, none⟩ = false := hfr41 3; have hu_3 : World.cell? _ ⟨go28, (a3 : Int).toNat * 8 + 3, none⟩ = some _ := hcc41 3 _ rfl; have hg_4 : World.frozen? _ ⟨go28, (a3 : Int).toNat * 8 + 4, none⟩ = false := hfr41 4; have hu_4 : World.cell? _ ⟨go28, (a3 : Int).toNat * 8 + 4, none⟩ = some _ := hcc41 4 _ rfl; have hg_5 : World.frozen? _ ⟨go28, (a3 : Int).toNat * 8 + 5, none⟩ = false := hfr41 5; have hu_5 : World.cell? _ ⟨go28, (a3 : Int).toNat * 8 + 5, none⟩ = some _ := hcc41 5 _ rfl; have hg_6 : World.frozen? _ ⟨go28, (a3 : Int).toNat * 8 + 6, none⟩ = false := hfr41 6; have hu_6 : World.cell? _ ⟨go28, (a3 : Int).toNat * 8 + 6, none⟩ = some _ := hcc41 6 _ rfl; have hg_7 : World.frozen? _ ⟨go28, (a3 : Int).toNat * 8 + 7, none⟩ = false := hfr41 7; have hu_7 : World.cell? _ ⟨go28, (a3 : Int).toNat * 8 + 7, none⟩ = some _ := hcc41 7 _ rfl; clear hcl41 hcc41 hfr41 hM41
                        refine lastSkip_ (i := 15) (w1 := (wm.setCells go28 ((a3 : Int).toNat * k44.sz + 0) [.int .u64 ((rd_T44 l1 a2).f0), .int .u64 ((rd_T44 l1 a2).f1), .int .u64 ((rd_T44 l1 a2).f2), .int .u64 ((rd_T44 l1 a2).f3), .int .u64 ((rd_T44 l1 a2).f4), .string ((rd_T44 l1 a2).f5), .string ((rd_T44 l1 a2).f6), .bool ((rd_T44 l1 a2).f7)])) #[true, true, true, true, true, true, true, true, true, true, true, true, true, true, true, true] rfl rfl (one_of HT_.out (by kernel_rfl)) (by decide) (by rfl) ?_ ?_
                        · go_simp; rfl
                        have nB_ := Aside0.mk (Hand.below_setCells GB28.out [.int .u64 ((rd_T44 l1 a2).f0), .int .u64 ((rd_T44 l1 a2).f1), .int .u64 ((rd_T44 l1 a2).f2), .int .u64 ((rd_T44 l1 a2).f3), .int .u64 ((rd_T44 l1 a2).f4), .string ((rd_T44 l1 a2).f5), .string ((rd_T44 l1 a2).f6), .bool ((rd_T44 l1 a2).f7)] ((a3 : Int).toNat * k44.sz + 0) HB.out)
                        have nR_ := Aside0.mk (Kd.R_mono (R_far_cells (fun _ hk => hk.2) [.int .u64 ((rd_T44 l1 a2).f0), .int .u64 ((rd_T44 l1 a2).f1), .int .u64 ((rd_T44 l1 a2).f2), .int .u64 ((rd_T44 l1 a2).f3), .int .u64 ((rd_T44 l1 a2).f4), .string ((rd_T44 l1 a2).f5), .string ((rd_T44 l1 a2).f6), .bool ((rd_T44 l1 a2).f7)] ((a3 : Int).toNat * k44.sz + 0) HO218.out) (ok' := fun _ => True) (fun _ _ => trivial))
                        have HO224 := HQ40; clear HB HO218 HQ39 hg_0 hu_0 hg_1 hu_1 hg_2 hu_2 hg_3 hu_3 hg_4 hu_4 hg_5 hu_5 hg_6 hu_6 hg_7 hu_7; have HB := nB_; have HO218 := nR_; clear nB_ nR_
                        generalize (wm.setCells go28 ((a3 : Int).toNat * k44.sz + 0) [.int .u64 ((rd_T44 l1 a2).f0), .int .u64 ((rd_T44 l1 a2).f1), .int .u64 ((rd_T44 l1 a2).f2), .int .u64 ((rd_T44 l1 a2).f3), .int .u64 ((rd_T44 l1 a2).f4), .string ((rd_T44 l1 a2).f5), .string ((rd_T44 l1 a2).f6), .bool ((rd_T44 l1 a2).f7)]) = wn at HB HO218 HO224 HQ40 ⊢
                        refine done_ (done_of HT_.out (by kernel_rfl)) ?_
                        obtain ⟨Ao41, co41, eo41⟩ := Kd.R_slice HO218.out
                        subst eo41
                        try go_wp2_with (first | ((with_reducible refine gate_callee (f := 22) rfl ?_); refine goesL_ (some 63) rfl rfl Tryd.func22 (by kernel_rfl) rfl #[.slice Ao41 t216.length co41, .slice (some ad225) l1.length c1] rfl (by (try simp only [List.map_toArray, List.map_cons, List.map_nil]); first | done | rfl | (simp only [List.length_drop, List.length_take]; rfl)) ?_; (with_reducible refine (policy_Eval.calls _ _ t216 _ _ l1 t229 _ ?side1 ?side2 ?side3 ?side4 A31.out).mono ?_); (case side1 => refine (Kd.R_reads' (e := 37) (base := w.heap.size) (ok := fun k_ => True) (n := t216.length) (c := co41) ?_).2.2; exact (by (with_reducible repeat (first | apply Kd.R_alloc | apply Kd.R_drewN | apply Kd.R_drew)); exact HO218.out)); (case side2 => exact (Kd.R_reads' HO218.out).2.1); (case side3 => exact Kd.C_below HR1.out (by repeat (first | (with_reducible first | exact HB.out | apply below_alloc | apply pw_below_drewN | apply below_drew1) | exact HB.out))); (case side4 => exact HC1.out); rintro e w42 ⟨rfl, hb⟩; refine ⟨_, rfl, ?_⟩; have n0_ := Aside0.mk (Kd.R_below (by (with_reducible repeat (first | apply Kd.R_alloc | apply Kd.R_drewN | apply Kd.R_drew)); exact HO218.out) hb); have n1_ := Aside0.mk (Kd.R_below (by (with_reducible repeat (first | apply Kd.R_alloc | apply Kd.R_drewN | apply Kd.R_drew)); exact HQ40.out) hb); have n2_ := Aside0.mk (below_step (by repeat (first | (with_reducible first | exact HB.out | apply below_alloc | apply pw_below_drewN | apply below_drew1) | exact HB.out)) hb); clear HO218; clear HO224; clear HB; have HO218 := n0_; have HO224 := n1_; have HB := n2_; clear n0_ n1_ n2_; (try clear hb); (try clear hb2); (try clear hk); (try clear hi)) | ((with_reducible refine gate_callee (f := 22) rfl ?_); refine goesL_ (some 66) rfl rfl Tryd.func22 (by kernel_rfl) rfl #[.slice Ao41 t216.length co41, .slice (some ⟨go28, 0, none⟩) y228.length co28] rfl (by (try simp only [List.map_toArray, List.map_cons, List.map_nil]); first | done | (rw [show y228.length = y222.length from (Kd.R_reads' HO224.out).1.symm] <;> rfl) | rfl | (simp only [List.length_drop, List.length_take]; rfl)) ?_; (with_reducible refine (policy_Eval.calls _ _ t216 _ _ y228 t230 _ ?side1 ?side2 ?side3 ?side4 A32.out).mono ?_); (case side1 => repeat (first | exact (Kd.R_reads' HO218.out).2.2 | (with_reducible refine Kd.C_alloc ?_ _) | (with_reducible refine Kd.C_drewN ?_ _) | (with_reducible refine Kd.C_drew ?_))); (case side2 => exact (Kd.R_reads' HO218.out).2.1); (case side3 => repeat (first | exact (Kd.R_reads' HO224.out).2.2 | (with_reducible refine Kd.C_alloc ?_ _) | (with_reducible refine Kd.C_drewN ?_ _) | (with_reducible refine Kd.C_drew ?_))); (case side4 => rw [show y228.length = y222.length from (Kd.R_reads' HO224.out).1.symm]; exact (Kd.R_reads' HO224.out).2.1); rintro e w43 ⟨rfl, hb⟩; refine ⟨_, rfl, ?_⟩; have n0_ := Aside0.mk (Kd.R_below (by (with_reducible repeat (first | apply Kd.R_alloc | apply Kd.R_drewN | apply Kd.R_drew)); exact HO218.out) hb); have n1_ := Aside0.mk (Kd.R_below (by (with_reducible repeat (first | apply Kd.R_alloc | apply Kd.R_drewN | apply Kd.R_drew)); exact HO224.out) hb); have n2_ := Aside0.mk (below_step (by repeat (first | (with_reducible first | exact HB.out | apply below_alloc | apply pw_below_drewN | apply below_drew1) | exact HB.out)) hb); clear HO218; clear HO224; clear HB; have HO218 := n0_; have HO224 := n1_; have HB := n2_; clear n0_ n1_ n2_; (try clear hb); (try clear hb2); (try clear hk); (try clear hi)))
                        go_loopg [11] kj4 (fun kq v11 w' => ∃ (x11_2 : Int), v11 = .int .i64 x11_2 ∧ Aside0 (winnowlaw04_PolicyOrder.l0 kq l0 l1 a2 t216 y228 x11_2 = some r) ∧ Aside0 (kq ≤ kj4) ∧ Aside0 (Kd.R k37 37 w' w.heap.size (fun _ => True) (.slice Ao41 t216.length co41) t216) ∧ Aside0 (Kd.R k44 44 w' w.heap.size (fun _ => True) (.slice (some ⟨go28, 0, none⟩) y222.length co28) y228) ∧ Aside0 (Below w.heap.size w w'))
                        case atStart => exact ⟨(0), (by first | rfl | (simp; done) | (simp [*]; done)), H', ⟨Nat.le_refl _⟩, ⟨by (with_reducible repeat (first | apply Kd.R_alloc | apply Kd.R_drewN | apply Kd.R_drew)); exact HO218.out⟩, ⟨by (with_reducible repeat (first | apply Kd.R_alloc | apply Kd.R_drewN | apply Kd.R_drew)); exact HO224.out⟩, ⟨by repeat (first | (with_reducible first | exact HB.out | apply below_alloc | apply pw_below_drewN | apply below_drew1) | exact HB.out)⟩⟩
                        case round =>
                          clear H'
                          (try clear c1); (try clear c2); (try clear p2); (try clear q2); (try clear hx2); (try clear c3); (try clear p3); (try clear q3); (try clear hx3); (try clear c4); (try clear c6); (try clear c7); (try clear c9); (try clear c10); (try clear c10b0); (try clear c12); (try clear c12b0); (try clear c13); (try clear c14); (try clear c14b0); (try clear c17); (try clear c18); (try clear c19); (try clear c22); (try clear p22); (try clear q22); (try clear hx22); (try clear c23); (try clear c23b0); (try clear c24); (try clear c24b0); (try clear c25); (try clear c25b0); (try clear c26); (try clear c26b0); (try clear c27); (try clear c27b0); (try clear c28); (try clear p28); (try clear q28); (try clear hx28); (try clear hf28); (try clear c29); (try clear c29b0); (try clear c30); (try clear p30); (try clear q30); (try clear hx30); (try clear hf30); (try clear c33); (try clear c33b0); (try clear c33b1); (try clear c39); (try clear c40); (try clear hx225_0); (try clear hx225_1); (try clear hx225_2); (try clear hx225_3); (try clear hx225_4); (try clear hx225_5); (try clear hx225_6); (try clear hx225_7); (try clear hx226_0); (try clear hx226_1); (try clear hx226_2); (try clear hx226_3); (try clear hx226_4); (try clear hx226_5); (try clear hx226_6); (try clear hx226_7); (try clear hx28_0); (try clear hx28_1); (try clear hx28_2); (try clear hx28_3); (try clear hx28_4); (try clear hx28_5); (try clear hx28_6); (try clear hx28_7); (try clear hx30_0); (try clear hx30_1); (try clear hx30_2); (try clear hx30_3); (try clear hx30_4); (try clear hx30_5); (try clear hx30_6); (try clear hx30_7); (try clear p2); (try clear p225); (try clear p226); (try clear p28); (try clear p30); (try clear q225); (try clear q226); (try clear q28); (try clear q30)
                          obtain ⟨x11_2, rfl, HA, HK2, HO_9, HO_10, HB⟩ := hrel
                          have hl10_2 := (Kd.R_reads' HO_10.out).1
                          rw [hl10_2] at HO_10
                          (try simp only [hl10_2])
                          (try simp only [hl10_2] at HO_9)
                          cases gk with
                          | zero => exact absurd HA.out (by simp [winnowlaw04_PolicyOrder.l0])
                          | succ k2 =>
                            have H := HA.out; clear HA
                            simp only [winnowlaw04_PolicyOrder.l0] at H
                            by_cases c44 : x11_2 < (l0.length : Int)
                            · rw [if_pos c44] at H
                              have c44b0 : decide (x11_2 < (l0.length : Int)) = true := decide_eq_true c44; clear c44
                              by_cases c45 : 0 ≤ x11_2
                              · rw [if_pos c45] at H
                                have c45b0 : decide (0 ≤ x11_2) = true := decide_eq_true c45; clear c45
                                by_cases c46 : ((rd_T39 l0 x11_2).f1).toList = ([109, 97, 110, 121] : List UInt8)
                                · rw [if_pos c46] at H
                                  have c46b0 : (((rd_T39 l0 x11_2).f1).toList == ([109, 97, 110, 121] : List UInt8)) = true := beq_iff_eq.mpr c46; have c46b1 : (((rd_T39 l0 x11_2).f1).toList != ([109, 97, 110, 121] : List UInt8)) = false := bne_eq_false_iff_eq.mpr c46; clear c46
                                  replace H := Option.bind_eq_some_iff.mp H
                                  obtain ⟨t232, A470, H⟩ := H
                                  replace H : (some t232) = some r := H
                                  have A47 := Aside0.mk A470; clear A470
                                  obtain rfl := Option.some.inj H
                                  have p231 : 0 ≤ (x11_2 : Int) := of_decide_eq_true (by first | (with_reducible assumption) | assumption); have q231 : x11_2 < (l0.length : Int) := of_decide_eq_true (by first | (with_reducible assumption) | assumption)
                                  obtain ⟨ad231, e231, hx231_0, hx231_1, hx231_2, hx231_3⟩ := at_T39 HR0.out x11_2 p231 q231
                                  cases e231
                                  replace hx231_0 := (HB.out.cell (World.block_lt_of_cell? w _ hx231_0)).trans hx231_0
                                  replace hx231_1 := (HB.out.cell (World.block_lt_of_cell? w _ hx231_1)).trans hx231_1
                                  replace hx231_2 := (HB.out.cell (World.block_lt_of_cell? w _ hx231_2)).trans hx231_2
                                  replace hx231_3 := (HB.out.cell (World.block_lt_of_cell? w _ hx231_3)).trans hx231_3
                                  replace p231 := eq_true p231
                                  replace q231 := eq_true q231
                                  go_wp2_with (first | ((with_reducible refine gate_callee (f := 13) rfl ?_); refine goesL_ (some 80) rfl rfl Tryd.func13 (by kernel_rfl) rfl #[] rfl (by (try simp only [List.map_toArray, List.map_cons, List.map_nil]); first | done | rfl | (simp only [List.length_drop, List.length_take]; rfl)) ?_; (with_reducible refine (winnowlaw04_alive.calls  t232 _ A47.out).mono ?_); rintro e w48 ⟨rfl, hb⟩; refine ⟨_, rfl, ?_⟩; have n0_ := Aside0.mk (Kd.R_below (by (with_reducible repeat (first | apply Kd.R_alloc | apply Kd.R_drewN | apply Kd.R_drew)); exact HO_9.out) hb); have n1_ := Aside0.mk (Kd.R_below (by (with_reducible repeat (first | apply Kd.R_alloc | apply Kd.R_drewN | apply Kd.R_drew)); exact HO_10.out) hb); have n2_ := Aside0.mk (below_step (by repeat (first | (with_reducible first | exact HB.out | apply below_alloc | apply pw_below_drewN | apply below_drew1) | exact HB.out)) hb); clear HO_9; clear HO_10; clear HB; have HO_9 := n0_; have HO_10 := n1_; have HB := n2_; clear n0_ n1_ n2_; (try clear hb); (try clear hb2); (try clear hk); (try clear hi)))
                                  go_ret
                                  exact ⟨by first | rfl | (simp [errW_none, errW_some] <;> rfl) | (simp [*, errW_none, errW_some] <;> rfl), by repeat (first | (with_reducible first | exact HB.out | apply below_alloc | apply pw_below_drewN | apply below_drew1) | exact HB.out)⟩
                                · rw [if_neg c46] at H
                                  have c46b0 : (((rd_T39 l0 x11_2).f1).toList == ([109, 97, 110, 121] : List UInt8)) = false := beq_eq_false_iff_ne.mpr c46; have c46b1 : (((rd_T39 l0 x11_2).f1).toList != ([109, 97, 110, 121] : List UInt8)) = true := bne_iff_ne.mpr c46
                                  have H' := Aside0.mk H
                                  clear H; have p231 : 0 ≤ (x11_2 : Int) := of_decide_eq_true (by first | (with_reducible assumption) | assumption); have q231 : x11_2 < (l0.length : Int) := of_decide_eq_true (by first | (with_reducible assumption) | assumption)
                                  obtain ⟨ad231, e231, hx231_0, hx231_1, hx231_2, hx231_3⟩ := at_T39 HR0.out x11_2 p231 q231
                                  cases e231
                                  replace hx231_0 := (HB.out.cell (World.block_lt_of_cell? w _ hx231_0)).trans hx231_0
                                  replace hx231_1 := (HB.out.cell (World.block_lt_of_cell? w _ hx231_1)).trans hx231_1
                                  replace hx231_2 := (HB.out.cell (World.block_lt_of_cell? w _ hx231_2)).trans hx231_2
                                  replace hx231_3 := (HB.out.cell (World.block_lt_of_cell? w _ hx231_3)).trans hx231_3
                                  replace p231 := eq_true p231
                                  replace q231 := eq_true q231
                                  go_wp2
                                  (try simp only [← hl10_2])
                                  go_roundg k2
                                  case measure => have := HJ4.out; have := HK2.out; omega
                                  case rel => exact ⟨(wrap64 (x11_2 + 1)), (by first | rfl | (simp; done) | (simp [*]; done)), H', ⟨by have := HJ4.out; have := HK2.out; omega⟩, ⟨by (try simp only [hl10_2]); (with_reducible repeat (first | apply Kd.R_alloc | apply Kd.R_drewN | apply Kd.R_drew)); exact HO_9.out⟩, ⟨by (try simp only [hl10_2]); (with_reducible repeat (first | apply Kd.R_alloc | apply Kd.R_drewN | apply Kd.R_drew)); exact HO_10.out⟩, ⟨by repeat (first | (with_reducible first | exact HB.out | apply below_alloc | apply pw_below_drewN | apply below_drew1) | exact HB.out)⟩⟩
                              · rw [if_neg c45] at H
                                exact absurd H (by simp)
                            · rw [if_neg c44] at H
                              have c44b0 : decide (x11_2 < (l0.length : Int)) = false := decide_eq_false c44; clear c44
                              by_cases c49 : 0 ≤ a2
                              · rw [if_pos c49] at H
                                have c49b0 : decide (0 ≤ a2) = true := decide_eq_true c49; clear c49
                                by_cases c50 : a2 < (l1.length : Int)
                                · rw [if_pos c50] at H
                                  have c50b0 : decide (a2 < (l1.length : Int)) = true := decide_eq_true c50; clear c50
                                  by_cases c51 : y228.length < 1759218604441
                                  · rw [if_pos c51] at H
                                    have LMc51 := Aside0.mk c51; clear c51
                                    obtain ⟨y234, hy234⟩ : ∃ y_ : List (S44), y_ = (y228 ++ [(⟨(rd_T44 l1 a2).f0, (rd_T44 l1 a2).f1, (rd_T44 l1 a2).f2, (rd_T44 l1 a2).f3, (rd_T44 l1 a2).f4, (rd_T44 l1 a2).f5, (rd_T44 l1 a2).f6, (rd_T44 l1 a2).f7⟩ : S44)]) := ⟨_, rfl⟩
                                    replace H : ((policy_Eval.f t216 y234).bind fun t237 => ((policy_Eval.f t216 l1).bind fun t238 => (if t237 = t238 then ((winnowlaw04_alive.f).bind fun t239 => (some t239)) else (some false)))) = some r := by first | (rw [hy234]; with_reducible exact H) | (have H2_ := (Option.bind_some _ _).symm.trans H; rw [hy234]; with_reducible exact H2_) | (have H2_ := (Option.bind_some _ _).symm.trans H; with_reducible exact H2_) | with_reducible exact H | (rw [hy234]; exact H) | exact H
                                    have Ny234 := Aside0.mk hy234; clear hy234
                                    replace H := Option.bind_eq_some_iff.mp H
                                    obtain ⟨t237, A520, H⟩ := H
                                    (try dsimp only at H)
                                    have A52 := Aside0.mk A520; clear A520
                                    replace H := Option.bind_eq_some_iff.mp H
                                    obtain ⟨t238, A530, H⟩ := H
                                    (try dsimp only at H)
                                    have A53 := Aside0.mk A530; clear A530
                                    by_cases c54 : t237 = t238
                                    · rw [if_pos c54] at H
                                      have c54b0 : (t237 == t238) = true := beq_iff_eq.mpr c54; have c54b1 : (t237 != t238) = false := bne_eq_false_iff_eq.mpr c54; clear c54
                                      replace H := Option.bind_eq_some_iff.mp H
                                      obtain ⟨t239, A550, H⟩ := H
                                      replace H : (some t239) = some r := H
                                      have A55 := Aside0.mk A550; clear A550
                                      obtain rfl := Option.some.inj H
                                      have p233 : 0 ≤ (a2 : Int) := of_decide_eq_true (by first | (with_reducible assumption) | assumption); have q233 : a2 < (l1.length : Int) := of_decide_eq_true (by first | (with_reducible assumption) | assumption)
                                      obtain ⟨ad233, e233, hx233_0, hx233_1, hx233_2, hx233_3, hx233_4, hx233_5, hx233_6, hx233_7⟩ := at_T44 HR1.out a2 p233 q233
                                      obtain rfl : ad225 = ad233 := (by injection e233)
                                      replace hx233_0 := (HB.out.cell (World.block_lt_of_cell? w _ hx233_0)).trans hx233_0
                                      replace hx233_1 := (HB.out.cell (World.block_lt_of_cell? w _ hx233_1)).trans hx233_1
                                      replace hx233_2 := (HB.out.cell (World.block_lt_of_cell? w _ hx233_2)).trans hx233_2
                                      replace hx233_3 := (HB.out.cell (World.block_lt_of_cell? w _ hx233_3)).trans hx233_3
                                      replace hx233_4 := (HB.out.cell (World.block_lt_of_cell? w _ hx233_4)).trans hx233_4
                                      replace hx233_5 := (HB.out.cell (World.block_lt_of_cell? w _ hx233_5)).trans hx233_5
                                      replace hx233_6 := (HB.out.cell (World.block_lt_of_cell? w _ hx233_6)).trans hx233_6
                                      replace hx233_7 := (HB.out.cell (World.block_lt_of_cell? w _ hx233_7)).trans hx233_7
                                      replace p233 := eq_true p233
                                      replace q233 := eq_true q233
                                      go_wp2_with (first | ((with_reducible refine gate_builtin (b := .append) (xs := #[.tmp 82, .tmp 87]) rfl ?_); (try (refine gate_guard (by rfl) ?_; dsimp only)); at_builtin; refine Kd.R_append k44 (w0 := w) w.heap.size rfl (.tmp 82) (.tmp 87) 30 44 (.agg #[(.int .u64 0), (.int .u64 0), (.int .u64 0), (.int .u64 0), (.int .u64 0), (.string ⟨#[]⟩), (.string ⟨#[]⟩), (.bool false)]) 80 rfl Tryd.underlying30 info44 rfl (by decide) (by omega) (.slice (some ⟨go28, 0, none⟩) y228.length co28) y228 (⟨(rd_T44 l1 a2).f0, (rd_T44 l1 a2).f1, (rd_T44 l1 a2).f2, (rd_T44 l1 a2).f3, (rd_T44 l1 a2).f4, (rd_T44 l1 a2).f5, (rd_T44 l1 a2).f6, (rd_T44 l1 a2).f7⟩ : S44) [.int .u64 ((rd_T44 l1 a2).f0), .int .u64 ((rd_T44 l1 a2).f1), .int .u64 ((rd_T44 l1 a2).f2), .int .u64 ((rd_T44 l1 a2).f3), .int .u64 ((rd_T44 l1 a2).f4), .string ((rd_T44 l1 a2).f5), .string ((rd_T44 l1 a2).f6), .bool ((rd_T44 l1 a2).f7)] (fun _ => True) (fun _ => False) rfl rfl ?aP (fun _ hk => hk.elim) ?aF ?aO ?aB ?aS ?aL ?_; (case aP => exact k44_mkM _ _ _ (⟨(rd_T44 l1 a2).f0, (rd_T44 l1 a2).f1, (rd_T44 l1 a2).f2, (rd_T44 l1 a2).f3, (rd_T44 l1 a2).f4, (rd_T44 l1 a2).f5, (rd_T44 l1 a2).f6, (rd_T44 l1 a2).f7⟩ : S44)); (case aB => exact (by repeat (first | (with_reducible first | exact HB.out | apply below_alloc | apply pw_below_drewN | apply below_drew1) | exact HB.out))); (case aF => exact (fun _ _ => trivial)); (case aO => exact (by (with_reducible repeat (first | apply Kd.R_alloc | apply Kd.R_drewN | apply Kd.R_drew)); exact HO_10.out)); (case aS => exact (below_size (by repeat (first | (with_reducible first | exact HB.out | apply below_alloc | apply pw_below_drewN | apply below_drew1) | exact HB.out)))); (case aL => have := LMc51.out; omega); intro v235 w56 ho hb hg hat; rw [← Ny234.out] at ho; have n0_ := Aside0.mk (Kd.R_over' (by (with_reducible repeat (first | apply Kd.R_alloc | apply Kd.R_drewN | apply Kd.R_drew)); exact HO_9.out) (Kd.R_typed (by (with_reducible repeat (first | apply Kd.R_alloc | apply Kd.R_drewN | apply Kd.R_drew)); exact HO_10.out)) (by decide) hg); have n1_ := Aside0.mk (hb); have n2_ := Aside0.mk (ho); clear HO_9; clear HB; clear HO_10; have HO_9 := n0_; have HB := n1_; have HO236 := n2_; clear n0_ n1_ n2_; clear ho hb hg hat; obtain ⟨Ao57, co57, eo57⟩ := Kd.R_slice HO236.out; subst eo57) | ((with_reducible refine gate_callee (f := 22) rfl ?_); refine goesL_ (some 89) rfl rfl Tryd.func22 (by kernel_rfl) rfl #[.slice Ao41 t216.length co41, .slice Ao57 y234.length co57] rfl (by (try simp only [List.map_toArray, List.map_cons, List.map_nil]); first | done | rfl | (simp only [List.length_drop, List.length_take]; rfl)) ?_; (with_reducible refine (policy_Eval.calls _ _ t216 _ _ y234 t237 _ ?side1 ?side2 ?side3 ?side4 A52.out).mono ?_); (case side1 => repeat (first | exact (Kd.R_reads' HO_9.out).2.2 | (with_reducible refine Kd.C_alloc ?_ _) | (with_reducible refine Kd.C_drewN ?_ _) | (with_reducible refine Kd.C_drew ?_))); (case side2 => exact (Kd.R_reads' HO_9.out).2.1); (case side3 => repeat (first | exact (Kd.R_reads' HO236.out).2.2 | (with_reducible refine Kd.C_alloc ?_ _) | (with_reducible refine Kd.C_drewN ?_ _) | (with_reducible refine Kd.C_drew ?_))); (case side4 => exact (Kd.R_reads' HO236.out).2.1); rintro e w58 ⟨rfl, hb⟩; refine ⟨_, rfl, ?_⟩; have n0_ := Aside0.mk (Kd.R_below (by (with_reducible repeat (first | apply Kd.R_alloc | apply Kd.R_drewN | apply Kd.R_drew)); exact HO_9.out) hb); have n1_ := Aside0.mk (Kd.R_below (by (with_reducible repeat (first | apply Kd.R_alloc | apply Kd.R_drewN | apply Kd.R_drew)); exact HO236.out) hb); have n2_ := Aside0.mk (below_step (by repeat (first | (with_reducible first | exact HB.out | apply below_alloc | apply pw_below_drewN | apply below_drew1) | exact HB.out)) hb); clear HO_9; clear HO236; clear HB; have HO_9 := n0_; have HO236 := n1_; have HB := n2_; clear n0_ n1_ n2_; (try clear hb); (try clear hb2); (try clear hk); (try clear hi)) | ((with_reducible refine gate_callee (f := 22) rfl ?_); refine goesL_ (some 92) rfl rfl Tryd.func22 (by kernel_rfl) rfl #[.slice Ao41 t216.length co41, .slice (some ad225) l1.length c1] rfl (by (try simp only [List.map_toArray, List.map_cons, List.map_nil]); first | done | rfl | (simp only [List.length_drop, List.length_take]; rfl)) ?_; (with_reducible refine (policy_Eval.calls _ _ t216 _ _ l1 t238 _ ?side1 ?side2 ?side3 ?side4 A53.out).mono ?_); (case side1 => repeat (first | exact (Kd.R_reads' HO_9.out).2.2 | (with_reducible refine Kd.C_alloc ?_ _) | (with_reducible refine Kd.C_drewN ?_ _) | (with_reducible refine Kd.C_drew ?_))); (case side2 => exact (Kd.R_reads' HO_9.out).2.1); (case side3 => repeat (first | exact (Kd.C_below HR1.out HB.out) | (with_reducible refine Kd.C_alloc ?_ _) | (with_reducible refine Kd.C_drewN ?_ _) | (with_reducible refine Kd.C_drew ?_))); (case side4 => exact HC1.out); rintro e w59 ⟨rfl, hb⟩; refine ⟨_, rfl, ?_⟩; have n0_ := Aside0.mk (Kd.R_below (by (with_reducible repeat (first | apply Kd.R_alloc | apply Kd.R_drewN | apply Kd.R_drew)); exact HO_9.out) hb); have n1_ := Aside0.mk (Kd.R_below (by (with_reducible repeat (first | apply Kd.R_alloc | apply Kd.R_drewN | apply Kd.R_drew)); exact HO236.out) hb); have n2_ := Aside0.mk (below_step (by repeat (first | (with_reducible first | exact HB.out | apply below_alloc | apply pw_below_drewN | apply below_drew1) | exact HB.out)) hb); clear HO_9; clear HO236; clear HB; have HO_9 := n0_; have HO236 := n1_; have HB := n2_; clear n0_ n1_ n2_; (try clear hb); (try clear hb2); (try clear hk); (try clear hi)) | (go_at_call 13; (with_reducible refine (winnowlaw04_alive.calls  t239 _ A55.out).mono ?_); rintro e w60 ⟨rfl, hb⟩; have n0_ := Aside0.mk (Kd.R_below (by (with_reducible repeat (first | apply Kd.R_alloc | apply Kd.R_drewN | apply Kd.R_drew)); exact HO_9.out) hb); have n1_ := Aside0.mk (Kd.R_below (by (with_reducible repeat (first | apply Kd.R_alloc | apply Kd.R_drewN | apply Kd.R_drew)); exact HO236.out) hb); have n2_ := Aside0.mk (below_step (by repeat (first | (with_reducible first | exact HB.out | apply below_alloc | apply pw_below_drewN | apply below_drew1) | exact HB.out)) hb); clear HO_9; clear HO236; clear HB; have HO_9 := n0_; have HO236 := n1_; have HB := n2_; clear n0_ n1_ n2_; (try clear hb); (try clear hb2); (try clear hk); (try clear hi)))
                                      go_ret
                                      exact ⟨by first | rfl | (simp [errW_none, errW_some] <;> rfl) | (simp [*, errW_none, errW_some] <;> rfl), by repeat (first | (with_reducible first | exact HB.out | apply below_alloc | apply pw_below_drewN | apply below_drew1) | exact HB.out)⟩
                                    · rw [if_neg c54] at H
                                      have c54b0 : (t237 == t238) = false := beq_eq_false_iff_ne.mpr c54; have c54b1 : (t237 != t238) = true := bne_iff_ne.mpr c54
                                      obtain rfl := Option.some.inj H
                                      have p233 : 0 ≤ (a2 : Int) := of_decide_eq_true (by first | (with_reducible assumption) | assumption); have q233 : a2 < (l1.length : Int) := of_decide_eq_true (by first | (with_reducible assumption) | assumption)
                                      obtain ⟨ad233, e233, hx233_0, hx233_1, hx233_2, hx233_3, hx233_4, hx233_5, hx233_6, hx233_7⟩ := at_T44 HR1.out a2 p233 q233
                                      obtain rfl : ad225 = ad233 := (by injection e233)
                                      replace hx233_0 := (HB.out.cell (World.block_lt_of_cell? w _ hx233_0)).trans hx233_0
                                      replace hx233_1 := (HB.out.cell (World.block_lt_of_cell? w _ hx233_1)).trans hx233_1
                                      replace hx233_2 := (HB.out.cell (World.block_lt_of_cell? w _ hx233_2)).trans hx233_2
                                      replace hx233_3 := (HB.out.cell (World.block_lt_of_cell? w _ hx233_3)).trans hx233_3
                                      replace hx233_4 := (HB.out.cell (World.block_lt_of_cell? w _ hx233_4)).trans hx233_4
                                      replace hx233_5 := (HB.out.cell (World.block_lt_of_cell? w _ hx233_5)).trans hx233_5
                                      replace hx233_6 := (HB.out.cell (World.block_lt_of_cell? w _ hx233_6)).trans hx233_6
                                      replace hx233_7 := (HB.out.cell (World.block_lt_of_cell? w _ hx233_7)).trans hx233_7
                                      replace p233 := eq_true p233
                                      replace q233 := eq_true q233
                                      go_wp2_with (first | ((with_reducible refine gate_builtin (b := .append) (xs := #[.tmp 82, .tmp 87]) rfl ?_); (try (refine gate_guard (by rfl) ?_; dsimp only)); at_builtin; refine Kd.R_append k44 (w0 := w) w.heap.size rfl (.tmp 82) (.tmp 87) 30 44 (.agg #[(.int .u64 0), (.int .u64 0), (.int .u64 0), (.int .u64 0), (.int .u64 0), (.string ⟨#[]⟩), (.string ⟨#[]⟩), (.bool false)]) 80 rfl Tryd.underlying30 info44 rfl (by decide) (by omega) (.slice (some ⟨go28, 0, none⟩) y228.length co28) y228 (⟨(rd_T44 l1 a2).f0, (rd_T44 l1 a2).f1, (rd_T44 l1 a2).f2, (rd_T44 l1 a2).f3, (rd_T44 l1 a2).f4, (rd_T44 l1 a2).f5, (rd_T44 l1 a2).f6, (rd_T44 l1 a2).f7⟩ : S44) [.int .u64 ((rd_T44 l1 a2).f0), .int .u64 ((rd_T44 l1 a2).f1), .int .u64 ((rd_T44 l1 a2).f2), .int .u64 ((rd_T44 l1 a2).f3), .int .u64 ((rd_T44 l1 a2).f4), .string ((rd_T44 l1 a2).f5), .string ((rd_T44 l1 a2).f6), .bool ((rd_T44 l1 a2).f7)] (fun _ => True) (fun _ => False) rfl rfl ?aP (fun _ hk => hk.elim) ?aF ?aO ?aB ?aS ?aL ?_; (case aP => exact k44_mkM _ _ _ (⟨(rd_T44 l1 a2).f0, (rd_T44 l1 a2).f1, (rd_T44 l1 a2).f2, (rd_T44 l1 a2).f3, (rd_T44 l1 a2).f4, (rd_T44 l1 a2).f5, (rd_T44 l1 a2).f6, (rd_T44 l1 a2).f7⟩ : S44)); (case aB => exact (by repeat (first | (with_reducible first | exact HB.out | apply below_alloc | apply pw_below_drewN | apply below_drew1) | exact HB.out))); (case aF => exact (fun _ _ => trivial)); (case aO => exact (by (with_reducible repeat (first | apply Kd.R_alloc | apply Kd.R_drewN | apply Kd.R_drew)); exact HO_10.out)); (case aS => exact (below_size (by repeat (first | (with_reducible first | exact HB.out | apply below_alloc | apply pw_below_drewN | apply below_drew1) | exact HB.out)))); (case aL => have := LMc51.out; omega); intro v235 w61 ho hb hg hat; rw [← Ny234.out] at ho; have n0_ := Aside0.mk (Kd.R_over' (by (with_reducible repeat (first | apply Kd.R_alloc | apply Kd.R_drewN | apply Kd.R_drew)); exact HO_9.out) (Kd.R_typed (by (with_reducible repeat (first | apply Kd.R_alloc | apply Kd.R_drewN | apply Kd.R_drew)); exact HO_10.out)) (by decide) hg); have n1_ := Aside0.mk (hb); have n2_ := Aside0.mk (ho); clear HO_9; clear HB; clear HO_10; have HO_9 := n0_; have HB := n1_; have HO236 := n2_; clear n0_ n1_ n2_; clear ho hb hg hat; obtain ⟨Ao62, co62, eo62⟩ := Kd.R_slice HO236.out; subst eo62) | ((with_reducible refine gate_callee (f := 22) rfl ?_); refine goesL_ (some 89) rfl rfl Tryd.func22 (by kernel_rfl) rfl #[.slice Ao41 t216.length co41, .slice Ao62 y234.length co62] rfl (by (try simp only [List.map_toArray, List.map_cons, List.map_nil]); first | done | rfl | (simp only [List.length_drop, List.length_take]; rfl)) ?_; (with_reducible refine (policy_Eval.calls _ _ t216 _ _ y234 t237 _ ?side1 ?side2 ?side3 ?side4 A52.out).mono ?_); (case side1 => repeat (first | exact (Kd.R_reads' HO_9.out).2.2 | (with_reducible refine Kd.C_alloc ?_ _) | (with_reducible refine Kd.C_drewN ?_ _) | (with_reducible refine Kd.C_drew ?_))); (case side2 => exact (Kd.R_reads' HO_9.out).2.1); (case side3 => repeat (first | exact (Kd.R_reads' HO236.out).2.2 | (with_reducible refine Kd.C_alloc ?_ _) | (with_reducible refine Kd.C_drewN ?_ _) | (with_reducible refine Kd.C_drew ?_))); (case side4 => exact (Kd.R_reads' HO236.out).2.1); rintro e w63 ⟨rfl, hb⟩; refine ⟨_, rfl, ?_⟩; have n0_ := Aside0.mk (Kd.R_below (by (with_reducible repeat (first | apply Kd.R_alloc | apply Kd.R_drewN | apply Kd.R_drew)); exact HO_9.out) hb); have n1_ := Aside0.mk (Kd.R_below (by (with_reducible repeat (first | apply Kd.R_alloc | apply Kd.R_drewN | apply Kd.R_drew)); exact HO236.out) hb); have n2_ := Aside0.mk (below_step (by repeat (first | (with_reducible first | exact HB.out | apply below_alloc | apply pw_below_drewN | apply below_drew1) | exact HB.out)) hb); clear HO_9; clear HO236; clear HB; have HO_9 := n0_; have HO236 := n1_; have HB := n2_; clear n0_ n1_ n2_; (try clear hb); (try clear hb2); (try clear hk); (try clear hi)) | ((with_reducible refine gate_callee (f := 22) rfl ?_); refine goesL_ (some 92) rfl rfl Tryd.func22 (by kernel_rfl) rfl #[.slice Ao41 t216.length co41, .slice (some ad225) l1.length c1] rfl (by (try simp only [List.map_toArray, List.map_cons, List.map_nil]); first | done | rfl | (simp only [List.length_drop, List.length_take]; rfl)) ?_; (with_reducible refine (policy_Eval.calls _ _ t216 _ _ l1 t238 _ ?side1 ?side2 ?side3 ?side4 A53.out).mono ?_); (case side1 => repeat (first | exact (Kd.R_reads' HO_9.out).2.2 | (with_reducible refine Kd.C_alloc ?_ _) | (with_reducible refine Kd.C_drewN ?_ _) | (with_reducible refine Kd.C_drew ?_))); (case side2 => exact (Kd.R_reads' HO_9.out).2.1); (case side3 => repeat (first | exact (Kd.C_below HR1.out HB.out) | (with_reducible refine Kd.C_alloc ?_ _) | (with_reducible refine Kd.C_drewN ?_ _) | (with_reducible refine Kd.C_drew ?_))); (case side4 => exact HC1.out); rintro e w64 ⟨rfl, hb⟩; refine ⟨_, rfl, ?_⟩; have n0_ := Aside0.mk (Kd.R_below (by (with_reducible repeat (first | apply Kd.R_alloc | apply Kd.R_drewN | apply Kd.R_drew)); exact HO_9.out) hb); have n1_ := Aside0.mk (Kd.R_below (by (with_reducible repeat (first | apply Kd.R_alloc | apply Kd.R_drewN | apply Kd.R_drew)); exact HO236.out) hb); have n2_ := Aside0.mk (below_step (by repeat (first | (with_reducible first | exact HB.out | apply below_alloc | apply pw_below_drewN | apply below_drew1) | exact HB.out)) hb); clear HO_9; clear HO236; clear HB; have HO_9 := n0_; have HO236 := n1_; have HB := n2_; clear n0_ n1_ n2_; (try clear hb); (try clear hb2); (try clear hk); (try clear hi)))
                                      go_ret
                                      exact ⟨by first | rfl | (simp [errW_none, errW_some] <;> rfl) | (simp [*, errW_none, errW_some] <;> rfl), by repeat (first | (with_reducible first | exact HB.out | apply below_alloc | apply pw_below_drewN | apply below_drew1) | exact HB.out)⟩
                                  · rw [if_neg c51] at H
                                    exact absurd H (by simp)
                                · rw [if_neg c50] at H
                                  exact absurd H (by simp)
                              · rw [if_neg c49] at H
                                exact absurd H (by simp)
                      · rw [if_neg c33] at H
                        have c33b0 : (t229 == t230) = false := beq_eq_false_iff_ne.mpr c33; have c33b1 : (t229 != t230) = true := bne_iff_ne.mpr c33
                        obtain rfl := Option.some.inj H
                        try go_wp2_with (first | ((with_reducible refine gate_callee (f := 19) rfl ?_); refine goesL_ (some 43) rfl rfl Tryd.func19 (by kernel_rfl) rfl #[.slice A0 l0.length c0] rfl (by (try simp only [List.map_toArray, List.map_cons, List.map_nil]); first | done | rfl | (simp only [List.length_drop, List.length_take]; rfl)) ?_; (with_reducible refine (winnowlaw04_Own.calls kj4 _ _ l0 t216 _ ?side1 ?side2 A21.out).mono ?_); (case side1 => repeat (first | exact (Kd.C_below HR0.out HB.out) | (with_reducible refine Kd.C_alloc ?_ _) | (with_reducible refine Kd.C_drewN ?_ _) | (with_reducible refine Kd.C_drew ?_))); (case side2 => exact HC0.out); rintro e w65 ⟨v217, rfl, ho0, hb⟩; refine ⟨_, rfl, ?_⟩; have n0_ := Aside0.mk (Kd.R_lower ho0 (below_size (by repeat (first | (with_reducible first | exact HB.out | apply below_alloc | apply pw_below_drewN | apply below_drew1) | exact HB.out)))); have n1_ := Aside0.mk (below_step (by repeat (first | (with_reducible first | exact HB.out | apply below_alloc | apply pw_below_drewN | apply below_drew1) | exact HB.out)) hb); clear HB; have HO218 := n0_; have HB := n1_; clear n0_ n1_; (try clear hb); (try clear hb2); (try clear hk); (try clear hi); (try clear ho0)) | ((with_reducible refine gate_dst (N := 44) rfl ?_); (try (refine gate_guard (by rfl) ?_; dsimp only)); refine Kd.R_lit k44 _ 44 ?hg (N := 44) ?hd (xs := ([] : List (S44))) (inner := []) (ok := fun _ => True) (okp := fun _ => True) ?hr ?hp (fun _ hk => hk) trivial (Below.refl _ _) (Nat.le_refl _) (by simp) ?_; (case hd => rfl); (case hg => rfl); (case hr => first | (go_simp; done) | (go_simp; rfl)); (case hp => exact (Reps.none _ _)); intro v220 w66 ho67 hb hg_ hnew_; clear hg_ hnew_; (first | rw [← Ny219.out] at ho67 | (simp only [Int.reduceToNat] at ho67; rw [← Ny219.out] at ho67)); have n0_ := Aside0.mk (Kd.R_below (by (with_reducible repeat (first | apply Kd.R_alloc | apply Kd.R_drewN | apply Kd.R_drew)); exact HO218.out) hb); have n1_ := Aside0.mk (Kd.R_lower ho67 (below_size (by repeat (first | (with_reducible first | exact HB.out | apply below_alloc | apply pw_below_drewN | apply below_drew1) | exact HB.out)))); have n2_ := Aside0.mk (below_step (by repeat (first | (with_reducible first | exact HB.out | apply below_alloc | apply pw_below_drewN | apply below_drew1) | exact HB.out)) hb); clear HO218; clear HB; have HO218 := n0_; have HO221 := n1_; have HB := n2_; clear n0_ n1_ n2_; clear hb ho67) | ((with_reducible refine gate_builtin (b := .append) (xs := #[.tmp 44, .tmp 45]) rfl ?_); (try (refine gate_guard (by rfl) ?_; dsimp only)); at_builtin; refine Kd.R_append_rows k44 (w0 := w) w.heap.size rfl (.tmp 44) (.tmp 45) 30 44 (.agg #[(.int .u64 0), (.int .u64 0), (.int .u64 0), (.int .u64 0), (.int .u64 0), (.string ⟨#[]⟩), (.string ⟨#[]⟩), (.bool false)]) 80 rfl Tryd.underlying30 info44 rfl (by decide) (by omega) v220 y219 l1 _ _ _ (fun _ => True) (fun _ => False) rfl rfl ?aO ?aR (fun _ _ h => h) (fun _ h => h.elim) ?aF ?aB ?aS ?aL ?_; (case aR => repeat (first | exact (Kd.C_below HR1.out HB.out) | (with_reducible refine Kd.C_alloc ?_ _) | (with_reducible refine Kd.C_drewN ?_ _) | (with_reducible refine Kd.C_drew ?_))); (case aB => exact (by repeat (first | (with_reducible first | exact HB.out | apply below_alloc | apply pw_below_drewN | apply below_drew1) | exact HB.out))); (case aF => exact (fun _ _ => trivial)); (case aO => exact (by (with_reducible repeat (first | apply Kd.R_alloc | apply Kd.R_drewN | apply Kd.R_drew)); exact HO221.out)); (case aS => exact (below_size (by repeat (first | (with_reducible first | exact HB.out | apply below_alloc | apply pw_below_drewN | apply below_drew1) | exact HB.out)))); (case aL => have := LMc22.out; omega); intro v223 w68 ho hb hg hat; rw [← Ny222.out] at ho; have n0_ := Aside0.mk (Kd.R_over' (by (with_reducible repeat (first | apply Kd.R_alloc | apply Kd.R_drewN | apply Kd.R_drew)); exact HO218.out) (Kd.R_typed (by (with_reducible repeat (first | apply Kd.R_alloc | apply Kd.R_drewN | apply Kd.R_drew)); exact HO221.out)) (by decide) hg); have n1_ := Aside0.mk (hb); have n2_ := Aside0.mk (ho); clear HO218; clear HB; clear HO221; have HO218 := n0_; have HB := n1_; have HO224 := n2_; clear n0_ n1_ n2_; clear ho hb hg hat))
                        have n0_ := Aside0.mk (Kd.R_drew HO218.out); have n1_ := Aside0.mk (Kd.R_drew HO224.out); have n2_ := Aside0.mk (below_drew1 HB.out); clear HO218; clear HO224; clear HB; have HO218 := n0_; have HO224 := n1_; have HB := n2_; clear n0_ n1_ n2_; have p225 : 0 ≤ (a3 : Int) := of_decide_eq_true (by first | (with_reducible assumption) | assumption); have q225 : a3 < (l1.length : Int) := of_decide_eq_true (by first | (with_reducible assumption) | assumption)
                        obtain ⟨ad225, e225, hx225_0, hx225_1, hx225_2, hx225_3, hx225_4, hx225_5, hx225_6, hx225_7⟩ := at_T44 HR1.out a3 p225 q225
                        have hw225_7 := hx225_7; have hw225_6 := hx225_6; have hw225_5 := hx225_5; have hw225_4 := hx225_4; have hw225_3 := hx225_3; have hw225_2 := hx225_2; have hw225_1 := hx225_1; have hw225_0 := hx225_0
                        cases e225
                        replace hx225_0 := (HB.out.cell (World.block_lt_of_cell? w _ hx225_0)).trans hx225_0
                        replace hx225_1 := (HB.out.cell (World.block_lt_of_cell? w _ hx225_1)).trans hx225_1
                        replace hx225_2 := (HB.out.cell (World.block_lt_of_cell? w _ hx225_2)).trans hx225_2
                        replace hx225_3 := (HB.out.cell (World.block_lt_of_cell? w _ hx225_3)).trans hx225_3
                        replace hx225_4 := (HB.out.cell (World.block_lt_of_cell? w _ hx225_4)).trans hx225_4
                        replace hx225_5 := (HB.out.cell (World.block_lt_of_cell? w _ hx225_5)).trans hx225_5
                        replace hx225_6 := (HB.out.cell (World.block_lt_of_cell? w _ hx225_6)).trans hx225_6
                        replace hx225_7 := (HB.out.cell (World.block_lt_of_cell? w _ hx225_7)).trans hx225_7
                        replace p225 := eq_true p225
                        replace q225 := eq_true q225
                        have p226 : 0 ≤ (a2 : Int) := of_decide_eq_true (by first | (with_reducible assumption) | assumption); have q226 : a2 < (l1.length : Int) := of_decide_eq_true (by first | (with_reducible assumption) | assumption)
                        obtain ⟨ad226, e226, hx226_0, hx226_1, hx226_2, hx226_3, hx226_4, hx226_5, hx226_6, hx226_7⟩ := at_T44 HR1.out a2 p226 q226
                        have hw226_7 := hx226_7; have hw226_6 := hx226_6; have hw226_5 := hx226_5; have hw226_4 := hx226_4; have hw226_3 := hx226_3; have hw226_2 := hx226_2; have hw226_1 := hx226_1; have hw226_0 := hx226_0
                        obtain rfl : ad225 = ad226 := (by injection e226)
                        replace hx226_0 := (HB.out.cell (World.block_lt_of_cell? w _ hx226_0)).trans hx226_0
                        replace hx226_1 := (HB.out.cell (World.block_lt_of_cell? w _ hx226_1)).trans hx226_1
                        replace hx226_2 := (HB.out.cell (World.block_lt_of_cell? w _ hx226_2)).trans hx226_2
                        replace hx226_3 := (HB.out.cell (World.block_lt_of_cell? w _ hx226_3)).trans hx226_3
                        replace hx226_4 := (HB.out.cell (World.block_lt_of_cell? w _ hx226_4)).trans hx226_4
                        replace hx226_5 := (HB.out.cell (World.block_lt_of_cell? w _ hx226_5)).trans hx226_5
                        replace hx226_6 := (HB.out.cell (World.block_lt_of_cell? w _ hx226_6)).trans hx226_6
                        replace hx226_7 := (HB.out.cell (World.block_lt_of_cell? w _ hx226_7)).trans hx226_7
                        replace p226 := eq_true p226
                        replace q226 := eq_true q226
                        have p28 : 0 ≤ (a2 : Int) := of_decide_eq_true (by first | (with_reducible assumption) | assumption); have q28 : (a2 : Int) < ((y222.length : Int) : Int) := of_decide_eq_true (by first | (with_reducible assumption) | assumption)
                        obtain ⟨go28, co28, eo28, gb28, gl28, cl28, HG28⟩ := Kd.R_form HO224.out (by omega)
                        (first | cases eo28 | (injection eo28 with ea_ en_ ec_; (first | subst ea_ | (injection ea_ with ea_; subst ea_)); subst ec_; clear en_))
                        have GB28 := Aside0.mk gb28; have GG28 := Aside0.mk HG28; clear gb28 gl28 HG28
                        obtain ⟨ce28, hcl28, hM28, hcc28, hfr28⟩ := Kd.R_elem HO224.out z44 (a2 : Int) p28 q28
                        obtain rfl := k44_openM hM28
                        have hx28_0 : World.cell? _ ⟨go28, (a2 : Int).toNat * 8, none⟩ = some (.int .u64 ((rd_T44 y222 a2).f0)) := hcc28 0 _ rfl; have hx28_1 : World.cell? _ ⟨go28, (a2 : Int).toNat * 8 + 1, none⟩ = some (.int .u64 ((rd_T44 y222 a2).f1)) := hcc28 1 _ rfl; have hx28_2 : World.cell? _ ⟨go28, (a2 : Int).toNat * 8 + 2, none⟩ = some (.int .u64 ((rd_T44 y222 a2).f2)) := hcc28 2 _ rfl; have hx28_3 : World.cell? _ ⟨go28, (a2 : Int).toNat * 8 + 3, none⟩ = some (.int .u64 ((rd_T44 y222 a2).f3)) := hcc28 3 _ rfl; have hx28_4 : World.cell? _ ⟨go28, (a2 : Int).toNat * 8 + 4, none⟩ = some (.int .u64 ((rd_T44 y222 a2).f4)) := hcc28 4 _ rfl; have hx28_5 : World.cell? _ ⟨go28, (a2 : Int).toNat * 8 + 5, none⟩ = some (.string ((rd_T44 y222 a2).f5)) := hcc28 5 _ rfl; have hx28_6 : World.cell? _ ⟨go28, (a2 : Int).toNat * 8 + 6, none⟩ = some (.string ((rd_T44 y222 a2).f6)) := hcc28 6 _ rfl; have hx28_7 : World.cell? _ ⟨go28, (a2 : Int).toNat * 8 + 7, none⟩ = some (.bool ((rd_T44 y222 a2).f7)) := hcc28 7 _ rfl; have hf28_0 : World.frozen? _ ⟨go28, (a2 : Int).toNat * 8, none⟩ = false := hfr28 0; have hf28_1 : World.frozen? _ ⟨go28, (a2 : Int).toNat * 8 + 1, none⟩ = false := hfr28 1; have hf28_2 : World.frozen? _ ⟨go28, (a2 : Int).toNat * 8 + 2, none⟩ = false := hfr28 2; have hf28_3 : World.frozen? _ ⟨go28, (a2 : Int).toNat * 8 + 3, none⟩ = false := hfr28 3; have hf28_4 : World.frozen? _ ⟨go28, (a2 : Int).toNat * 8 + 4, none⟩ = false := hfr28 4; have hf28_5 : World.frozen? _ ⟨go28, (a2 : Int).toNat * 8 + 5, none⟩ = false := hfr28 5; have hf28_6 : World.frozen? _ ⟨go28, (a2 : Int).toNat * 8 + 6, none⟩ = false := hfr28 6; have hf28_7 : World.frozen? _ ⟨go28, (a2 : Int).toNat * 8 + 7, none⟩ = false := hfr28 7; clear hcl28 hcc28 hfr28 hM28
                        replace p28 := eq_true p28
                        replace q28 := eq_true q28
                        obtain ⟨ce70, hcl70, hM70, hcc70, hfr70⟩ := Kd.R_elem HO224.out z44 (a2 : Int) (of_decide_eq_true (by first | (with_reducible assumption) | assumption)) (by have h_ : (a2 : Int) < ((y222.length : Int) : Int) := of_decide_eq_true (by first | (with_reducible assumption) | assumption); first | exact h_ | (have e_ := (Kd.R_reads' HO224.out).1; omega) | simpa using h_)
                        obtain rfl := k44_openM hM70
                        have HP70 := (Kd.R_seg HO224.out (a2 : Int) (of_decide_eq_true (by first | (with_reducible assumption) | assumption)) (by have h_ : (a2 : Int) < ((y222.length : Int) : Int) := of_decide_eq_true (by first | (with_reducible assumption) | assumption); first | exact h_ | (have e_ := (Kd.R_reads' HO224.out).1; omega) | simpa using h_) (seg := [.int .u64 ((rd_T44 l1 a3).f0), .int .u64 ((rd_T44 l1 a3).f1), .int .u64 ((rd_T44 l1 a3).f2), .int .u64 ((rd_T44 l1 a3).f3), .int .u64 ((rd_T44 l1 a3).f4), .string ((rd_T44 l1 a3).f5), .string ((rd_T44 l1 a3).f6), .bool ((rd_T44 l1 a3).f7)]) (j := 0) hcl70 hcc70 (show 8 ≤ 8 from by decide) (x' := (⟨(rd_T44 l1 a3).f0, (rd_T44 l1 a3).f1, (rd_T44 l1 a3).f2, (rd_T44 l1 a3).f3, (rd_T44 l1 a3).f4, (rd_T44 l1 a3).f5, (rd_T44 l1 a3).f6, (rd_T44 l1 a3).f7⟩ : S44)) (k44_mkM _ _ _ (⟨(rd_T44 l1 a3).f0, (rd_T44 l1 a3).f1, (rd_T44 l1 a3).f2, (rd_T44 l1 a3).f3, (rd_T44 l1 a3).f4, (rd_T44 l1 a3).f5, (rd_T44 l1 a3).f6, (rd_T44 l1 a3).f7⟩ : S44) ) (fun _ hk => hk)).1
                        rw [← Ny227.out] at HP70
                        have HQ70 := Aside0.mk HP70; clear hcl70 hcc70 hfr70 hM70 HP70; have p30 : 0 ≤ (a3 : Int) := of_decide_eq_true (by first | (with_reducible assumption) | assumption); have q30 : (a3 : Int) < ((y222.length : Int) : Int) := of_decide_eq_true (by first | (with_reducible assumption) | assumption)
                        obtain ⟨ce30, hcl30, hM30, hcc30, hfr30⟩ := Kd.R_elem HQ70.out z44 (a3 : Int) p30 q30
                        obtain rfl := k44_openM hM30
                        have hx30_0 : World.cell? _ ⟨go28, (a3 : Int).toNat * 8, none⟩ = some (.int .u64 ((rd_T44 y227 a3).f0)) := hcc30 0 _ rfl; have hx30_1 : World.cell? _ ⟨go28, (a3 : Int).toNat * 8 + 1, none⟩ = some (.int .u64 ((rd_T44 y227 a3).f1)) := hcc30 1 _ rfl; have hx30_2 : World.cell? _ ⟨go28, (a3 : Int).toNat * 8 + 2, none⟩ = some (.int .u64 ((rd_T44 y227 a3).f2)) := hcc30 2 _ rfl; have hx30_3 : World.cell? _ ⟨go28, (a3 : Int).toNat * 8 + 3, none⟩ = some (.int .u64 ((rd_T44 y227 a3).f3)) := hcc30 3 _ rfl; have hx30_4 : World.cell? _ ⟨go28, (a3 : Int).toNat * 8 + 4, none⟩ = some (.int .u64 ((rd_T44 y227 a3).f4)) := hcc30 4 _ rfl; have hx30_5 : World.cell? _ ⟨go28, (a3 : Int).toNat * 8 + 5, none⟩ = some (.string ((rd_T44 y227 a3).f5)) := hcc30 5 _ rfl; have hx30_6 : World.cell? _ ⟨go28, (a3 : Int).toNat * 8 + 6, none⟩ = some (.string ((rd_T44 y227 a3).f6)) := hcc30 6 _ rfl; have hx30_7 : World.cell? _ ⟨go28, (a3 : Int).toNat * 8 + 7, none⟩ = some (.bool ((rd_T44 y227 a3).f7)) := hcc30 7 _ rfl; have hf30_0 : World.frozen? _ ⟨go28, (a3 : Int).toNat * 8, none⟩ = false := hfr30 0; have hf30_1 : World.frozen? _ ⟨go28, (a3 : Int).toNat * 8 + 1, none⟩ = false := hfr30 1; have hf30_2 : World.frozen? _ ⟨go28, (a3 : Int).toNat * 8 + 2, none⟩ = false := hfr30 2; have hf30_3 : World.frozen? _ ⟨go28, (a3 : Int).toNat * 8 + 3, none⟩ = false := hfr30 3; have hf30_4 : World.frozen? _ ⟨go28, (a3 : Int).toNat * 8 + 4, none⟩ = false := hfr30 4; have hf30_5 : World.frozen? _ ⟨go28, (a3 : Int).toNat * 8 + 5, none⟩ = false := hfr30 5; have hf30_6 : World.frozen? _ ⟨go28, (a3 : Int).toNat * 8 + 6, none⟩ = false := hfr30 6; have hf30_7 : World.frozen? _ ⟨go28, (a3 : Int).toNat * 8 + 7, none⟩ = false := hfr30 7; clear hcl30 hcc30 hfr30 hM30
                        replace p30 := eq_true p30
                        replace q30 := eq_true q30
                        obtain ⟨ce71, hcl71, hM71, hcc71, hfr71⟩ := Kd.R_elem HQ70.out z44 (a3 : Int) (of_decide_eq_true (by first | (with_reducible assumption) | assumption)) (by have h_ : (a3 : Int) < ((y222.length : Int) : Int) := of_decide_eq_true (by first | (with_reducible assumption) | assumption); first | exact h_ | (have e_ := (Kd.R_reads' HO224.out).1; omega) | simpa using h_)
                        obtain rfl := k44_openM hM71
                        have HP71 := (Kd.R_seg HQ70.out (a3 : Int) (of_decide_eq_true (by first | (with_reducible assumption) | assumption)) (by have h_ : (a3 : Int) < ((y222.length : Int) : Int) := of_decide_eq_true (by first | (with_reducible assumption) | assumption); first | exact h_ | (have e_ := (Kd.R_reads' HO224.out).1; omega) | simpa using h_) (seg := [.int .u64 ((rd_T44 l1 a2).f0), .int .u64 ((rd_T44 l1 a2).f1), .int .u64 ((rd_T44 l1 a2).f2), .int .u64 ((rd_T44 l1 a2).f3), .int .u64 ((rd_T44 l1 a2).f4), .string ((rd_T44 l1 a2).f5), .string ((rd_T44 l1 a2).f6), .bool ((rd_T44 l1 a2).f7)]) (j := 0) hcl71 hcc71 (show 8 ≤ 8 from by decide) (x' := (⟨(rd_T44 l1 a2).f0, (rd_T44 l1 a2).f1, (rd_T44 l1 a2).f2, (rd_T44 l1 a2).f3, (rd_T44 l1 a2).f4, (rd_T44 l1 a2).f5, (rd_T44 l1 a2).f6, (rd_T44 l1 a2).f7⟩ : S44)) (k44_mkM _ _ _ (⟨(rd_T44 l1 a2).f0, (rd_T44 l1 a2).f1, (rd_T44 l1 a2).f2, (rd_T44 l1 a2).f3, (rd_T44 l1 a2).f4, (rd_T44 l1 a2).f5, (rd_T44 l1 a2).f6, (rd_T44 l1 a2).f7⟩ : S44) ) (fun _ hk => hk)).1
                        rw [← Ny228.out] at HP71
                        have HQ71 := Aside0.mk HP71; clear hcl71 hcc71 hfr71 hM71 HP71
                        refine start_ (n := 16) (S := fun w' => w'.cell? (ad225.add ((a3).toNat * 8)) = some (.int .u64 ((rd_T44 l1 a3).f0)) ∧ w'.cell? ⟨(ad225.add ((a3).toNat * 8)).block, (ad225.add ((a3).toNat * 8)).off + 1, none⟩ = some (.int .u64 ((rd_T44 l1 a3).f1)) ∧ w'.cell? ⟨(ad225.add ((a3).toNat * 8)).block, (ad225.add ((a3).toNat * 8)).off + 2, none⟩ = some (.int .u64 ((rd_T44 l1 a3).f2)) ∧ w'.cell? ⟨(ad225.add ((a3).toNat * 8)).block, (ad225.add ((a3).toNat * 8)).off + 3, none⟩ = some (.int .u64 ((rd_T44 l1 a3).f3)) ∧ w'.cell? ⟨(ad225.add ((a3).toNat * 8)).block, (ad225.add ((a3).toNat * 8)).off + 4, none⟩ = some (.int .u64 ((rd_T44 l1 a3).f4)) ∧ w'.cell? ⟨(ad225.add ((a3).toNat * 8)).block, (ad225.add ((a3).toNat * 8)).off + 5, none⟩ = some (.string ((rd_T44 l1 a3).f5)) ∧ w'.cell? ⟨(ad225.add ((a3).toNat * 8)).block, (ad225.add ((a3).toNat * 8)).off + 6, none⟩ = some (.string ((rd_T44 l1 a3).f6)) ∧ w'.cell? ⟨(ad225.add ((a3).toNat * 8)).block, (ad225.add ((a3).toNat * 8)).off + 7, none⟩ = some (.bool ((rd_T44 l1 a3).f7)) ∧ w'.cell? (ad225.add ((a2).toNat * 8)) = some (.int .u64 ((rd_T44 l1 a2).f0)) ∧ w'.cell? ⟨(ad225.add ((a2).toNat * 8)).block, (ad225.add ((a2).toNat * 8)).off + 1, none⟩ = some (.int .u64 ((rd_T44 l1 a2).f1)) ∧ w'.cell? ⟨(ad225.add ((a2).toNat * 8)).block, (ad225.add ((a2).toNat * 8)).off + 2, none⟩ = some (.int .u64 ((rd_T44 l1 a2).f2)) ∧ w'.cell? ⟨(ad225.add ((a2).toNat * 8)).block, (ad225.add ((a2).toNat * 8)).off + 3, none⟩ = some (.int .u64 ((rd_T44 l1 a2).f3)) ∧ w'.cell? ⟨(ad225.add ((a2).toNat * 8)).block, (ad225.add ((a2).toNat * 8)).off + 4, none⟩ = some (.int .u64 ((rd_T44 l1 a2).f4)) ∧ w'.cell? ⟨(ad225.add ((a2).toNat * 8)).block, (ad225.add ((a2).toNat * 8)).off + 5, none⟩ = some (.string ((rd_T44 l1 a2).f5)) ∧ w'.cell? ⟨(ad225.add ((a2).toNat * 8)).block, (ad225.add ((a2).toNat * 8)).off + 6, none⟩ = some (.string ((rd_T44 l1 a2).f6)) ∧ w'.cell? ⟨(ad225.add ((a2).toNat * 8)).block, (ad225.add ((a2).toNat * 8)).off + 7, none⟩ = some (.bool ((rd_T44 l1 a2).f7))) (ds := [13, 15]) #[false, false, false, false, false, false, false, false, false, false, false, false, false, false, false, false] (by kernel_rfl) rfl rfl ⟨((HB.out.cell (World.block_lt_of_cell? w _ hw225_0)).trans hw225_0), ((HB.out.cell (World.block_lt_of_cell? w _ hw225_1)).trans hw225_1), ((HB.out.cell (World.block_lt_of_cell? w _ hw225_2)).trans hw225_2), ((HB.out.cell (World.block_lt_of_cell? w _ hw225_3)).trans hw225_3), ((HB.out.cell (World.block_lt_of_cell? w _ hw225_4)).trans hw225_4), ((HB.out.cell (World.block_lt_of_cell? w _ hw225_5)).trans hw225_5), ((HB.out.cell (World.block_lt_of_cell? w _ hw225_6)).trans hw225_6), ((HB.out.cell (World.block_lt_of_cell? w _ hw225_7)).trans hw225_7), ((HB.out.cell (World.block_lt_of_cell? w _ hw226_0)).trans hw226_0), ((HB.out.cell (World.block_lt_of_cell? w _ hw226_1)).trans hw226_1), ((HB.out.cell (World.block_lt_of_cell? w _ hw226_2)).trans hw226_2), ((HB.out.cell (World.block_lt_of_cell? w _ hw226_3)).trans hw226_3), ((HB.out.cell (World.block_lt_of_cell? w _ hw226_4)).trans hw226_4), ((HB.out.cell (World.block_lt_of_cell? w _ hw226_5)).trans hw226_5), ((HB.out.cell (World.block_lt_of_cell? w _ hw226_6)).trans hw226_6), ((HB.out.cell (World.block_lt_of_cell? w _ hw226_7)).trans hw226_7)⟩ (fun hHeld => ?_); refine with_tabW winnowlaw04_PolicyOrder.tab5 winnowlaw04_PolicyOrder.bits5 (fun HT_ HW_ => ?_)
                        generalize w68.drew = w69 at HO218 HO224 HB GG28 HQ70 HQ71 hf28_0 hf28_1 hf28_2 hf28_3 hf28_4 hf28_5 hf28_6 hf28_7 hf30_0 hf30_1 hf30_2 hf30_3 hf30_4 hf30_5 hf30_6 hf30_7 hx225_0 hx225_1 hx225_2 hx225_3 hx225_4 hx225_5 hx225_6 hx225_7 hx226_0 hx226_1 hx226_2 hx226_3 hx226_4 hx226_5 hx226_6 hx226_7 hx28_0 hx28_1 hx28_2 hx28_3 hx28_4 hx28_5 hx28_6 hx28_7 hx30_0 hx30_1 hx30_2 hx30_3 hx30_4 hx30_5 hx30_6 hx30_7 hHeld ⊢
                        refine pure_ (i := 0) (N := some 47) (v := ?_) (a' := ?_) #[true, false, false, false, false, false, false, false, false, false, false, false, false, false, false, false] rfl rfl (any_of HT_.out (by kernel_rfl)) (fun _ _ _ h => h) (Or.inl ⟨by rfl, ?_⟩) ?_ ?_
                        rotate_left
                        · intro w'; go_simp; with_reducible rfl
                        rotate_left
                        · simp only [Act.put, List.setIfInBounds_toArray, List.set_cons_zero, List.set_cons_succ, i64_w, i32_w]; rfl
                        refine pure_ (i := 1) (N := some 48) (v := ?_) (a' := ?_) #[true, true, false, false, false, false, false, false, false, false, false, false, false, false, false, false] rfl rfl (any_of HT_.out (by kernel_rfl)) (fun _ _ _ h => h) (Or.inl ⟨by rfl, ?_⟩) ?_ ?_
                        rotate_left
                        · intro w'; go_simp; with_reducible rfl
                        rotate_left
                        · simp only [Act.put, List.setIfInBounds_toArray, List.set_cons_zero, List.set_cons_succ, i64_w, i32_w]; rfl
                        refine pure_ (i := 2) (N := some 49) (v := ?_) (a' := ?_) #[true, true, true, false, false, false, false, false, false, false, false, false, false, false, false, false] rfl rfl (any_of HT_.out (by kernel_rfl)) (fun _ _ _ h => h) (Or.inl ⟨by rfl, ?_⟩) ?_ ?_
                        rotate_left
                        · intro w'; go_simp; with_reducible rfl
                        rotate_left
                        · simp only [Act.put, List.setIfInBounds_toArray, List.set_cons_zero, List.set_cons_succ, i64_w, i32_w]; rfl
                        refine pure_ (i := 3) (N := some 50) (v := ?_) (a' := ?_) #[true, true, true, true, false, false, false, false, false, false, false, false, false, false, false, false] rfl rfl (any_of HT_.out (by kernel_rfl)) (fun _ _ _ h => h) (Or.inl ⟨by rfl, ?_⟩) ?_ ?_
                        rotate_left
                        · intro w'; go_simp; with_reducible rfl
                        rotate_left
                        · simp only [Act.put, List.setIfInBounds_toArray, List.set_cons_zero, List.set_cons_succ, i64_w, i32_w]; rfl
                        refine pure_ (i := 4) (N := some 51) (v := ?_) (a' := ?_) #[true, true, true, true, true, false, false, false, false, false, false, false, false, false, false, false] rfl rfl (any_of HT_.out (by kernel_rfl)) (fun _ _ _ h => h) (Or.inl ⟨by rfl, ?_⟩) ?_ ?_
                        rotate_left
                        · intro w'; go_simp; with_reducible rfl
                        rotate_left
                        · simp only [Act.put, List.setIfInBounds_toArray, List.set_cons_zero, List.set_cons_succ, i64_w, i32_w]; rfl
                        refine pure_ (i := 5) (N := some 52) (v := ?_) (a' := ?_) #[true, true, true, true, true, true, false, false, false, false, false, false, false, false, false, false] rfl rfl (any_of HT_.out (by kernel_rfl)) (fun _ _ _ h => h) (Or.inl ⟨by rfl, ?_⟩) ?_ ?_
                        rotate_left
                        · intro w'; go_simp; with_reducible rfl
                        rotate_left
                        · simp only [Act.put, List.setIfInBounds_toArray, List.set_cons_zero, List.set_cons_succ, i64_w, i32_w]; rfl
                        refine pure_ (i := 6) (N := some 53) (v := ?_) (a' := ?_) #[true, true, true, true, true, true, true, false, false, false, false, false, false, false, false, false] rfl rfl (any_of HT_.out (by kernel_rfl)) (fun _ _ _ h => h) (Or.inl ⟨by rfl, ?_⟩) ?_ ?_
                        rotate_left
                        · intro w'; go_simp; with_reducible rfl
                        rotate_left
                        · simp only [Act.put, List.setIfInBounds_toArray, List.set_cons_zero, List.set_cons_succ, i64_w, i32_w]; rfl
                        refine pure_ (i := 8) (N := some 55) (v := ?_) (a' := ?_) #[true, true, true, true, true, true, true, false, true, false, false, false, false, false, false, false] rfl rfl (any_of HT_.out (by kernel_rfl)) (fun _ _ _ h => h) (Or.inl ⟨by rfl, ?_⟩) ?_ ?_
                        rotate_left
                        · intro w'; go_simp; with_reducible rfl
                        rotate_left
                        · simp only [Act.put, List.setIfInBounds_toArray, List.set_cons_zero, List.set_cons_succ, i64_w, i32_w]; rfl
                        refine pure_ (i := 9) (N := some 56) (v := ?_) (a' := ?_) #[true, true, true, true, true, true, true, false, true, true, false, false, false, false, false, false] rfl rfl (any_of HT_.out (by kernel_rfl)) (fun _ _ _ h => h) (Or.inl ⟨by rfl, ?_⟩) ?_ ?_
                        rotate_left
                        · intro w'; go_simp; with_reducible rfl
                        rotate_left
                        · simp only [Act.put, List.setIfInBounds_toArray, List.set_cons_zero, List.set_cons_succ, i64_w, i32_w]; rfl
                        refine pure_ (i := 10) (N := some 57) (v := ?_) (a' := ?_) #[true, true, true, true, true, true, true, false, true, true, true, false, false, false, false, false] rfl rfl (any_of HT_.out (by kernel_rfl)) (fun _ _ _ h => h) (Or.inl ⟨by rfl, ?_⟩) ?_ ?_
                        rotate_left
                        · intro w'; go_simp; with_reducible rfl
                        rotate_left
                        · simp only [Act.put, List.setIfInBounds_toArray, List.set_cons_zero, List.set_cons_succ, i64_w, i32_w]; rfl
                        refine take_ (i := 7) (N := some 54) (v := ?_) (a' := ?_) #[true, true, true, true, true, true, true, true, true, true, true, false, false, false, false, false] rfl rfl (take_ofW HT_.out HW_.out (by kernel_rfl)) (fun _ _ _ h => h) (Or.inl ⟨by rfl, ?_⟩) hHeld ?_ ?_
                        rotate_left
                        · rintro w' ⟨s0, s1, s2, s3, s4, s5, s6, s7, s8, s9, s10, s11, s12, s13, s14, s15⟩; go_simp; with_reducible rfl
                        rotate_left
                        · simp only [Act.put, List.setIfInBounds_toArray, List.set_cons_zero, List.set_cons_succ, i64_w, i32_w]; rfl
                        refine take_ (i := 11) (N := some 58) (v := ?_) (a' := ?_) #[true, true, true, true, true, true, true, true, true, true, true, true, false, false, false, false] rfl rfl (take_ofW HT_.out HW_.out (by kernel_rfl)) (fun _ _ _ h => h) (Or.inl ⟨by rfl, ?_⟩) hHeld ?_ ?_
                        rotate_left
                        · rintro w' ⟨s0, s1, s2, s3, s4, s5, s6, s7, s8, s9, s10, s11, s12, s13, s14, s15⟩; go_simp; with_reducible rfl
                        rotate_left
                        · simp only [Act.put, List.setIfInBounds_toArray, List.set_cons_zero, List.set_cons_succ, i64_w, i32_w]; rfl
                        refine pure_ (i := 12) (N := some 59) (v := ?_) (a' := ?_) #[true, true, true, true, true, true, true, true, true, true, true, true, true, false, false, false] rfl rfl (any_of HT_.out (by kernel_rfl)) (fun _ _ _ h => h) (Or.inl ⟨by rfl, ?_⟩) ?_ ?_
                        rotate_left
                        · intro w'; go_simp; with_reducible rfl
                        rotate_left
                        · simp only [Act.put, List.setIfInBounds_toArray, List.set_cons_zero, List.set_cons_succ, i64_w, i32_w]; rfl
                        refine last_ (i := 13) (N := none) #[true, true, true, true, true, true, true, true, true, true, true, true, true, true, false, false] rfl rfl (one_of HT_.out (by kernel_rfl)) (by decide) (fun K hK => ?_)
                        refine skip_ (w1 := (w69.setCells go28 ((a2 : Int).toNat * k44.sz + 0) [.int .u64 ((rd_T44 l1 a3).f0), .int .u64 ((rd_T44 l1 a3).f1), .int .u64 ((rd_T44 l1 a3).f2), .int .u64 ((rd_T44 l1 a3).f3), .int .u64 ((rd_T44 l1 a3).f4), .string ((rd_T44 l1 a3).f5), .string ((rd_T44 l1 a3).f6), .bool ((rd_T44 l1 a3).f7)])) (by rfl) rfl ?_ ?_
                        · go_simp; rfl
                        refine hK.out _ _ ?_
                        clear hK K; have nB_ := Aside0.mk (Hand.below_setCells GB28.out [.int .u64 ((rd_T44 l1 a3).f0), .int .u64 ((rd_T44 l1 a3).f1), .int .u64 ((rd_T44 l1 a3).f2), .int .u64 ((rd_T44 l1 a3).f3), .int .u64 ((rd_T44 l1 a3).f4), .string ((rd_T44 l1 a3).f5), .string ((rd_T44 l1 a3).f6), .bool ((rd_T44 l1 a3).f7)] ((a2 : Int).toNat * k44.sz + 0) HB.out)
                        have nR_ := Aside0.mk (R_far_cells (fun _ hk => hk.2) [.int .u64 ((rd_T44 l1 a3).f0), .int .u64 ((rd_T44 l1 a3).f1), .int .u64 ((rd_T44 l1 a3).f2), .int .u64 ((rd_T44 l1 a3).f3), .int .u64 ((rd_T44 l1 a3).f4), .string ((rd_T44 l1 a3).f5), .string ((rd_T44 l1 a3).f6), .bool ((rd_T44 l1 a3).f7)] ((a2 : Int).toNat * k44.sz + 0) (Kd.R_types HO218.out GG28.out (by decide)))
                        clear HB HO218 HO224 GG28; clear hHeld; clear hx28_0 hx28_1 hx28_2 hx28_3 hx28_4 hx28_5 hx28_6 hx28_7; clear hf28_0 hf28_1 hf28_2 hf28_3 hf28_4 hf28_5 hf28_6 hf28_7; clear hx30_0 hx30_1 hx30_2 hx30_3 hx30_4 hx30_5 hx30_6 hx30_7; clear hf30_0 hf30_1 hf30_2 hf30_3 hf30_4 hf30_5 hf30_6 hf30_7; clear hx225_0 hx225_1 hx225_2 hx225_3 hx225_4 hx225_5 hx225_6 hx225_7; clear hx226_0 hx226_1 hx226_2 hx226_3 hx226_4 hx226_5 hx226_6 hx226_7; have HB := nB_; have HO218 := nR_; clear nB_ nR_
                        generalize (w69.setCells go28 ((a2 : Int).toNat * k44.sz + 0) [.int .u64 ((rd_T44 l1 a3).f0), .int .u64 ((rd_T44 l1 a3).f1), .int .u64 ((rd_T44 l1 a3).f2), .int .u64 ((rd_T44 l1 a3).f3), .int .u64 ((rd_T44 l1 a3).f4), .string ((rd_T44 l1 a3).f5), .string ((rd_T44 l1 a3).f6), .bool ((rd_T44 l1 a3).f7)]) = wm at HB HO218 HQ70 HQ71 ⊢
                        refine pure_ (i := 14) (N := some 60) (v := ?_) (a' := ?_) #[true, true, true, true, true, true, true, true, true, true, true, true, true, true, true, false] rfl rfl (any_of HT_.out (by kernel_rfl)) (fun _ _ _ h => h) (Or.inl ⟨by rfl, ?_⟩) ?_ ?_
                        rotate_left
                        · intro w'; go_simp; with_reducible rfl
                        rotate_left
                        · simp only [Act.put, List.setIfInBounds_toArray, List.set_cons_zero, List.set_cons_succ, i64_w, i32_w]; rfl
                        obtain ⟨ce41, hcl41, hM41, hcc41, hfr41⟩ := Kd.R_elem HQ70.out z44 (a3 : Int) (of_decide_eq_true (by first | (with_reducible assumption) | assumption)) (by have h_ : (a3 : Int) < ((y222.length : Int) : Int) := of_decide_eq_true (by first | (with_reducible assumption) | assumption); first | exact h_ | (have e_ := (Kd.R_reads' HQ70.out).1; omega) | simpa using h_)
                        obtain rfl := k44_openM hM41
                        have hg_0 : World.frozen? _ ⟨go28, (a3 : Int).toNat * 8, none⟩ = false := hfr41 0; have hu_0 : World.cell? _ ⟨go28, (a3 : Int).toNat * 8, none⟩ = some _ := hcc41 0 _ rfl; have hg_1 : World.frozen? _ ⟨go28, (a3 : Int).toNat * 8 + 1, none⟩ = false := hfr41 1; have hu_1 : World.cell? _ ⟨go28, (a3 : Int).toNat * 8 + 1, none⟩ = some _ := hcc41 1 _ rfl; have hg_2 : World.frozen? _ ⟨go28, (a3 : Int).toNat * 8 + 2, none⟩ = false := hfr41 2; have hu_2 : World.cell? _ ⟨go28, (a3 : Int).toNat * 8 + 2, none⟩ = some _ := hcc41 2 _ rfl; have hg_3 : World.frozen? _ ⟨go28, (a3 : Int).toNat * 8 + 3, none⟩ = false := hfr41 3; have hu_3 : World.cell? _ ⟨go28, (a3 : Int).toNat * 8 + 3, none⟩ = some _ := hcc41 3 _ rfl; have hg_4 : World.frozen? _ ⟨go28, (a3 : Int).toNat * 8 + 4, none⟩ = false := hfr41 4; have hu_4 : World.cell? _ ⟨go28, (a3 : Int).toNat * 8 + 4, none⟩ = some _ := hcc41 4 _ rfl; have hg_5 : World.frozen? _ ⟨go28, (a3 : Int).toNat * 8 + 5, none⟩ = false := hfr41 5; have hu_5 : World.cell? _ ⟨go28, (a3 : Int).toNat * 8 + 5, none⟩ = some _ := hcc41 5 _ rfl; have hg_6 : World.frozen? _ ⟨go28, (a3 : Int).toNat * 8 + 6, none⟩ = false := hfr41 6; have hu_6 : World.cell? _ ⟨go28, (a3 : Int).toNat * 8 + 6, none⟩ = some _ := hcc41 6 _ rfl; have hg_7 : World.frozen? _ ⟨go28, (a3 : Int).toNat * 8 + 7, none⟩ = false := hfr41 7; have hu_7 : World.cell? _ ⟨go28, (a3 : Int).toNat * 8 + 7, none⟩ = some _ := hcc41 7 _ rfl; clear hcl41 hcc41 hfr41 hM41
                        refine lastSkip_ (i := 15) (w1 := (wm.setCells go28 ((a3 : Int).toNat * k44.sz + 0) [.int .u64 ((rd_T44 l1 a2).f0), .int .u64 ((rd_T44 l1 a2).f1), .int .u64 ((rd_T44 l1 a2).f2), .int .u64 ((rd_T44 l1 a2).f3), .int .u64 ((rd_T44 l1 a2).f4), .string ((rd_T44 l1 a2).f5), .string ((rd_T44 l1 a2).f6), .bool ((rd_T44 l1 a2).f7)])) #[true, true, true, true, true, true, true, true, true, true, true, true, true, true, true, true] rfl rfl (one_of HT_.out (by kernel_rfl)) (by decide) (by rfl) ?_ ?_
                        · go_simp; rfl
                        have nB_ := Aside0.mk (Hand.below_setCells GB28.out [.int .u64 ((rd_T44 l1 a2).f0), .int .u64 ((rd_T44 l1 a2).f1), .int .u64 ((rd_T44 l1 a2).f2), .int .u64 ((rd_T44 l1 a2).f3), .int .u64 ((rd_T44 l1 a2).f4), .string ((rd_T44 l1 a2).f5), .string ((rd_T44 l1 a2).f6), .bool ((rd_T44 l1 a2).f7)] ((a3 : Int).toNat * k44.sz + 0) HB.out)
                        have nR_ := Aside0.mk (Kd.R_mono (R_far_cells (fun _ hk => hk.2) [.int .u64 ((rd_T44 l1 a2).f0), .int .u64 ((rd_T44 l1 a2).f1), .int .u64 ((rd_T44 l1 a2).f2), .int .u64 ((rd_T44 l1 a2).f3), .int .u64 ((rd_T44 l1 a2).f4), .string ((rd_T44 l1 a2).f5), .string ((rd_T44 l1 a2).f6), .bool ((rd_T44 l1 a2).f7)] ((a3 : Int).toNat * k44.sz + 0) HO218.out) (ok' := fun _ => True) (fun _ _ => trivial))
                        have HO224 := HQ71; clear HB HO218 HQ70 hg_0 hu_0 hg_1 hu_1 hg_2 hu_2 hg_3 hu_3 hg_4 hu_4 hg_5 hu_5 hg_6 hu_6 hg_7 hu_7; have HB := nB_; have HO218 := nR_; clear nB_ nR_
                        generalize (wm.setCells go28 ((a3 : Int).toNat * k44.sz + 0) [.int .u64 ((rd_T44 l1 a2).f0), .int .u64 ((rd_T44 l1 a2).f1), .int .u64 ((rd_T44 l1 a2).f2), .int .u64 ((rd_T44 l1 a2).f3), .int .u64 ((rd_T44 l1 a2).f4), .string ((rd_T44 l1 a2).f5), .string ((rd_T44 l1 a2).f6), .bool ((rd_T44 l1 a2).f7)]) = wn at HB HO218 HO224 HQ71 ⊢
                        refine done_ (done_of HT_.out (by kernel_rfl)) ?_
                        obtain ⟨Ao72, co72, eo72⟩ := Kd.R_slice HO218.out
                        subst eo72
                        try go_wp2_with (first | ((with_reducible refine gate_callee (f := 22) rfl ?_); refine goesL_ (some 63) rfl rfl Tryd.func22 (by kernel_rfl) rfl #[.slice Ao72 t216.length co72, .slice (some ad225) l1.length c1] rfl (by (try simp only [List.map_toArray, List.map_cons, List.map_nil]); first | done | rfl | (simp only [List.length_drop, List.length_take]; rfl)) ?_; (with_reducible refine (policy_Eval.calls _ _ t216 _ _ l1 t229 _ ?side1 ?side2 ?side3 ?side4 A31.out).mono ?_); (case side1 => refine (Kd.R_reads' (e := 37) (base := w.heap.size) (ok := fun k_ => True) (n := t216.length) (c := co72) ?_).2.2; exact (by (with_reducible repeat (first | apply Kd.R_alloc | apply Kd.R_drewN | apply Kd.R_drew)); exact HO218.out)); (case side2 => exact (Kd.R_reads' HO218.out).2.1); (case side3 => exact Kd.C_below HR1.out (by repeat (first | (with_reducible first | exact HB.out | apply below_alloc | apply pw_below_drewN | apply below_drew1) | exact HB.out))); (case side4 => exact HC1.out); rintro e w73 ⟨rfl, hb⟩; refine ⟨_, rfl, ?_⟩; have n0_ := Aside0.mk (Kd.R_below (by (with_reducible repeat (first | apply Kd.R_alloc | apply Kd.R_drewN | apply Kd.R_drew)); exact HO218.out) hb); have n1_ := Aside0.mk (Kd.R_below (by (with_reducible repeat (first | apply Kd.R_alloc | apply Kd.R_drewN | apply Kd.R_drew)); exact HQ71.out) hb); have n2_ := Aside0.mk (below_step (by repeat (first | (with_reducible first | exact HB.out | apply below_alloc | apply pw_below_drewN | apply below_drew1) | exact HB.out)) hb); clear HO218; clear HO224; clear HB; have HO218 := n0_; have HO224 := n1_; have HB := n2_; clear n0_ n1_ n2_; (try clear hb); (try clear hb2); (try clear hk); (try clear hi)) | ((with_reducible refine gate_callee (f := 22) rfl ?_); refine goesL_ (some 66) rfl rfl Tryd.func22 (by kernel_rfl) rfl #[.slice Ao72 t216.length co72, .slice (some ⟨go28, 0, none⟩) y228.length co28] rfl (by (try simp only [List.map_toArray, List.map_cons, List.map_nil]); first | done | (rw [show y228.length = y222.length from (Kd.R_reads' HO224.out).1.symm] <;> rfl) | rfl | (simp only [List.length_drop, List.length_take]; rfl)) ?_; (with_reducible refine (policy_Eval.calls _ _ t216 _ _ y228 t230 _ ?side1 ?side2 ?side3 ?side4 A32.out).mono ?_); (case side1 => repeat (first | exact (Kd.R_reads' HO218.out).2.2 | (with_reducible refine Kd.C_alloc ?_ _) | (with_reducible refine Kd.C_drewN ?_ _) | (with_reducible refine Kd.C_drew ?_))); (case side2 => exact (Kd.R_reads' HO218.out).2.1); (case side3 => repeat (first | exact (Kd.R_reads' HO224.out).2.2 | (with_reducible refine Kd.C_alloc ?_ _) | (with_reducible refine Kd.C_drewN ?_ _) | (with_reducible refine Kd.C_drew ?_))); (case side4 => rw [show y228.length = y222.length from (Kd.R_reads' HO224.out).1.symm]; exact (Kd.R_reads' HO224.out).2.1); rintro e w74 ⟨rfl, hb⟩; refine ⟨_, rfl, ?_⟩; have n0_ := Aside0.mk (Kd.R_below (by (with_reducible repeat (first | apply Kd.R_alloc | apply Kd.R_drewN | apply Kd.R_drew)); exact HO218.out) hb); have n1_ := Aside0.mk (Kd.R_below (by (with_reducible repeat (first | apply Kd.R_alloc | apply Kd.R_drewN | apply Kd.R_drew)); exact HO224.out) hb); have n2_ := Aside0.mk (below_step (by repeat (first | (with_reducible first | exact HB.out | apply below_alloc | apply pw_below_drewN | apply below_drew1) | exact HB.out)) hb); clear HO218; clear HO224; clear HB; have HO218 := n0_; have HO224 := n1_; have HB := n2_; clear n0_ n1_ n2_; (try clear hb); (try clear hb2); (try clear hk); (try clear hi)))
                        go_ret
                        exact ⟨by first | rfl | (simp [errW_none, errW_some] <;> rfl) | (simp [*, errW_none, errW_some] <;> rfl), by repeat (first | (with_reducible first | exact HB.out | apply below_alloc | apply pw_below_drewN | apply below_drew1) | exact HB.out)⟩
                    · rw [if_neg c29] at H
                      exact absurd H (by simp)
                  · rw [if_neg c27] at H
                    exact absurd H (by simp)
                · rw [if_neg c26] at H
                  exact absurd H (by simp)
              · rw [if_neg c25] at H
                exact absurd H (by simp)
            · rw [if_neg c24] at H
              exact absurd H (by simp)
          · rw [if_neg c23] at H
            exact absurd H (by simp)
        · rw [if_neg c22] at H
          exact absurd H (by simp)

end Go.Proofs.YtemepnpfhoidhaaDoor.PAll
