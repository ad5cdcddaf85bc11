-- Laid by the kit's print.py, called for several functions at once (our call).
import Derived.Test.YtigcdbeaachkoaaPAllx0
import Derived.Test.YtigcdbeaachkoaaPAllx3
import Derived.Test.YtigcdbeaachkoaaPAllx6
namespace Go.Proofs.Ytigcdbeaachkoaa.PAll
open Go.RowKit Go.Proofs.YtigcdbeaachkoaaW.PrintWords Go.Proofs.YtigcdbeaachkoaaW.PrintLast Go.Proofs.YtigcdbeaachkoaaW.PrintMore
attribute [local go_sem] max2_int min2_int max_two min_two max_three min_three max_four min_four   -- for this text's walks alone
set_option linter.unusedVariables false
set_option linter.unusedSimpArgs false

/-! ### api_Span_52: function 52 -/
mutual
def api_Span_52.l0 : Nat → List (S28) → Int → Int → Int → Option ((List (S28)))
  | 0, _, _, _, _ => none
  | k + 1, x0, x1, x10, x11 => if x10 < x11 then (if 0 ≤ (wrap64 ((IntKind.u64.wrap (wrap64 (x10 + x11))) / 2)) then (if (wrap64 ((IntKind.u64.wrap (wrap64 (x10 + x11))) / 2)) < (x0.length : Int) then (if 0 ≤ x1 then (if x1 < (x0.length : Int) then ((span_order.f k ((rd_T28 x0 (wrap64 ((IntKind.u64.wrap (wrap64 (x10 + x11))) / 2))).f0) ((rd_T28 x0 (wrap64 ((IntKind.u64.wrap (wrap64 (x10 + x11))) / 2))).f1) ((rd_T28 x0 (wrap64 ((IntKind.u64.wrap (wrap64 (x10 + x11))) / 2))).f2) ((rd_T28 x0 (wrap64 ((IntKind.u64.wrap (wrap64 (x10 + x11))) / 2))).f3) ((rd_T28 x0 (wrap64 ((IntKind.u64.wrap (wrap64 (x10 + x11))) / 2))).f4) ((rd_T28 x0 (wrap64 ((IntKind.u64.wrap (wrap64 (x10 + x11))) / 2))).f5) ((rd_T28 x0 (wrap64 ((IntKind.u64.wrap (wrap64 (x10 + x11))) / 2))).f6) ((rd_T28 x0 (wrap64 ((IntKind.u64.wrap (wrap64 (x10 + x11))) / 2))).f7) ((rd_T28 x0 x1).f0) ((rd_T28 x0 x1).f1) ((rd_T28 x0 x1).f2) ((rd_T28 x0 x1).f3) ((rd_T28 x0 x1).f4) ((rd_T28 x0 x1).f5) ((rd_T28 x0 x1).f6) ((rd_T28 x0 x1).f7)).bind fun t158 => (if t158 < 0 then (api_Span_52.l0 k x0 x1 (wrap64 ((wrap64 ((IntKind.u64.wrap (wrap64 (x10 + x11))) / 2)) + 1)) x11) else (api_Span_52.l0 k x0 x1 x10 (wrap64 ((IntKind.u64.wrap (wrap64 (x10 + x11))) / 2))))) else (none)) else (none)) else (none)) else (none)) else (api_Span_52.l1 k x0 x10 x1)
def api_Span_52.l1 : Nat → List (S28) → Int → Int → Option ((List (S28)))
  | 0, _, _, _ => none
  | k + 1, x0, x10, x13 => if x13 < (wrap64 (x10 - 1)) then (if 0 ≤ (wrap64 (x13 + 1)) then (if (wrap64 (x13 + 1)) < (x0.length : Int) then (if 0 ≤ x13 then (if x13 < (x0.length : Int) then (api_Span_52.l1 k ((x0.set (x13 : Int).toNat (⟨(rd_T28 x0 (wrap64 (x13 + 1))).f0, (rd_T28 x0 (wrap64 (x13 + 1))).f1, (rd_T28 x0 (wrap64 (x13 + 1))).f2, (rd_T28 x0 (wrap64 (x13 + 1))).f3, (rd_T28 x0 (wrap64 (x13 + 1))).f4, (rd_T28 x0 (wrap64 (x13 + 1))).f5, (rd_T28 x0 (wrap64 (x13 + 1))).f6, (rd_T28 x0 (wrap64 (x13 + 1))).f7⟩ : S28)).set ((wrap64 (x13 + 1)) : Int).toNat (⟨(rd_T28 x0 x13).f0, (rd_T28 x0 x13).f1, (rd_T28 x0 x13).f2, (rd_T28 x0 x13).f3, (rd_T28 x0 x13).f4, (rd_T28 x0 x13).f5, (rd_T28 x0 x13).f6, (rd_T28 x0 x13).f7⟩ : S28)) x10 (wrap64 (x13 + 1))) else (none)) else (none)) else (none)) else (none)) else (some x0)
def api_Span_52.l2 : Nat → List (S28) → Int → Int → Int → Option ((List (S28)))
  | 0, _, _, _, _ => none
  | k + 1, x0, x2, x14, x15 => if x14 < x15 then (if 0 ≤ x2 then (if x2 < (x0.length : Int) then (if 0 ≤ (wrap64 ((IntKind.u64.wrap (wrap64 (x14 + x15))) / 2)) then (if (wrap64 ((IntKind.u64.wrap (wrap64 (x14 + x15))) / 2)) < (x0.length : Int) then ((span_order.f k ((rd_T28 x0 x2).f0) ((rd_T28 x0 x2).f1) ((rd_T28 x0 x2).f2) ((rd_T28 x0 x2).f3) ((rd_T28 x0 x2).f4) ((rd_T28 x0 x2).f5) ((rd_T28 x0 x2).f6) ((rd_T28 x0 x2).f7) ((rd_T28 x0 (wrap64 ((IntKind.u64.wrap (wrap64 (x14 + x15))) / 2))).f0) ((rd_T28 x0 (wrap64 ((IntKind.u64.wrap (wrap64 (x14 + x15))) / 2))).f1) ((rd_T28 x0 (wrap64 ((IntKind.u64.wrap (wrap64 (x14 + x15))) / 2))).f2) ((rd_T28 x0 (wrap64 ((IntKind.u64.wrap (wrap64 (x14 + x15))) / 2))).f3) ((rd_T28 x0 (wrap64 ((IntKind.u64.wrap (wrap64 (x14 + x15))) / 2))).f4) ((rd_T28 x0 (wrap64 ((IntKind.u64.wrap (wrap64 (x14 + x15))) / 2))).f5) ((rd_T28 x0 (wrap64 ((IntKind.u64.wrap (wrap64 (x14 + x15))) / 2))).f6) ((rd_T28 x0 (wrap64 ((IntKind.u64.wrap (wrap64 (x14 + x15))) / 2))).f7)).bind fun t165 => (if t165 < 0 then (api_Span_52.l2 k x0 x2 x14 (wrap64 ((IntKind.u64.wrap (wrap64 (x14 + x15))) / 2))) else (api_Span_52.l2 k x0 x2 (wrap64 ((wrap64 ((IntKind.u64.wrap (wrap64 (x14 + x15))) / 2)) + 1)) x15))) else (none)) else (none)) else (none)) else (none)) else (api_Span_52.l3 k x0 x14 x2)
def api_Span_52.l3 : Nat → List (S28) → Int → Int → Option ((List (S28)))
  | 0, _, _, _ => none
  | k + 1, x0, x14, x17 => if x17 > x14 then (if 0 ≤ (wrap64 (x17 - 1)) then (if (wrap64 (x17 - 1)) < (x0.length : Int) then (if 0 ≤ x17 then (if x17 < (x0.length : Int) then (api_Span_52.l3 k ((x0.set (x17 : Int).toNat (⟨(rd_T28 x0 (wrap64 (x17 - 1))).f0, (rd_T28 x0 (wrap64 (x17 - 1))).f1, (rd_T28 x0 (wrap64 (x17 - 1))).f2, (rd_T28 x0 (wrap64 (x17 - 1))).f3, (rd_T28 x0 (wrap64 (x17 - 1))).f4, (rd_T28 x0 (wrap64 (x17 - 1))).f5, (rd_T28 x0 (wrap64 (x17 - 1))).f6, (rd_T28 x0 (wrap64 (x17 - 1))).f7⟩ : S28)).set ((wrap64 (x17 - 1)) : Int).toNat (⟨(rd_T28 x0 x17).f0, (rd_T28 x0 x17).f1, (rd_T28 x0 x17).f2, (rd_T28 x0 x17).f3, (rd_T28 x0 x17).f4, (rd_T28 x0 x17).f5, (rd_T28 x0 x17).f6, (rd_T28 x0 x17).f7⟩ : S28)) x14 (wrap64 (x17 - 1))) else (none)) else (none)) else (none)) else (none)) else (some x0)
def api_Span_52.j4 : Nat → List (S28) → Int → Int → Int → Int → Int → Int → Int → Option ((List (S28)))
  | 0, _, _, _, _, _, _, _, _ => none
  | k + 1, x0, x1, x2, x3, x18, x19, x20, x21 => api_Span_52.l4 k x0 x1 x2 x3 x18 x19 x20 x21 (wrap64 (x19 - 1))
def api_Span_52.l4 : Nat → List (S28) → Int → Int → Int → Int → Int → Int → Int → Int → Option ((List (S28)))
  | 0, _, _, _, _, _, _, _, _, _ => none
  | k + 1, x0, x1, x2, x3, x18, x19, x20, x21, x22 => if x20 < x21 then (if 0 ≤ (wrap64 (x22 - (wrap64 ((IntKind.u64.wrap (wrap64 (x20 + x21))) / 2)))) then (if (wrap64 (x22 - (wrap64 ((IntKind.u64.wrap (wrap64 (x20 + x21))) / 2)))) < (x0.length : Int) then (if 0 ≤ (wrap64 ((IntKind.u64.wrap (wrap64 (x20 + x21))) / 2)) then (if (wrap64 ((IntKind.u64.wrap (wrap64 (x20 + x21))) / 2)) < (x0.length : Int) then ((span_order.f k ((rd_T28 x0 (wrap64 (x22 - (wrap64 ((IntKind.u64.wrap (wrap64 (x20 + x21))) / 2))))).f0) ((rd_T28 x0 (wrap64 (x22 - (wrap64 ((IntKind.u64.wrap (wrap64 (x20 + x21))) / 2))))).f1) ((rd_T28 x0 (wrap64 (x22 - (wrap64 ((IntKind.u64.wrap (wrap64 (x20 + x21))) / 2))))).f2) ((rd_T28 x0 (wrap64 (x22 - (wrap64 ((IntKind.u64.wrap (wrap64 (x20 + x21))) / 2))))).f3) ((rd_T28 x0 (wrap64 (x22 - (wrap64 ((IntKind.u64.wrap (wrap64 (x20 + x21))) / 2))))).f4) ((rd_T28 x0 (wrap64 (x22 - (wrap64 ((IntKind.u64.wrap (wrap64 (x20 + x21))) / 2))))).f5) ((rd_T28 x0 (wrap64 (x22 - (wrap64 ((IntKind.u64.wrap (wrap64 (x20 + x21))) / 2))))).f6) ((rd_T28 x0 (wrap64 (x22 - (wrap64 ((IntKind.u64.wrap (wrap64 (x20 + x21))) / 2))))).f7) ((rd_T28 x0 (wrap64 ((IntKind.u64.wrap (wrap64 (x20 + x21))) / 2))).f0) ((rd_T28 x0 (wrap64 ((IntKind.u64.wrap (wrap64 (x20 + x21))) / 2))).f1) ((rd_T28 x0 (wrap64 ((IntKind.u64.wrap (wrap64 (x20 + x21))) / 2))).f2) ((rd_T28 x0 (wrap64 ((IntKind.u64.wrap (wrap64 (x20 + x21))) / 2))).f3) ((rd_T28 x0 (wrap64 ((IntKind.u64.wrap (wrap64 (x20 + x21))) / 2))).f4) ((rd_T28 x0 (wrap64 ((IntKind.u64.wrap (wrap64 (x20 + x21))) / 2))).f5) ((rd_T28 x0 (wrap64 ((IntKind.u64.wrap (wrap64 (x20 + x21))) / 2))).f6) ((rd_T28 x0 (wrap64 ((IntKind.u64.wrap (wrap64 (x20 + x21))) / 2))).f7)).bind fun t172 => (if t172 < 0 then (api_Span_52.l4 k x0 x1 x2 x3 x18 x19 x20 (wrap64 ((IntKind.u64.wrap (wrap64 (x20 + x21))) / 2)) x22) else (api_Span_52.l4 k x0 x1 x2 x3 x18 x19 (wrap64 ((wrap64 ((IntKind.u64.wrap (wrap64 (x20 + x21))) / 2)) + 1)) x21 x22))) else (none)) else (none)) else (none)) else (none)) else (if x20 < x2 then (api_Span_52.j6 k x0 x1 x2 x3 x18 x20 (wrap64 (x19 - x20)) (decide (x2 < (wrap64 (x19 - x20))))) else (api_Span_52.j6 k x0 x1 x2 x3 x18 x20 (wrap64 (x19 - x20)) false))
def api_Span_52.j6 : Nat → List (S28) → Int → Int → Int → Int → Int → Int → Bool → Option ((List (S28)))
  | 0, _, _, _, _, _, _, _, _ => none
  | k + 1, x0, x1, x2, x3, x18, x20, x24, x185 => if x185 = true then ((api_Span_53.f k x0 x20 x2 x24).bind fun t173 => (api_Span_52.j7 k t173 x1 x3 x18 x20 x24)) else (api_Span_52.j7 k x0 x1 x3 x18 x20 x24)
def api_Span_52.j7 : Nat → List (S28) → Int → Int → Int → Int → Int → Option ((List (S28)))
  | 0, _, _, _, _, _, _ => none
  | k + 1, x0, x1, x3, x18, x20, x24 => if x1 < x20 then (api_Span_52.j8 k x0 x1 x3 x18 x20 x24 (decide (x20 < x18))) else (api_Span_52.j8 k x0 x1 x3 x18 x20 x24 false)
def api_Span_52.j8 : Nat → List (S28) → Int → Int → Int → Int → Int → Bool → Option ((List (S28)))
  | 0, _, _, _, _, _, _, _ => none
  | k + 1, x0, x1, x3, x18, x20, x24, x199 => if x199 = true then ((api_Span_52.f k x0 x1 x20 x18).bind fun t174 => (if x18 < x24 then (if x24 < x3 then ((api_Span_52.f k t174 x18 x24 x3).bind fun t175 => (some t175)) else (some t174)) else (some t174))) else (if x18 < x24 then (if x24 < x3 then ((api_Span_52.f k x0 x18 x24 x3).bind fun t176 => (some t176)) else (some x0)) else (some x0))
def api_Span_52.f : Nat → List (S28) → Int → Int → Int → Option ((List (S28)))
  | 0, _, _, _, _ => none
  | k + 1, l0, a1, a2, a3 => if (wrap64 (a2 - a1)) = 1 then (api_Span_52.l0 k l0 a1 a2 a3) else (if (wrap64 (a3 - a2)) = 1 then (api_Span_52.l2 k l0 a2 a1 a2) else (if a2 > (wrap64 ((IntKind.u64.wrap (wrap64 (a1 + a3))) / 2)) then (api_Span_52.j4 k l0 a1 a2 a3 (wrap64 ((IntKind.u64.wrap (wrap64 (a1 + a3))) / 2)) (wrap64 ((wrap64 ((IntKind.u64.wrap (wrap64 (a1 + a3))) / 2)) + a2)) (wrap64 ((wrap64 ((wrap64 ((IntKind.u64.wrap (wrap64 (a1 + a3))) / 2)) + a2)) - a3)) (wrap64 ((IntKind.u64.wrap (wrap64 (a1 + a3))) / 2))) else (api_Span_52.j4 k l0 a1 a2 a3 (wrap64 ((IntKind.u64.wrap (wrap64 (a1 + a3))) / 2)) (wrap64 ((wrap64 ((IntKind.u64.wrap (wrap64 (a1 + a3))) / 2)) + a2)) a1 a2)))
end
theorem api_Span_52.mono_l : ∀ k, (∀ y0 y1 y2 y3, LeO (api_Span_52.f k y0 y1 y2 y3) (api_Span_52.f (k + 1) y0 y1 y2 y3)) ∧ (∀ y0 y1 y2 y3, LeO (api_Span_52.l0 k y0 y1 y2 y3) (api_Span_52.l0 (k + 1) y0 y1 y2 y3)) ∧ (∀ y0 y1 y2, LeO (api_Span_52.l1 k y0 y1 y2) (api_Span_52.l1 (k + 1) y0 y1 y2)) ∧ (∀ y0 y1 y2 y3, LeO (api_Span_52.l2 k y0 y1 y2 y3) (api_Span_52.l2 (k + 1) y0 y1 y2 y3)) ∧ (∀ y0 y1 y2, LeO (api_Span_52.l3 k y0 y1 y2) (api_Span_52.l3 (k + 1) y0 y1 y2)) ∧ (∀ y0 y1 y2 y3 y4 y5 y6 y7, LeO (api_Span_52.j4 k y0 y1 y2 y3 y4 y5 y6 y7) (api_Span_52.j4 (k + 1) y0 y1 y2 y3 y4 y5 y6 y7)) ∧ (∀ y0 y1 y2 y3 y4 y5 y6 y7 y8, LeO (api_Span_52.l4 k y0 y1 y2 y3 y4 y5 y6 y7 y8) (api_Span_52.l4 (k + 1) y0 y1 y2 y3 y4 y5 y6 y7 y8)) ∧ (∀ y0 y1 y2 y3 y4 y5 y6 y7, LeO (api_Span_52.j6 k y0 y1 y2 y3 y4 y5 y6 y7) (api_Span_52.j6 (k + 1) y0 y1 y2 y3 y4 y5 y6 y7)) ∧ (∀ y0 y1 y2 y3 y4 y5, LeO (api_Span_52.j7 k y0 y1 y2 y3 y4 y5) (api_Span_52.j7 (k + 1) y0 y1 y2 y3 y4 y5)) ∧ (∀ y0 y1 y2 y3 y4 y5 y6, LeO (api_Span_52.j8 k y0 y1 y2 y3 y4 y5 y6) (api_Span_52.j8 (k + 1) y0 y1 y2 y3 y4 y5 y6))
  | 0 => ⟨fun _ _ _ _ r h => by simp [api_Span_52.f] at h, fun _ _ _ _ r h => by simp [api_Span_52.l0] at h, fun _ _ _ r h => by simp [api_Span_52.l1] at h, fun _ _ _ _ r h => by simp [api_Span_52.l2] at h, fun _ _ _ r h => by simp [api_Span_52.l3] at h, fun _ _ _ _ _ _ _ _ r h => by simp [api_Span_52.j4] at h, fun _ _ _ _ _ _ _ _ _ r h => by simp [api_Span_52.l4] at h, fun _ _ _ _ _ _ _ _ r h => by simp [api_Span_52.j6] at h, fun _ _ _ _ _ _ r h => by simp [api_Span_52.j7] at h, fun _ _ _ _ _ _ _ r h => by simp [api_Span_52.j8] at h⟩
  | k + 1 => by
    obtain ⟨ih0, ih1, ih2, ih3, ih4, ih5, ih6, ih7, ih8, ih9⟩ := api_Span_52.mono_l k
    refine ⟨?_, ?_, ?_, ?_, ?_, ?_, ?_, ?_, ?_, ?_⟩
    · intro y0 y1 y2 y3
      unfold api_Span_52.f
      repeat' first
      | (with_reducible exact ih0 _ _ _ _)
      | (with_reducible exact ih1 _ _ _ _)
      | (with_reducible exact ih2 _ _ _)
      | (with_reducible exact ih3 _ _ _ _)
      | (with_reducible exact ih4 _ _ _)
      | (with_reducible exact ih5 _ _ _ _ _ _ _ _)
      | (with_reducible exact ih6 _ _ _ _ _ _ _ _ _)
      | (with_reducible exact ih7 _ _ _ _ _ _ _ _)
      | (with_reducible exact ih8 _ _ _ _ _ _)
      | (with_reducible exact ih9 _ _ _ _ _ _ _)
      | (with_reducible exact api_Span_53.mono _ _ _ _ _)
      | (with_reducible exact span_order.mono _ _ _ _ _ _ _ _ _ _ _ _ _ _ _ _ _)
      | (with_reducible exact LeO.refl _)
      | (with_reducible exact LeO.none _)
      | (with_reducible refine LeO.ite ?_ ?_)
      | (with_reducible refine LeO.bind ?_ (fun _ => ?_))
      | exact ih0 _ _ _ _
      | exact ih1 _ _ _ _
      | exact ih2 _ _ _
      | exact ih3 _ _ _ _
      | exact ih4 _ _ _
      | exact ih5 _ _ _ _ _ _ _ _
      | exact ih6 _ _ _ _ _ _ _ _ _
      | exact ih7 _ _ _ _ _ _ _ _
      | exact ih8 _ _ _ _ _ _
      | exact ih9 _ _ _ _ _ _ _
      | exact api_Span_53.mono _ _ _ _ _
      | exact span_order.mono _ _ _ _ _ _ _ _ _ _ _ _ _ _ _ _ _
      | exact LeO.none _
      | refine LeO.ite ?_ ?_
      | refine LeO.bind ?_ (fun _ => ?_)
    · intro y0 y1 y2 y3
      unfold api_Span_52.l0
      repeat' first
      | (with_reducible exact ih0 _ _ _ _)
      | (with_reducible exact ih1 _ _ _ _)
      | (with_reducible exact ih2 _ _ _)
      | (with_reducible exact ih3 _ _ _ _)
      | (with_reducible exact ih4 _ _ _)
      | (with_reducible exact ih5 _ _ _ _ _ _ _ _)
      | (with_reducible exact ih6 _ _ _ _ _ _ _ _ _)
      | (with_reducible exact ih7 _ _ _ _ _ _ _ _)
      | (with_reducible exact ih8 _ _ _ _ _ _)
      | (with_reducible exact ih9 _ _ _ _ _ _ _)
      | (with_reducible exact api_Span_53.mono _ _ _ _ _)
      | (with_reducible exact span_order.mono _ _ _ _ _ _ _ _ _ _ _ _ _ _ _ _ _)
      | (with_reducible exact LeO.refl _)
      | (with_reducible exact LeO.none _)
      | (with_reducible refine LeO.ite ?_ ?_)
      | (with_reducible refine LeO.bind ?_ (fun _ => ?_))
      | exact ih0 _ _ _ _
      | exact ih1 _ _ _ _
      | exact ih2 _ _ _
      | exact ih3 _ _ _ _
      | exact ih4 _ _ _
      | exact ih5 _ _ _ _ _ _ _ _
      | exact ih6 _ _ _ _ _ _ _ _ _
      | exact ih7 _ _ _ _ _ _ _ _
      | exact ih8 _ _ _ _ _ _
      | exact ih9 _ _ _ _ _ _ _
      | exact api_Span_53.mono _ _ _ _ _
      | exact span_order.mono _ _ _ _ _ _ _ _ _ _ _ _ _ _ _ _ _
      | exact LeO.none _
      | refine LeO.ite ?_ ?_
      | refine LeO.bind ?_ (fun _ => ?_)
    · intro y0 y1 y2
      unfold api_Span_52.l1
      repeat' first
      | (with_reducible exact ih0 _ _ _ _)
      | (with_reducible exact ih1 _ _ _ _)
      | (with_reducible exact ih2 _ _ _)
      | (with_reducible exact ih3 _ _ _ _)
      | (with_reducible exact ih4 _ _ _)
      | (with_reducible exact ih5 _ _ _ _ _ _ _ _)
      | (with_reducible exact ih6 _ _ _ _ _ _ _ _ _)
      | (with_reducible exact ih7 _ _ _ _ _ _ _ _)
      | (with_reducible exact ih8 _ _ _ _ _ _)
      | (with_reducible exact ih9 _ _ _ _ _ _ _)
      | (with_reducible exact api_Span_53.mono _ _ _ _ _)
      | (with_reducible exact span_order.mono _ _ _ _ _ _ _ _ _ _ _ _ _ _ _ _ _)
      | (with_reducible exact LeO.refl _)
      | (with_reducible exact LeO.none _)
      | (with_reducible refine LeO.ite ?_ ?_)
      | (with_reducible refine LeO.bind ?_ (fun _ => ?_))
      | exact ih0 _ _ _ _
      | exact ih1 _ _ _ _
      | exact ih2 _ _ _
      | exact ih3 _ _ _ _
      | exact ih4 _ _ _
      | exact ih5 _ _ _ _ _ _ _ _
      | exact ih6 _ _ _ _ _ _ _ _ _
      | exact ih7 _ _ _ _ _ _ _ _
      | exact ih8 _ _ _ _ _ _
      | exact ih9 _ _ _ _ _ _ _
      | exact api_Span_53.mono _ _ _ _ _
      | exact span_order.mono _ _ _ _ _ _ _ _ _ _ _ _ _ _ _ _ _
      | exact LeO.none _
      | refine LeO.ite ?_ ?_
      | refine LeO.bind ?_ (fun _ => ?_)
    · intro y0 y1 y2 y3
      unfold api_Span_52.l2
      repeat' first
      | (with_reducible exact ih0 _ _ _ _)
      | (with_reducible exact ih1 _ _ _ _)
      | (with_reducible exact ih2 _ _ _)
      | (with_reducible exact ih3 _ _ _ _)
      | (with_reducible exact ih4 _ _ _)
      | (with_reducible exact ih5 _ _ _ _ _ _ _ _)
      | (with_reducible exact ih6 _ _ _ _ _ _ _ _ _)
      | (with_reducible exact ih7 _ _ _ _ _ _ _ _)
      | (with_reducible exact ih8 _ _ _ _ _ _)
      | (with_reducible exact ih9 _ _ _ _ _ _ _)
      | (with_reducible exact api_Span_53.mono _ _ _ _ _)
      | (with_reducible exact span_order.mono _ _ _ _ _ _ _ _ _ _ _ _ _ _ _ _ _)
      | (with_reducible exact LeO.refl _)
      | (with_reducible exact LeO.none _)
      | (with_reducible refine LeO.ite ?_ ?_)
      | (with_reducible refine LeO.bind ?_ (fun _ => ?_))
      | exact ih0 _ _ _ _
      | exact ih1 _ _ _ _
      | exact ih2 _ _ _
      | exact ih3 _ _ _ _
      | exact ih4 _ _ _
      | exact ih5 _ _ _ _ _ _ _ _
      | exact ih6 _ _ _ _ _ _ _ _ _
      | exact ih7 _ _ _ _ _ _ _ _
      | exact ih8 _ _ _ _ _ _
      | exact ih9 _ _ _ _ _ _ _
      | exact api_Span_53.mono _ _ _ _ _
      | exact span_order.mono _ _ _ _ _ _ _ _ _ _ _ _ _ _ _ _ _
      | exact LeO.none _
      | refine LeO.ite ?_ ?_
      | refine LeO.bind ?_ (fun _ => ?_)
    · intro y0 y1 y2
      unfold api_Span_52.l3
      repeat' first
      | (with_reducible exact ih0 _ _ _ _)
      | (with_reducible exact ih1 _ _ _ _)
      | (with_reducible exact ih2 _ _ _)
      | (with_reducible exact ih3 _ _ _ _)
      | (with_reducible exact ih4 _ _ _)
      | (with_reducible exact ih5 _ _ _ _ _ _ _ _)
      | (with_reducible exact ih6 _ _ _ _ _ _ _ _ _)
      | (with_reducible exact ih7 _ _ _ _ _ _ _ _)
      | (with_reducible exact ih8 _ _ _ _ _ _)
      | (with_reducible exact ih9 _ _ _ _ _ _ _)
      | (with_reducible exact api_Span_53.mono _ _ _ _ _)
      | (with_reducible exact span_order.mono _ _ _ _ _ _ _ _ _ _ _ _ _ _ _ _ _)
      | (with_reducible exact LeO.refl _)
      | (with_reducible exact LeO.none _)
      | (with_reducible refine LeO.ite ?_ ?_)
      | (with_reducible refine LeO.bind ?_ (fun _ => ?_))
      | exact ih0 _ _ _ _
      | exact ih1 _ _ _ _
      | exact ih2 _ _ _
      | exact ih3 _ _ _ _
      | exact ih4 _ _ _
      | exact ih5 _ _ _ _ _ _ _ _
      | exact ih6 _ _ _ _ _ _ _ _ _
      | exact ih7 _ _ _ _ _ _ _ _
      | exact ih8 _ _ _ _ _ _
      | exact ih9 _ _ _ _ _ _ _
      | exact api_Span_53.mono _ _ _ _ _
      | exact span_order.mono _ _ _ _ _ _ _ _ _ _ _ _ _ _ _ _ _
      | exact LeO.none _
      | refine LeO.ite ?_ ?_
      | refine LeO.bind ?_ (fun _ => ?_)
    · intro y0 y1 y2 y3 y4 y5 y6 y7
      unfold api_Span_52.j4
      repeat' first
      | (with_reducible exact ih0 _ _ _ _)
      | (with_reducible exact ih1 _ _ _ _)
      | (with_reducible exact ih2 _ _ _)
      | (with_reducible exact ih3 _ _ _ _)
      | (with_reducible exact ih4 _ _ _)
      | (with_reducible exact ih5 _ _ _ _ _ _ _ _)
      | (with_reducible exact ih6 _ _ _ _ _ _ _ _ _)
      | (with_reducible exact ih7 _ _ _ _ _ _ _ _)
      | (with_reducible exact ih8 _ _ _ _ _ _)
      | (with_reducible exact ih9 _ _ _ _ _ _ _)
      | (with_reducible exact api_Span_53.mono _ _ _ _ _)
      | (with_reducible exact span_order.mono _ _ _ _ _ _ _ _ _ _ _ _ _ _ _ _ _)
      | (with_reducible exact LeO.refl _)
      | (with_reducible exact LeO.none _)
      | (with_reducible refine LeO.ite ?_ ?_)
      | (with_reducible refine LeO.bind ?_ (fun _ => ?_))
      | exact ih0 _ _ _ _
      | exact ih1 _ _ _ _
      | exact ih2 _ _ _
      | exact ih3 _ _ _ _
      | exact ih4 _ _ _
      | exact ih5 _ _ _ _ _ _ _ _
      | exact ih6 _ _ _ _ _ _ _ _ _
      | exact ih7 _ _ _ _ _ _ _ _
      | exact ih8 _ _ _ _ _ _
      | exact ih9 _ _ _ _ _ _ _
      | exact api_Span_53.mono _ _ _ _ _
      | exact span_order.mono _ _ _ _ _ _ _ _ _ _ _ _ _ _ _ _ _
      | exact LeO.none _
      | refine LeO.ite ?_ ?_
      | refine LeO.bind ?_ (fun _ => ?_)
    · intro y0 y1 y2 y3 y4 y5 y6 y7 y8
      unfold api_Span_52.l4
      repeat' first
      | (with_reducible exact ih0 _ _ _ _)
      | (with_reducible exact ih1 _ _ _ _)
      | (with_reducible exact ih2 _ _ _)
      | (with_reducible exact ih3 _ _ _ _)
      | (with_reducible exact ih4 _ _ _)
      | (with_reducible exact ih5 _ _ _ _ _ _ _ _)
      | (with_reducible exact ih6 _ _ _ _ _ _ _ _ _)
      | (with_reducible exact ih7 _ _ _ _ _ _ _ _)
      | (with_reducible exact ih8 _ _ _ _ _ _)
      | (with_reducible exact ih9 _ _ _ _ _ _ _)
      | (with_reducible exact api_Span_53.mono _ _ _ _ _)
      | (with_reducible exact span_order.mono _ _ _ _ _ _ _ _ _ _ _ _ _ _ _ _ _)
      | (with_reducible exact LeO.refl _)
      | (with_reducible exact LeO.none _)
      | (with_reducible refine LeO.ite ?_ ?_)
      | (with_reducible refine LeO.bind ?_ (fun _ => ?_))
      | exact ih0 _ _ _ _
      | exact ih1 _ _ _ _
      | exact ih2 _ _ _
      | exact ih3 _ _ _ _
      | exact ih4 _ _ _
      | exact ih5 _ _ _ _ _ _ _ _
      | exact ih6 _ _ _ _ _ _ _ _ _
      | exact ih7 _ _ _ _ _ _ _ _
      | exact ih8 _ _ _ _ _ _
      | exact ih9 _ _ _ _ _ _ _
      | exact api_Span_53.mono _ _ _ _ _
      | exact span_order.mono _ _ _ _ _ _ _ _ _ _ _ _ _ _ _ _ _
      | exact LeO.none _
      | refine LeO.ite ?_ ?_
      | refine LeO.bind ?_ (fun _ => ?_)
    · intro y0 y1 y2 y3 y4 y5 y6 y7
      unfold api_Span_52.j6
      repeat' first
      | (with_reducible exact ih0 _ _ _ _)
      | (with_reducible exact ih1 _ _ _ _)
      | (with_reducible exact ih2 _ _ _)
      | (with_reducible exact ih3 _ _ _ _)
      | (with_reducible exact ih4 _ _ _)
      | (with_reducible exact ih5 _ _ _ _ _ _ _ _)
      | (with_reducible exact ih6 _ _ _ _ _ _ _ _ _)
      | (with_reducible exact ih7 _ _ _ _ _ _ _ _)
      | (with_reducible exact ih8 _ _ _ _ _ _)
      | (with_reducible exact ih9 _ _ _ _ _ _ _)
      | (with_reducible exact api_Span_53.mono _ _ _ _ _)
      | (with_reducible exact span_order.mono _ _ _ _ _ _ _ _ _ _ _ _ _ _ _ _ _)
      | (with_reducible exact LeO.refl _)
      | (with_reducible exact LeO.none _)
      | (with_reducible refine LeO.ite ?_ ?_)
      | (with_reducible refine LeO.bind ?_ (fun _ => ?_))
      | exact ih0 _ _ _ _
      | exact ih1 _ _ _ _
      | exact ih2 _ _ _
      | exact ih3 _ _ _ _
      | exact ih4 _ _ _
      | exact ih5 _ _ _ _ _ _ _ _
      | exact ih6 _ _ _ _ _ _ _ _ _
      | exact ih7 _ _ _ _ _ _ _ _
      | exact ih8 _ _ _ _ _ _
      | exact ih9 _ _ _ _ _ _ _
      | exact api_Span_53.mono _ _ _ _ _
      | exact span_order.mono _ _ _ _ _ _ _ _ _ _ _ _ _ _ _ _ _
      | exact LeO.none _
      | refine LeO.ite ?_ ?_
      | refine LeO.bind ?_ (fun _ => ?_)
    · intro y0 y1 y2 y3 y4 y5
      unfold api_Span_52.j7
      repeat' first
      | (with_reducible exact ih0 _ _ _ _)
      | (with_reducible exact ih1 _ _ _ _)
      | (with_reducible exact ih2 _ _ _)
      | (with_reducible exact ih3 _ _ _ _)
      | (with_reducible exact ih4 _ _ _)
      | (with_reducible exact ih5 _ _ _ _ _ _ _ _)
      | (with_reducible exact ih6 _ _ _ _ _ _ _ _ _)
      | (with_reducible exact ih7 _ _ _ _ _ _ _ _)
      | (with_reducible exact ih8 _ _ _ _ _ _)
      | (with_reducible exact ih9 _ _ _ _ _ _ _)
      | (with_reducible exact api_Span_53.mono _ _ _ _ _)
      | (with_reducible exact span_order.mono _ _ _ _ _ _ _ _ _ _ _ _ _ _ _ _ _)
      | (with_reducible exact LeO.refl _)
      | (with_reducible exact LeO.none _)
      | (with_reducible refine LeO.ite ?_ ?_)
      | (with_reducible refine LeO.bind ?_ (fun _ => ?_))
      | exact ih0 _ _ _ _
      | exact ih1 _ _ _ _
      | exact ih2 _ _ _
      | exact ih3 _ _ _ _
      | exact ih4 _ _ _
      | exact ih5 _ _ _ _ _ _ _ _
      | exact ih6 _ _ _ _ _ _ _ _ _
      | exact ih7 _ _ _ _ _ _ _ _
      | exact ih8 _ _ _ _ _ _
      | exact ih9 _ _ _ _ _ _ _
      | exact api_Span_53.mono _ _ _ _ _
      | exact span_order.mono _ _ _ _ _ _ _ _ _ _ _ _ _ _ _ _ _
      | exact LeO.none _
      | refine LeO.ite ?_ ?_
      | refine LeO.bind ?_ (fun _ => ?_)
    · intro y0 y1 y2 y3 y4 y5 y6
      unfold api_Span_52.j8
      repeat' first
      | (with_reducible exact ih0 _ _ _ _)
      | (with_reducible exact ih1 _ _ _ _)
      | (with_reducible exact ih2 _ _ _)
      | (with_reducible exact ih3 _ _ _ _)
      | (with_reducible exact ih4 _ _ _)
      | (with_reducible exact ih5 _ _ _ _ _ _ _ _)
      | (with_reducible exact ih6 _ _ _ _ _ _ _ _ _)
      | (with_reducible exact ih7 _ _ _ _ _ _ _ _)
      | (with_reducible exact ih8 _ _ _ _ _ _)
      | (with_reducible exact ih9 _ _ _ _ _ _ _)
      | (with_reducible exact api_Span_53.mono _ _ _ _ _)
      | (with_reducible exact span_order.mono _ _ _ _ _ _ _ _ _ _ _ _ _ _ _ _ _)
      | (with_reducible exact LeO.refl _)
      | (with_reducible exact LeO.none _)
      | (with_reducible refine LeO.ite ?_ ?_)
      | (with_reducible refine LeO.bind ?_ (fun _ => ?_))
      | exact ih0 _ _ _ _
      | exact ih1 _ _ _ _
      | exact ih2 _ _ _
      | exact ih3 _ _ _ _
      | exact ih4 _ _ _
      | exact ih5 _ _ _ _ _ _ _ _
      | exact ih6 _ _ _ _ _ _ _ _ _
      | exact ih7 _ _ _ _ _ _ _ _
      | exact ih8 _ _ _ _ _ _
      | exact ih9 _ _ _ _ _ _ _
      | exact api_Span_53.mono _ _ _ _ _
      | exact span_order.mono _ _ _ _ _ _ _ _ _ _ _ _ _ _ _ _ _
      | exact LeO.none _
      | refine LeO.ite ?_ ?_
      | refine LeO.bind ?_ (fun _ => ?_)
theorem api_Span_52.mono : ∀ a0 a1 a2 a3 k, LeO (api_Span_52.f k a0 a1 a2 a3) (api_Span_52.f (k + 1) a0 a1 a2 a3) := by
  intro a0 a1 a2 a3 k
  obtain ⟨ih0, ih1, ih2, ih3, ih4, ih5, ih6, ih7, ih8, ih9⟩ := api_Span_52.mono_l k
  exact ih0 a0 a1 a2 a3
def api_Span_52.T5 : Bool × List (List Nat × List Nat) := (true, [([], []), ([], []), ([], []), ([1, 2], [1, 2]), ([3], [3]), ([], []), ([], []), ([5, 6], [5, 6]), ([7], [7]), ([0, 4, 8], [0, 4, 8]), ([9], [9])])
def api_Span_52.B5 : List Nat := [0, 0, 0, 6, 14, 0, 0, 96, 224, 511, 1023]
theorem api_Span_52.tab5 : rtab .any (opsOf Try.f52 5) = api_Span_52.T5 := by kernel_rfl
theorem api_Span_52.bits5 : waitsOk api_Span_52.T5.2 api_Span_52.B5 = true := by kernel_rfl
def api_Span_52.T11 : Bool × List (List Nat × List Nat) := (true, [([], []), ([], []), ([], []), ([], []), ([3], [3]), ([], []), ([], []), ([6], [6]), ([5, 7], [5, 7]), ([8], [8]), ([], []), ([], []), ([10, 11], [10, 11]), ([12], [12]), ([0, 1, 0, 1, 5, 6, 7, 8, 9, 13], [0, 1]), ([14, 9, 0, 1, 5, 6, 7, 8, 9, 13], [9, 14]), ([2, 4, 0, 1, 2, 3, 4, 5, 6, 7, 8, 9, 10, 11, 12, 13, 14, 15], [2, 4]), ([16, 13, 15, 0, 1, 2, 3, 4, 5, 6, 7, 8, 9, 10, 11, 12, 13, 14, 15], [13, 16])])
def api_Span_52.B11 : List Nat := [0, 0, 0, 0, 8, 0, 0, 64, 224, 480, 0, 0, 3072, 7168, 16355, 32739, 65535, 131071]
theorem api_Span_52.tab11 : rtab .any (opsOf Try.f52 11) = api_Span_52.T11 := by kernel_rfl
theorem api_Span_52.bits11 : waitsOk api_Span_52.T11.2 api_Span_52.B11 = true := by kernel_rfl
def api_Span_52.T17 : Bool × List (List Nat × List Nat) := (true, [([], []), ([], []), ([], []), ([1, 2], [1, 2]), ([3], [3]), ([], []), ([], []), ([5, 6], [5, 6]), ([7], [7]), ([0, 4, 8], [0, 4, 8]), ([9], [9]), ([10], [10])])
def api_Span_52.B17 : List Nat := [0, 0, 0, 6, 14, 0, 0, 96, 224, 511, 1023, 2047]
theorem api_Span_52.tab17 : rtab .any (opsOf Try.f52 17) = api_Span_52.T17 := by kernel_rfl
theorem api_Span_52.bits17 : waitsOk api_Span_52.T17.2 api_Span_52.B17 = true := by kernel_rfl
def api_Span_52.T23 : Bool × List (List Nat × List Nat) := (true, [([], []), ([], []), ([], []), ([], []), ([3], [3]), ([], []), ([], []), ([6], [6]), ([5, 7], [5, 7]), ([8], [8]), ([], []), ([], []), ([10, 11], [10, 11]), ([12], [12]), ([0, 1, 0, 1, 5, 6, 7, 8, 9, 13], [0, 1]), ([14, 9, 0, 1, 5, 6, 7, 8, 9, 13], [9, 14]), ([2, 4, 0, 1, 2, 3, 4, 5, 6, 7, 8, 9, 10, 11, 12, 13, 14, 15], [2, 4]), ([16, 13, 15, 0, 1, 2, 3, 4, 5, 6, 7, 8, 9, 10, 11, 12, 13, 14, 15], [13, 16])])
def api_Span_52.B23 : List Nat := [0, 0, 0, 0, 8, 0, 0, 64, 224, 480, 0, 0, 3072, 7168, 16355, 32739, 65535, 131071]
theorem api_Span_52.tab23 : rtab .any (opsOf Try.f52 23) = api_Span_52.T23 := by kernel_rfl
theorem api_Span_52.bits23 : waitsOk api_Span_52.T23.2 api_Span_52.B23 = true := by kernel_rfl
def api_Span_52.T35 : Bool × List (List Nat × List Nat) := (true, [([], []), ([], []), ([], []), ([], []), ([2, 3], [2, 3]), ([1, 4], [1, 4]), ([5], [5]), ([], []), ([], []), ([7, 8], [7, 8]), ([9], [9]), ([0, 6, 10], [0, 6, 10]), ([11], [11]), ([12], [12])])
def api_Span_52.B35 : List Nat := [0, 0, 0, 0, 12, 30, 62, 0, 0, 384, 896, 2047, 4095, 8191]
theorem api_Span_52.tab35 : rtab .any (opsOf Try.f52 35) = api_Span_52.T35 := by kernel_rfl
theorem api_Span_52.bits35 : waitsOk api_Span_52.T35.2 api_Span_52.B35 = true := by kernel_rfl
abbrev api_Span_52.G (k : Nat) : Prop := ∀ (P0_ : Nat → Prop) (u9000_ : Value) (l0 : List (S28)) (a1 : Int) (a2 : Int) (a3 : Int)  (r : List (S28)) (w0 w : World) (hB : Below w0.heap.size w0 w) (ho0 : Kd.R k28 28 w w0.heap.size P0_ u9000_ l0) (h : api_Span_52.f k l0 a1 a2 a3 = some r),
    Calls Try.prog 52 #[u9000_, .int .i64 a1, .int .i64 a2, .int .i64 a3, .func (.func 35) #[] #[]] w fun e w' => e = .returned (.tuple #[]) ∧ Kd.R k28 28 w' w0.heap.size (fun k_ => (P0_ k_ ∨ w.heap.size ≤ k_)) u9000_ r ∧ Below w0.heap.size w0 w' ∧ Kept w w' (fun k_ => P0_ k_)
set_option maxHeartbeats 40000000 in
set_option maxRecDepth 100000 in
theorem api_Span_52.part1 (k : Nat) (ih : ∀ m, m < k + 1 → api_Span_52.G m) (P0_ : Nat → Prop) (u9000_ : Value) (l0 : List (S28)) (a1 : Int) (a2 : Int) (a3 : Int)  (r : List (S28)) (w0 w : World) (hB : Below w0.heap.size w0 w) (ho0 : Kd.R k28 28 w w0.heap.size P0_ u9000_ l0) (H : (if (wrap64 (a2 - a1)) = 1 then (api_Span_52.l0 k l0 a1 a2 a3) else (if (wrap64 (a3 - a2)) = 1 then (api_Span_52.l2 k l0 a2 a1 a2) else (if a2 > (wrap64 ((IntKind.u64.wrap (wrap64 (a1 + a3))) / 2)) then (api_Span_52.j4 k l0 a1 a2 a3 (wrap64 ((IntKind.u64.wrap (wrap64 (a1 + a3))) / 2)) (wrap64 ((wrap64 ((IntKind.u64.wrap (wrap64 (a1 + a3))) / 2)) + a2)) (wrap64 ((wrap64 ((wrap64 ((IntKind.u64.wrap (wrap64 (a1 + a3))) / 2)) + a2)) - a3)) (wrap64 ((IntKind.u64.wrap (wrap64 (a1 + a3))) / 2))) else (api_Span_52.j4 k l0 a1 a2 a3 (wrap64 ((IntKind.u64.wrap (wrap64 (a1 + a3))) / 2)) (wrap64 ((wrap64 ((IntKind.u64.wrap (wrap64 (a1 + a3))) / 2)) + a2)) a1 a2)))) = some r) (c6 : (wrap64 (a2 - a1)) = 1) :
    Calls Try.prog 52 #[u9000_, .int .i64 a1, .int .i64 a2, .int .i64 a3, .func (.func 35) #[] #[]] w fun e w' => e = .returned (.tuple #[]) ∧ Kd.R k28 28 w' w0.heap.size (fun k_ => (P0_ k_ ∨ w.heap.size ≤ k_)) u9000_ r ∧ Below w0.heap.size w0 w' ∧ Kept w w' (fun k_ => P0_ k_) := by
  have hu28 := Try.underlying28
  have HO0 := Aside0.mk (show Kd.R k28 28 w w0.heap.size (fun k_ => (P0_ k_ ∨ w.heap.size ≤ k_)) u9000_ l0 from Kd.R_mono ho0 (fun k_ hk => (.inl hk)))
  have HK := Aside0.mk (Kept.refl w (fun k_ => P0_ k_))
  have HW0 := Aside0.mk hB.size
  have HB := Aside0.mk hB
  clear hB
  rw [if_pos c6] at H
  have c6b0 : ((wrap64 (a2 - a1)) == 1) = true := beq_iff_eq.mpr c6
  have c6b1 : ((wrap64 (a2 - a1)) != 1) = false := bne_eq_false_iff_eq.mpr c6
  clear c6
  have H' := Aside0.mk H
  clear H
  go_enter Try.func52, Try.ntmps52
  go_wp2
  go_loopg [10, 11] k (fun kq v10 v11 w' => ∃ (x10_1 : Int) (x11_1 : Int), v10 = .int .i64 x10_1 ∧ v11 = .int .i64 x11_1 ∧ Aside0 (api_Span_52.l0 kq l0 a1 x10_1 x11_1 = some r) ∧ Aside0 (kq ≤ k) ∧ Aside0 (Kd.R k28 28 w' w0.heap.size (fun k_ => (P0_ k_ ∨ w.heap.size ≤ k_)) u9000_ l0) ∧ Aside0 (Kept w w' (fun k_ => P0_ k_)) ∧ Aside0 (Below w0.heap.size w0 w'))
  case atStart => exact ⟨(a2), (a3), (by first | rfl | (simp; done) | (simp [*]; done)), (by first | rfl | (simp; done) | (simp [*]; done)), H', ⟨Nat.le_refl _⟩, ⟨by (with_reducible repeat (first | apply Kd.R_alloc | apply Kd.R_drewN | apply Kd.R_drew)); exact HO0.out⟩, ⟨by repeat (first | (with_reducible first | exact HK.out | apply Kept.alloc | apply Kept.drewN | apply Kept.drew) | exact HK.out)⟩, ⟨by repeat (first | (with_reducible first | exact HB.out | apply below_alloc | apply pw_below_drewN | apply below_drew1) | exact HB.out)⟩⟩
  case round =>
    clear H'
    (try clear p2); (try clear c5); (try clear c6); (try clear c6b0); (try clear c6b1); (try clear p6)
    obtain ⟨x10_1, x11_1, rfl, rfl, HA, HK1, HO_0, HK, HB⟩ := hrel
    cases gk with
    | zero => exact absurd HA.out (by simp [api_Span_52.l0])
    | succ k1 =>
      have H := HA.out
      clear HA
      simp only [api_Span_52.l0] at H
      by_cases c7 : x10_1 < x11_1
      · rw [if_pos c7] at H
        have c7b0 : decide (x10_1 < x11_1) = true := decide_eq_true c7
        clear c7
        obtain ⟨ji8, hji8⟩ : ∃ j_ : Int, (wrap64 ((IntKind.u64.wrap (wrap64 (x10_1 + x11_1))) / 2)) = j_ := ⟨_, rfl⟩
        replace H : (if 0 ≤ (ji8) then (if (ji8) < (l0.length : Int) then (if 0 ≤ a1 then (if a1 < (l0.length : Int) then ((span_order.f k1 ((rd_T28 l0 (ji8)).f0) ((rd_T28 l0 (ji8)).f1) ((rd_T28 l0 (ji8)).f2) ((rd_T28 l0 (ji8)).f3) ((rd_T28 l0 (ji8)).f4) ((rd_T28 l0 (ji8)).f5) ((rd_T28 l0 (ji8)).f6) ((rd_T28 l0 (ji8)).f7) ((rd_T28 l0 a1).f0) ((rd_T28 l0 a1).f1) ((rd_T28 l0 a1).f2) ((rd_T28 l0 a1).f3) ((rd_T28 l0 a1).f4) ((rd_T28 l0 a1).f5) ((rd_T28 l0 a1).f6) ((rd_T28 l0 a1).f7)).bind fun t158 => (if t158 < 0 then (api_Span_52.l0 k1 l0 a1 (wrap64 ((ji8) + 1)) x11_1) else (api_Span_52.l0 k1 l0 a1 x10_1 ji8))) else (none)) else (none)) else (none)) else (none)) = some r := by first | (rw [hji8] at H; exact H) | (simp only [hji8] at H ⊢; exact H)
        have hji8w : (IntKind.i64.wrap ((IntKind.u64.wrap (wrap64 (x10_1 + x11_1))) / 2)) = ji8 := (i64_w _).trans hji8
        by_cases c9 : 0 ≤ (ji8)
        · rw [if_pos c9] at H
          have c9b0 : decide (0 ≤ (ji8)) = true := decide_eq_true c9
          clear c9
          by_cases c10 : (ji8) < (l0.length : Int)
          · rw [if_pos c10] at H
            have c10b0 : decide ((ji8) < (l0.length : Int)) = true := decide_eq_true c10
            clear c10
            by_cases c11 : 0 ≤ a1
            · rw [if_pos c11] at H
              have c11b0 : decide (0 ≤ a1) = true := decide_eq_true c11
              clear c11
              by_cases c12 : a1 < (l0.length : Int)
              · rw [if_pos c12] at H
                have c12b0 : decide (a1 < (l0.length : Int)) = true := decide_eq_true c12
                clear c12
                replace H := Option.bind_eq_some_iff.mp H
                obtain ⟨t158, A130, H⟩ := H
                replace H : (if t158 < 0 then (api_Span_52.l0 k1 l0 a1 (wrap64 ((ji8) + 1)) x11_1) else (api_Span_52.l0 k1 l0 a1 x10_1 ji8)) = some r := H
                have A13 := Aside0.mk A130
                clear A130
                by_cases c14 : t158 < 0
                · rw [if_pos c14] at H
                  have c14b0 : decide (t158 < 0) = true := decide_eq_true c14
                  clear c14
                  have H' := Aside0.mk H
                  clear H
                  try go_wp2
                  have n0_ := Aside0.mk (Kd.R_drew HO_0.out)
                  have n1_ := Aside0.mk (Kept.drew HK.out)
                  have n2_ := Aside0.mk (below_drew1 HB.out)
                  clear HO_0
                  clear HK
                  clear HB
                  have HO_0 := n0_
                  have HK := n1_
                  have HB := n2_
                  clear n0_ n1_ n2_
                  obtain ⟨Ao16, co16, eo16⟩ := Kd.R_slice HO_0.out
                  (first | subst eo16 | (injection eo16 with f1_ f2_ f3_; have f4_ := f1_.symm; have f5_ := f3_.symm; clear f1_ f2_ f3_; subst f4_; subst f5_))
                  have p156 : 0 ≤ ((ji8) : Int) := of_decide_eq_true (by first | (with_reducible assumption) | assumption)
                  have q156 : (ji8) < (l0.length : Int) := of_decide_eq_true (by first | (with_reducible assumption) | assumption)
                  obtain ⟨ad156, e156, hx156_0, hx156_1, hx156_2, hx156_3, hx156_4, hx156_5, hx156_6, hx156_7⟩ := at_T28 (Kd.R_reads' HO_0.out).2.2 (ji8) p156 q156
                  cases e156
                  replace p156 := eq_true p156
                  replace q156 := eq_true q156
                  have p157 : 0 ≤ (a1 : Int) := of_decide_eq_true (by first | (with_reducible assumption) | assumption)
                  have q157 : a1 < (l0.length : Int) := of_decide_eq_true (by first | (with_reducible assumption) | assumption)
                  obtain ⟨ad157, e157, hx157_0, hx157_1, hx157_2, hx157_3, hx157_4, hx157_5, hx157_6, hx157_7⟩ := at_T28 (Kd.R_reads' HO_0.out).2.2 a1 p157 q157
                  obtain rfl : ad156 = ad157 := (by injection e157)
                  replace p157 := eq_true p157
                  replace q157 := eq_true q157
                  refine start_ (n := 11) (S := fun w' => w'.cell? (ad156.add (((ji8)).toNat * 8)) = some (.int .u64 ((rd_T28 l0 (ji8)).f0)) ∧ w'.cell? ⟨(ad156.add (((ji8)).toNat * 8)).block, (ad156.add (((ji8)).toNat * 8)).off + 1, none⟩ = some (.int .u64 ((rd_T28 l0 (ji8)).f1)) ∧ w'.cell? ⟨(ad156.add (((ji8)).toNat * 8)).block, (ad156.add (((ji8)).toNat * 8)).off + 2, none⟩ = some (.int .u64 ((rd_T28 l0 (ji8)).f2)) ∧ w'.cell? ⟨(ad156.add (((ji8)).toNat * 8)).block, (ad156.add (((ji8)).toNat * 8)).off + 3, none⟩ = some (.int .u64 ((rd_T28 l0 (ji8)).f3)) ∧ w'.cell? ⟨(ad156.add (((ji8)).toNat * 8)).block, (ad156.add (((ji8)).toNat * 8)).off + 4, none⟩ = some (.int .u64 ((rd_T28 l0 (ji8)).f4)) ∧ w'.cell? ⟨(ad156.add (((ji8)).toNat * 8)).block, (ad156.add (((ji8)).toNat * 8)).off + 5, none⟩ = some (.string ((rd_T28 l0 (ji8)).f5)) ∧ w'.cell? ⟨(ad156.add (((ji8)).toNat * 8)).block, (ad156.add (((ji8)).toNat * 8)).off + 6, none⟩ = some (.string ((rd_T28 l0 (ji8)).f6)) ∧ w'.cell? ⟨(ad156.add (((ji8)).toNat * 8)).block, (ad156.add (((ji8)).toNat * 8)).off + 7, none⟩ = some (.bool ((rd_T28 l0 (ji8)).f7)) ∧ w'.cell? (ad156.add ((a1).toNat * 8)) = some (.int .u64 ((rd_T28 l0 a1).f0)) ∧ w'.cell? ⟨(ad156.add ((a1).toNat * 8)).block, (ad156.add ((a1).toNat * 8)).off + 1, none⟩ = some (.int .u64 ((rd_T28 l0 a1).f1)) ∧ w'.cell? ⟨(ad156.add ((a1).toNat * 8)).block, (ad156.add ((a1).toNat * 8)).off + 2, none⟩ = some (.int .u64 ((rd_T28 l0 a1).f2)) ∧ w'.cell? ⟨(ad156.add ((a1).toNat * 8)).block, (ad156.add ((a1).toNat * 8)).off + 3, none⟩ = some (.int .u64 ((rd_T28 l0 a1).f3)) ∧ w'.cell? ⟨(ad156.add ((a1).toNat * 8)).block, (ad156.add ((a1).toNat * 8)).off + 4, none⟩ = some (.int .u64 ((rd_T28 l0 a1).f4)) ∧ w'.cell? ⟨(ad156.add ((a1).toNat * 8)).block, (ad156.add ((a1).toNat * 8)).off + 5, none⟩ = some (.string ((rd_T28 l0 a1).f5)) ∧ w'.cell? ⟨(ad156.add ((a1).toNat * 8)).block, (ad156.add ((a1).toNat * 8)).off + 6, none⟩ = some (.string ((rd_T28 l0 a1).f6)) ∧ w'.cell? ⟨(ad156.add ((a1).toNat * 8)).block, (ad156.add ((a1).toNat * 8)).off + 7, none⟩ = some (.bool ((rd_T28 l0 a1).f7))) (ds := []) #[false, false, false, false, false, false, false, false, false, false, false] (by kernel_rfl) rfl rfl ⟨hx156_0, hx156_1, hx156_2, hx156_3, hx156_4, hx156_5, hx156_6, hx156_7, hx157_0, hx157_1, hx157_2, hx157_3, hx157_4, hx157_5, hx157_6, hx157_7⟩ (fun hHeld => ?_); refine with_tabW api_Span_52.tab5 api_Span_52.bits5 (fun HT_ HW_ => ?_)
                  generalize wr.drew = w15 at HO_0 HK HB hx156_0 hx156_1 hx156_2 hx156_3 hx156_4 hx156_5 hx156_6 hx156_7 hx157_0 hx157_1 hx157_2 hx157_3 hx157_4 hx157_5 hx157_6 hx157_7 hHeld ⊢
                  refine pure_ (i := 0) (N := some 40) (v := ?_) (a' := ?_) #[true, false, false, false, false, false, false, false, false, false, false] rfl rfl (any_of HT_.out (by kernel_rfl)) (fun _ _ _ h => h) (Or.inl ⟨by rfl, ?_⟩) ?_ ?_
                  rotate_left
                  · intro w'
                    go_simp
                    with_reducible rfl
                  rotate_left
                  · simp only [Act.put, List.setIfInBounds_toArray, List.set_cons_zero, List.set_cons_succ, i64_w, i32_w]
                    rfl
                  refine pure_ (i := 1) (N := some 41) (v := ?_) (a' := ?_) #[true, true, false, false, false, false, false, false, false, false, false] rfl rfl (any_of HT_.out (by kernel_rfl)) (fun _ _ _ h => h) (Or.inl ⟨by rfl, ?_⟩) ?_ ?_
                  rotate_left
                  · intro w'
                    go_simp
                    with_reducible rfl
                  rotate_left
                  · simp only [Act.put, List.setIfInBounds_toArray, List.set_cons_zero, List.set_cons_succ, i64_w, i32_w]
                    rfl
                  refine pure_ (i := 2) (N := some 42) (v := ?_) (a' := ?_) #[true, true, true, false, false, false, false, false, false, false, false] rfl rfl (any_of HT_.out (by kernel_rfl)) (fun _ _ _ h => h) (Or.inl ⟨by rfl, ?_⟩) ?_ ?_
                  rotate_left
                  · intro w'
                    go_simp
                    with_reducible rfl
                  rotate_left
                  · simp only [Act.put, List.setIfInBounds_toArray, List.set_cons_zero, List.set_cons_succ, i64_w, i32_w]
                    rfl
                  refine pure_ (i := 3) (N := some 43) (v := ?_) (a' := ?_) #[true, true, true, true, false, false, false, false, false, false, false] rfl rfl (any_of HT_.out (by kernel_rfl)) (fun _ _ _ h => h) (Or.inl ⟨by rfl, ?_⟩) ?_ ?_
                  rotate_left
                  · intro w'
                    go_simp
                    with_reducible rfl
                  rotate_left
                  · simp only [Act.put, List.setIfInBounds_toArray, List.set_cons_zero, List.set_cons_succ, i64_w, i32_w]
                    rfl
                  refine pure_ (i := 5) (N := some 45) (v := ?_) (a' := ?_) #[true, true, true, true, false, true, false, false, false, false, false] rfl rfl (any_of HT_.out (by kernel_rfl)) (fun _ _ _ h => h) (Or.inl ⟨by rfl, ?_⟩) ?_ ?_
                  rotate_left
                  · intro w'
                    go_simp
                    with_reducible rfl
                  rotate_left
                  · simp only [Act.put, List.setIfInBounds_toArray, List.set_cons_zero, List.set_cons_succ, i64_w, i32_w]
                    rfl
                  refine pure_ (i := 6) (N := some 46) (v := ?_) (a' := ?_) #[true, true, true, true, false, true, true, false, false, false, false] rfl rfl (any_of HT_.out (by kernel_rfl)) (fun _ _ _ h => h) (Or.inl ⟨by rfl, ?_⟩) ?_ ?_
                  rotate_left
                  · intro w'
                    go_simp
                    with_reducible rfl
                  rotate_left
                  · simp only [Act.put, List.setIfInBounds_toArray, List.set_cons_zero, List.set_cons_succ, i64_w, i32_w]
                    rfl
                  refine pure_ (i := 7) (N := some 47) (v := ?_) (a' := ?_) #[true, true, true, true, false, true, true, true, false, false, false] rfl rfl (any_of HT_.out (by kernel_rfl)) (fun _ _ _ h => h) (Or.inl ⟨by rfl, ?_⟩) ?_ ?_
                  rotate_left
                  · intro w'
                    go_simp
                    with_reducible rfl
                  rotate_left
                  · simp only [Act.put, List.setIfInBounds_toArray, List.set_cons_zero, List.set_cons_succ, i64_w, i32_w]
                    rfl
                  refine take_ (i := 4) (N := some 44) (v := ?_) (a' := ?_) #[true, true, true, true, true, true, true, true, false, false, false] rfl rfl (take_ofW HT_.out HW_.out (by kernel_rfl)) (fun _ _ _ h => h) (Or.inl ⟨by rfl, ?_⟩) hHeld ?_ ?_
                  rotate_left
                  · rintro w' ⟨s0, s1, s2, s3, s4, s5, s6, s7, s8, s9, s10, s11, s12, s13, s14, s15⟩
                    go_simp
                    with_reducible rfl
                  rotate_left
                  · simp only [Act.put, List.setIfInBounds_toArray, List.set_cons_zero, List.set_cons_succ, i64_w, i32_w]
                    rfl
                  refine take_ (i := 8) (N := some 48) (v := ?_) (a' := ?_) #[true, true, true, true, true, true, true, true, true, false, false] rfl rfl (take_ofW HT_.out HW_.out (by kernel_rfl)) (fun _ _ _ h => h) (Or.inl ⟨by rfl, ?_⟩) hHeld ?_ ?_
                  rotate_left
                  · rintro w' ⟨s0, s1, s2, s3, s4, s5, s6, s7, s8, s9, s10, s11, s12, s13, s14, s15⟩
                    go_simp
                    with_reducible rfl
                  rotate_left
                  · simp only [Act.put, List.setIfInBounds_toArray, List.set_cons_zero, List.set_cons_succ, i64_w, i32_w]
                    rfl
                  refine one_ (i := 9) (N := some 49) #[true, true, true, true, true, true, true, true, true, true, false] rfl rfl (one_of HT_.out (by kernel_rfl)) (by decide) (fun K hK => ?_)
                  refine Hand.goesV_ Try.func35 (by kernel_rfl) rfl #[.agg #[.int .u64 ((rd_T28 l0 (ji8)).f0), .int .u64 ((rd_T28 l0 (ji8)).f1), .int .u64 ((rd_T28 l0 (ji8)).f2), .int .u64 ((rd_T28 l0 (ji8)).f3), .int .u64 ((rd_T28 l0 (ji8)).f4), .string ((rd_T28 l0 (ji8)).f5), .string ((rd_T28 l0 (ji8)).f6), .bool ((rd_T28 l0 (ji8)).f7)], .agg #[.int .u64 ((rd_T28 l0 a1).f0), .int .u64 ((rd_T28 l0 a1).f1), .int .u64 ((rd_T28 l0 a1).f2), .int .u64 ((rd_T28 l0 a1).f3), .int .u64 ((rd_T28 l0 a1).f4), .string ((rd_T28 l0 a1).f5), .string ((rd_T28 l0 a1).f6), .bool ((rd_T28 l0 a1).f7)]] (by rfl) rfl rfl (by rfl) (by (try simp only [List.map_toArray, List.map_cons, List.map_nil]); first | done | (simp only [hji8]; rfl) | rfl | (simp only [List.length_drop, List.length_take]; rfl)) ?_
                  with_reducible refine (span_order.calls k1 ((rd_T28 l0 (ji8)).f0) ((rd_T28 l0 (ji8)).f1) ((rd_T28 l0 (ji8)).f2) ((rd_T28 l0 (ji8)).f3) ((rd_T28 l0 (ji8)).f4) ((rd_T28 l0 (ji8)).f5) ((rd_T28 l0 (ji8)).f6) ((rd_T28 l0 (ji8)).f7) ((rd_T28 l0 a1).f0) ((rd_T28 l0 a1).f1) ((rd_T28 l0 a1).f2) ((rd_T28 l0 a1).f3) ((rd_T28 l0 a1).f4) ((rd_T28 l0 a1).f5) ((rd_T28 l0 a1).f6) ((rd_T28 l0 a1).f7) t158 _ A13.out).mono ?_
                  rintro e w17 ⟨rfl, hb⟩
                  have HS0_ := (hb.cell (World.block_lt_of_cell? _ _ (hHeld.1))).trans (hHeld.1)
                  have HS1_ := (hb.cell (World.block_lt_of_cell? _ _ (hHeld.2.1))).trans (hHeld.2.1)
                  have HS2_ := (hb.cell (World.block_lt_of_cell? _ _ (hHeld.2.2.1))).trans (hHeld.2.2.1)
                  have HS3_ := (hb.cell (World.block_lt_of_cell? _ _ (hHeld.2.2.2.1))).trans (hHeld.2.2.2.1)
                  have HS4_ := (hb.cell (World.block_lt_of_cell? _ _ (hHeld.2.2.2.2.1))).trans (hHeld.2.2.2.2.1)
                  have HS5_ := (hb.cell (World.block_lt_of_cell? _ _ (hHeld.2.2.2.2.2.1))).trans (hHeld.2.2.2.2.2.1)
                  have HS6_ := (hb.cell (World.block_lt_of_cell? _ _ (hHeld.2.2.2.2.2.2.1))).trans (hHeld.2.2.2.2.2.2.1)
                  have HS7_ := (hb.cell (World.block_lt_of_cell? _ _ (hHeld.2.2.2.2.2.2.2.1))).trans (hHeld.2.2.2.2.2.2.2.1)
                  have HS8_ := (hb.cell (World.block_lt_of_cell? _ _ (hHeld.2.2.2.2.2.2.2.2.1))).trans (hHeld.2.2.2.2.2.2.2.2.1)
                  have HS9_ := (hb.cell (World.block_lt_of_cell? _ _ (hHeld.2.2.2.2.2.2.2.2.2.1))).trans (hHeld.2.2.2.2.2.2.2.2.2.1)
                  have HS10_ := (hb.cell (World.block_lt_of_cell? _ _ (hHeld.2.2.2.2.2.2.2.2.2.2.1))).trans (hHeld.2.2.2.2.2.2.2.2.2.2.1)
                  have HS11_ := (hb.cell (World.block_lt_of_cell? _ _ (hHeld.2.2.2.2.2.2.2.2.2.2.2.1))).trans (hHeld.2.2.2.2.2.2.2.2.2.2.2.1)
                  have HS12_ := (hb.cell (World.block_lt_of_cell? _ _ (hHeld.2.2.2.2.2.2.2.2.2.2.2.2.1))).trans (hHeld.2.2.2.2.2.2.2.2.2.2.2.2.1)
                  have HS13_ := (hb.cell (World.block_lt_of_cell? _ _ (hHeld.2.2.2.2.2.2.2.2.2.2.2.2.2.1))).trans (hHeld.2.2.2.2.2.2.2.2.2.2.2.2.2.1)
                  have HS14_ := (hb.cell (World.block_lt_of_cell? _ _ (hHeld.2.2.2.2.2.2.2.2.2.2.2.2.2.2.1))).trans (hHeld.2.2.2.2.2.2.2.2.2.2.2.2.2.2.1)
                  have HS15_ := (hb.cell (World.block_lt_of_cell? _ _ (hHeld.2.2.2.2.2.2.2.2.2.2.2.2.2.2.2))).trans (hHeld.2.2.2.2.2.2.2.2.2.2.2.2.2.2.2)
                  refine ⟨_, rfl, ?_⟩
                  have n0_ := Aside0.mk (Kd.R_below (by (with_reducible repeat (first | apply Kd.R_alloc | apply Kd.R_drewN | apply Kd.R_drew)); exact HO_0.out) hb)
                  have n1_ := Aside0.mk (Kept.below (S := (fun k_ => P0_ k_)) (by repeat (first | (with_reducible first | exact HK.out | apply Kept.alloc | apply Kept.drewN | apply Kept.drew) | exact HK.out)) hb)
                  have n2_ := Aside0.mk (below_step (by repeat (first | (with_reducible first | exact HB.out | apply below_alloc | apply pw_below_drewN | apply below_drew1) | exact HB.out)) hb)
                  clear HO_0
                  clear HK
                  clear HB
                  have HO_0 := n0_
                  have HK := n1_
                  have HB := n2_
                  clear n0_ n1_ n2_
                  (try clear hb)
                  (try clear hb2)
                  (try clear hk)
                  (try clear hi)
                  refine hK.out _ _ ⟨HS0_, HS1_, HS2_, HS3_, HS4_, HS5_, HS6_, HS7_, HS8_, HS9_, HS10_, HS11_, HS12_, HS13_, HS14_, HS15_⟩ (fun hHeld => ?_)
                  clear hK K
                  refine norm_ (a' := ?_) ?_ ?_
                  rotate_left
                  · show Act.put _ (some 49) _ = _
                    simp only [Act.put, List.setIfInBounds_toArray, List.set_cons_zero, List.set_cons_succ, i64_w, i32_w]
                    rfl
                  refine pure_ (i := 10) (N := some 50) (v := ?_) (a' := ?_) #[true, true, true, true, true, true, true, true, true, true, true] rfl rfl (any_of HT_.out (by kernel_rfl)) (fun _ _ _ h => h) (Or.inl ⟨by rfl, ?_⟩) ?_ ?_
                  rotate_left
                  · intro w'
                    go_simp
                    with_reducible rfl
                  rotate_left
                  · simp only [Act.put, List.setIfInBounds_toArray, List.set_cons_zero, List.set_cons_succ, i64_w, i32_w]
                    rfl
                  refine done_ (done_of HT_.out (by kernel_rfl)) ?_
                  try go_wp2
                  go_roundg k1
                  case measure => have := HK1.out; omega
                  case rel => exact ⟨(wrap64 ((ji8) + 1)), (x11_1), (by first | rfl | (simp; done) | (simp only [← hji8] <;> (first | rfl | simp)) | (simp [*]; done)), (by first | rfl | (simp; done) | (simp [*]; done)), H', ⟨by have := HK1.out; omega⟩, ⟨by (with_reducible repeat (first | apply Kd.R_alloc | apply Kd.R_drewN | apply Kd.R_drew)); exact HO_0.out⟩, ⟨by repeat (first | (with_reducible first | exact HK.out | apply Kept.alloc | apply Kept.drewN | apply Kept.drew) | exact HK.out)⟩, ⟨by repeat (first | (with_reducible first | exact HB.out | apply below_alloc | apply pw_below_drewN | apply below_drew1) | exact HB.out)⟩⟩
                · rw [if_neg c14] at H
                  have c14b0 : decide (t158 < 0) = false := decide_eq_false c14
                  clear c14
                  have H' := Aside0.mk H
                  clear H
                  try go_wp2
                  have n0_ := Aside0.mk (Kd.R_drew HO_0.out)
                  have n1_ := Aside0.mk (Kept.drew HK.out)
                  have n2_ := Aside0.mk (below_drew1 HB.out)
                  clear HO_0
                  clear HK
                  clear HB
                  have HO_0 := n0_
                  have HK := n1_
                  have HB := n2_
                  clear n0_ n1_ n2_
                  obtain ⟨Ao19, co19, eo19⟩ := Kd.R_slice HO_0.out
                  (first | subst eo19 | (injection eo19 with f1_ f2_ f3_; have f4_ := f1_.symm; have f5_ := f3_.symm; clear f1_ f2_ f3_; subst f4_; subst f5_))
                  have p156 : 0 ≤ ((ji8) : Int) := of_decide_eq_true (by first | (with_reducible assumption) | assumption)
                  have q156 : (ji8) < (l0.length : Int) := of_decide_eq_true (by first | (with_reducible assumption) | assumption)
                  obtain ⟨ad156, e156, hx156_0, hx156_1, hx156_2, hx156_3, hx156_4, hx156_5, hx156_6, hx156_7⟩ := at_T28 (Kd.R_reads' HO_0.out).2.2 (ji8) p156 q156
                  cases e156
                  replace p156 := eq_true p156
                  replace q156 := eq_true q156
                  have p157 : 0 ≤ (a1 : Int) := of_decide_eq_true (by first | (with_reducible assumption) | assumption)
                  have q157 : a1 < (l0.length : Int) := of_decide_eq_true (by first | (with_reducible assumption) | assumption)
                  obtain ⟨ad157, e157, hx157_0, hx157_1, hx157_2, hx157_3, hx157_4, hx157_5, hx157_6, hx157_7⟩ := at_T28 (Kd.R_reads' HO_0.out).2.2 a1 p157 q157
                  obtain rfl : ad156 = ad157 := (by injection e157)
                  replace p157 := eq_true p157
                  replace q157 := eq_true q157
                  refine start_ (n := 11) (S := fun w' => w'.cell? (ad156.add (((ji8)).toNat * 8)) = some (.int .u64 ((rd_T28 l0 (ji8)).f0)) ∧ w'.cell? ⟨(ad156.add (((ji8)).toNat * 8)).block, (ad156.add (((ji8)).toNat * 8)).off + 1, none⟩ = some (.int .u64 ((rd_T28 l0 (ji8)).f1)) ∧ w'.cell? ⟨(ad156.add (((ji8)).toNat * 8)).block, (ad156.add (((ji8)).toNat * 8)).off + 2, none⟩ = some (.int .u64 ((rd_T28 l0 (ji8)).f2)) ∧ w'.cell? ⟨(ad156.add (((ji8)).toNat * 8)).block, (ad156.add (((ji8)).toNat * 8)).off + 3, none⟩ = some (.int .u64 ((rd_T28 l0 (ji8)).f3)) ∧ w'.cell? ⟨(ad156.add (((ji8)).toNat * 8)).block, (ad156.add (((ji8)).toNat * 8)).off + 4, none⟩ = some (.int .u64 ((rd_T28 l0 (ji8)).f4)) ∧ w'.cell? ⟨(ad156.add (((ji8)).toNat * 8)).block, (ad156.add (((ji8)).toNat * 8)).off + 5, none⟩ = some (.string ((rd_T28 l0 (ji8)).f5)) ∧ w'.cell? ⟨(ad156.add (((ji8)).toNat * 8)).block, (ad156.add (((ji8)).toNat * 8)).off + 6, none⟩ = some (.string ((rd_T28 l0 (ji8)).f6)) ∧ w'.cell? ⟨(ad156.add (((ji8)).toNat * 8)).block, (ad156.add (((ji8)).toNat * 8)).off + 7, none⟩ = some (.bool ((rd_T28 l0 (ji8)).f7)) ∧ w'.cell? (ad156.add ((a1).toNat * 8)) = some (.int .u64 ((rd_T28 l0 a1).f0)) ∧ w'.cell? ⟨(ad156.add ((a1).toNat * 8)).block, (ad156.add ((a1).toNat * 8)).off + 1, none⟩ = some (.int .u64 ((rd_T28 l0 a1).f1)) ∧ w'.cell? ⟨(ad156.add ((a1).toNat * 8)).block, (ad156.add ((a1).toNat * 8)).off + 2, none⟩ = some (.int .u64 ((rd_T28 l0 a1).f2)) ∧ w'.cell? ⟨(ad156.add ((a1).toNat * 8)).block, (ad156.add ((a1).toNat * 8)).off + 3, none⟩ = some (.int .u64 ((rd_T28 l0 a1).f3)) ∧ w'.cell? ⟨(ad156.add ((a1).toNat * 8)).block, (ad156.add ((a1).toNat * 8)).off + 4, none⟩ = some (.int .u64 ((rd_T28 l0 a1).f4)) ∧ w'.cell? ⟨(ad156.add ((a1).toNat * 8)).block, (ad156.add ((a1).toNat * 8)).off + 5, none⟩ = some (.string ((rd_T28 l0 a1).f5)) ∧ w'.cell? ⟨(ad156.add ((a1).toNat * 8)).block, (ad156.add ((a1).toNat * 8)).off + 6, none⟩ = some (.string ((rd_T28 l0 a1).f6)) ∧ w'.cell? ⟨(ad156.add ((a1).toNat * 8)).block, (ad156.add ((a1).toNat * 8)).off + 7, none⟩ = some (.bool ((rd_T28 l0 a1).f7))) (ds := []) #[false, false, false, false, false, false, false, false, false, false, false] (by kernel_rfl) rfl rfl ⟨hx156_0, hx156_1, hx156_2, hx156_3, hx156_4, hx156_5, hx156_6, hx156_7, hx157_0, hx157_1, hx157_2, hx157_3, hx157_4, hx157_5, hx157_6, hx157_7⟩ (fun hHeld => ?_); refine with_tabW api_Span_52.tab5 api_Span_52.bits5 (fun HT_ HW_ => ?_)
                  generalize wr.drew = w18 at HO_0 HK HB hx156_0 hx156_1 hx156_2 hx156_3 hx156_4 hx156_5 hx156_6 hx156_7 hx157_0 hx157_1 hx157_2 hx157_3 hx157_4 hx157_5 hx157_6 hx157_7 hHeld ⊢
                  refine pure_ (i := 0) (N := some 40) (v := ?_) (a' := ?_) #[true, false, false, false, false, false, false, false, false, false, false] rfl rfl (any_of HT_.out (by kernel_rfl)) (fun _ _ _ h => h) (Or.inl ⟨by rfl, ?_⟩) ?_ ?_
                  rotate_left
                  · intro w'
                    go_simp
                    with_reducible rfl
                  rotate_left
                  · simp only [Act.put, List.setIfInBounds_toArray, List.set_cons_zero, List.set_cons_succ, i64_w, i32_w]
                    rfl
                  refine pure_ (i := 1) (N := some 41) (v := ?_) (a' := ?_) #[true, true, false, false, false, false, false, false, false, false, false] rfl rfl (any_of HT_.out (by kernel_rfl)) (fun _ _ _ h => h) (Or.inl ⟨by rfl, ?_⟩) ?_ ?_
                  rotate_left
                  · intro w'
                    go_simp
                    with_reducible rfl
                  rotate_left
                  · simp only [Act.put, List.setIfInBounds_toArray, List.set_cons_zero, List.set_cons_succ, i64_w, i32_w]
                    rfl
                  refine pure_ (i := 2) (N := some 42) (v := ?_) (a' := ?_) #[true, true, true, false, false, false, false, false, false, false, false] rfl rfl (any_of HT_.out (by kernel_rfl)) (fun _ _ _ h => h) (Or.inl ⟨by rfl, ?_⟩) ?_ ?_
                  rotate_left
                  · intro w'
                    go_simp
                    with_reducible rfl
                  rotate_left
                  · simp only [Act.put, List.setIfInBounds_toArray, List.set_cons_zero, List.set_cons_succ, i64_w, i32_w]
                    rfl
                  refine pure_ (i := 3) (N := some 43) (v := ?_) (a' := ?_) #[true, true, true, true, false, false, false, false, false, false, false] rfl rfl (any_of HT_.out (by kernel_rfl)) (fun _ _ _ h => h) (Or.inl ⟨by rfl, ?_⟩) ?_ ?_
                  rotate_left
                  · intro w'
                    go_simp
                    with_reducible rfl
                  rotate_left
                  · simp only [Act.put, List.setIfInBounds_toArray, List.set_cons_zero, List.set_cons_succ, i64_w, i32_w]
                    rfl
                  refine pure_ (i := 5) (N := some 45) (v := ?_) (a' := ?_) #[true, true, true, true, false, true, false, false, false, false, false] rfl rfl (any_of HT_.out (by kernel_rfl)) (fun _ _ _ h => h) (Or.inl ⟨by rfl, ?_⟩) ?_ ?_
                  rotate_left
                  · intro w'
                    go_simp
                    with_reducible rfl
                  rotate_left
                  · simp only [Act.put, List.setIfInBounds_toArray, List.set_cons_zero, List.set_cons_succ, i64_w, i32_w]
                    rfl
                  refine pure_ (i := 6) (N := some 46) (v := ?_) (a' := ?_) #[true, true, true, true, false, true, true, false, false, false, false] rfl rfl (any_of HT_.out (by kernel_rfl)) (fun _ _ _ h => h) (Or.inl ⟨by rfl, ?_⟩) ?_ ?_
                  rotate_left
                  · intro w'
                    go_simp
                    with_reducible rfl
                  rotate_left
                  · simp only [Act.put, List.setIfInBounds_toArray, List.set_cons_zero, List.set_cons_succ, i64_w, i32_w]
                    rfl
                  refine pure_ (i := 7) (N := some 47) (v := ?_) (a' := ?_) #[true, true, true, true, false, true, true, true, false, false, false] rfl rfl (any_of HT_.out (by kernel_rfl)) (fun _ _ _ h => h) (Or.inl ⟨by rfl, ?_⟩) ?_ ?_
                  rotate_left
                  · intro w'
                    go_simp
                    with_reducible rfl
                  rotate_left
                  · simp only [Act.put, List.setIfInBounds_toArray, List.set_cons_zero, List.set_cons_succ, i64_w, i32_w]
                    rfl
                  refine take_ (i := 4) (N := some 44) (v := ?_) (a' := ?_) #[true, true, true, true, true, true, true, true, false, false, false] rfl rfl (take_ofW HT_.out HW_.out (by kernel_rfl)) (fun _ _ _ h => h) (Or.inl ⟨by rfl, ?_⟩) hHeld ?_ ?_
                  rotate_left
                  · rintro w' ⟨s0, s1, s2, s3, s4, s5, s6, s7, s8, s9, s10, s11, s12, s13, s14, s15⟩
                    go_simp
                    with_reducible rfl
                  rotate_left
                  · simp only [Act.put, List.setIfInBounds_toArray, List.set_cons_zero, List.set_cons_succ, i64_w, i32_w]
                    rfl
                  refine take_ (i := 8) (N := some 48) (v := ?_) (a' := ?_) #[true, true, true, true, true, true, true, true, true, false, false] rfl rfl (take_ofW HT_.out HW_.out (by kernel_rfl)) (fun _ _ _ h => h) (Or.inl ⟨by rfl, ?_⟩) hHeld ?_ ?_
                  rotate_left
                  · rintro w' ⟨s0, s1, s2, s3, s4, s5, s6, s7, s8, s9, s10, s11, s12, s13, s14, s15⟩
                    go_simp
                    with_reducible rfl
                  rotate_left
                  · simp only [Act.put, List.setIfInBounds_toArray, List.set_cons_zero, List.set_cons_succ, i64_w, i32_w]
                    rfl
                  refine one_ (i := 9) (N := some 49) #[true, true, true, true, true, true, true, true, true, true, false] rfl rfl (one_of HT_.out (by kernel_rfl)) (by decide) (fun K hK => ?_)
                  refine Hand.goesV_ Try.func35 (by kernel_rfl) rfl #[.agg #[.int .u64 ((rd_T28 l0 (ji8)).f0), .int .u64 ((rd_T28 l0 (ji8)).f1), .int .u64 ((rd_T28 l0 (ji8)).f2), .int .u64 ((rd_T28 l0 (ji8)).f3), .int .u64 ((rd_T28 l0 (ji8)).f4), .string ((rd_T28 l0 (ji8)).f5), .string ((rd_T28 l0 (ji8)).f6), .bool ((rd_T28 l0 (ji8)).f7)], .agg #[.int .u64 ((rd_T28 l0 a1).f0), .int .u64 ((rd_T28 l0 a1).f1), .int .u64 ((rd_T28 l0 a1).f2), .int .u64 ((rd_T28 l0 a1).f3), .int .u64 ((rd_T28 l0 a1).f4), .string ((rd_T28 l0 a1).f5), .string ((rd_T28 l0 a1).f6), .bool ((rd_T28 l0 a1).f7)]] (by rfl) rfl rfl (by rfl) (by (try simp only [List.map_toArray, List.map_cons, List.map_nil]); first | done | (simp only [hji8]; rfl) | rfl | (simp only [List.length_drop, List.length_take]; rfl)) ?_
                  with_reducible refine (span_order.calls k1 ((rd_T28 l0 (ji8)).f0) ((rd_T28 l0 (ji8)).f1) ((rd_T28 l0 (ji8)).f2) ((rd_T28 l0 (ji8)).f3) ((rd_T28 l0 (ji8)).f4) ((rd_T28 l0 (ji8)).f5) ((rd_T28 l0 (ji8)).f6) ((rd_T28 l0 (ji8)).f7) ((rd_T28 l0 a1).f0) ((rd_T28 l0 a1).f1) ((rd_T28 l0 a1).f2) ((rd_T28 l0 a1).f3) ((rd_T28 l0 a1).f4) ((rd_T28 l0 a1).f5) ((rd_T28 l0 a1).f6) ((rd_T28 l0 a1).f7) t158 _ A13.out).mono ?_
                  rintro e w20 ⟨rfl, hb⟩
                  have HS0_ := (hb.cell (World.block_lt_of_cell? _ _ (hHeld.1))).trans (hHeld.1)
                  have HS1_ := (hb.cell (World.block_lt_of_cell? _ _ (hHeld.2.1))).trans (hHeld.2.1)
                  have HS2_ := (hb.cell (World.block_lt_of_cell? _ _ (hHeld.2.2.1))).trans (hHeld.2.2.1)
                  have HS3_ := (hb.cell (World.block_lt_of_cell? _ _ (hHeld.2.2.2.1))).trans (hHeld.2.2.2.1)
                  have HS4_ := (hb.cell (World.block_lt_of_cell? _ _ (hHeld.2.2.2.2.1))).trans (hHeld.2.2.2.2.1)
                  have HS5_ := (hb.cell (World.block_lt_of_cell? _ _ (hHeld.2.2.2.2.2.1))).trans (hHeld.2.2.2.2.2.1)
                  have HS6_ := (hb.cell (World.block_lt_of_cell? _ _ (hHeld.2.2.2.2.2.2.1))).trans (hHeld.2.2.2.2.2.2.1)
                  have HS7_ := (hb.cell (World.block_lt_of_cell? _ _ (hHeld.2.2.2.2.2.2.2.1))).trans (hHeld.2.2.2.2.2.2.2.1)
                  have HS8_ := (hb.cell (World.block_lt_of_cell? _ _ (hHeld.2.2.2.2.2.2.2.2.1))).trans (hHeld.2.2.2.2.2.2.2.2.1)
                  have HS9_ := (hb.cell (World.block_lt_of_cell? _ _ (hHeld.2.2.2.2.2.2.2.2.2.1))).trans (hHeld.2.2.2.2.2.2.2.2.2.1)
                  have HS10_ := (hb.cell (World.block_lt_of_cell? _ _ (hHeld.2.2.2.2.2.2.2.2.2.2.1))).trans (hHeld.2.2.2.2.2.2.2.2.2.2.1)
                  have HS11_ := (hb.cell (World.block_lt_of_cell? _ _ (hHeld.2.2.2.2.2.2.2.2.2.2.2.1))).trans (hHeld.2.2.2.2.2.2.2.2.2.2.2.1)
                  have HS12_ := (hb.cell (World.block_lt_of_cell? _ _ (hHeld.2.2.2.2.2.2.2.2.2.2.2.2.1))).trans (hHeld.2.2.2.2.2.2.2.2.2.2.2.2.1)
                  have HS13_ := (hb.cell (World.block_lt_of_cell? _ _ (hHeld.2.2.2.2.2.2.2.2.2.2.2.2.2.1))).trans (hHeld.2.2.2.2.2.2.2.2.2.2.2.2.2.1)
                  have HS14_ := (hb.cell (World.block_lt_of_cell? _ _ (hHeld.2.2.2.2.2.2.2.2.2.2.2.2.2.2.1))).trans (hHeld.2.2.2.2.2.2.2.2.2.2.2.2.2.2.1)
                  have HS15_ := (hb.cell (World.block_lt_of_cell? _ _ (hHeld.2.2.2.2.2.2.2.2.2.2.2.2.2.2.2))).trans (hHeld.2.2.2.2.2.2.2.2.2.2.2.2.2.2.2)
                  refine ⟨_, rfl, ?_⟩
                  have n0_ := Aside0.mk (Kd.R_below (by (with_reducible repeat (first | apply Kd.R_alloc | apply Kd.R_drewN | apply Kd.R_drew)); exact HO_0.out) hb)
                  have n1_ := Aside0.mk (Kept.below (S := (fun k_ => P0_ k_)) (by repeat (first | (with_reducible first | exact HK.out | apply Kept.alloc | apply Kept.drewN | apply Kept.drew) | exact HK.out)) hb)
                  have n2_ := Aside0.mk (below_step (by repeat (first | (with_reducible first | exact HB.out | apply below_alloc | apply pw_below_drewN | apply below_drew1) | exact HB.out)) hb)
                  clear HO_0
                  clear HK
                  clear HB
                  have HO_0 := n0_
                  have HK := n1_
                  have HB := n2_
                  clear n0_ n1_ n2_
                  (try clear hb)
                  (try clear hb2)
                  (try clear hk)
                  (try clear hi)
                  refine hK.out _ _ ⟨HS0_, HS1_, HS2_, HS3_, HS4_, HS5_, HS6_, HS7_, HS8_, HS9_, HS10_, HS11_, HS12_, HS13_, HS14_, HS15_⟩ (fun hHeld => ?_)
                  clear hK K
                  refine norm_ (a' := ?_) ?_ ?_
                  rotate_left
                  · show Act.put _ (some 49) _ = _
                    simp only [Act.put, List.setIfInBounds_toArray, List.set_cons_zero, List.set_cons_succ, i64_w, i32_w]
                    rfl
                  refine pure_ (i := 10) (N := some 50) (v := ?_) (a' := ?_) #[true, true, true, true, true, true, true, true, true, true, true] rfl rfl (any_of HT_.out (by kernel_rfl)) (fun _ _ _ h => h) (Or.inl ⟨by rfl, ?_⟩) ?_ ?_
                  rotate_left
                  · intro w'
                    go_simp
                    with_reducible rfl
                  rotate_left
                  · simp only [Act.put, List.setIfInBounds_toArray, List.set_cons_zero, List.set_cons_succ, i64_w, i32_w]
                    rfl
                  refine done_ (done_of HT_.out (by kernel_rfl)) ?_
                  try go_wp2
                  go_roundg k1
                  case measure => have := HK1.out; omega
                  case rel => exact ⟨(x10_1), (ji8), (by first | rfl | (simp; done) | (simp [*]; done)), (by first | rfl | (simp; done) | (simp only [← hji8] <;> (first | rfl | simp)) | (simp [*]; done)), H', ⟨by have := HK1.out; omega⟩, ⟨by (with_reducible repeat (first | apply Kd.R_alloc | apply Kd.R_drewN | apply Kd.R_drew)); exact HO_0.out⟩, ⟨by repeat (first | (with_reducible first | exact HK.out | apply Kept.alloc | apply Kept.drewN | apply Kept.drew) | exact HK.out)⟩, ⟨by repeat (first | (with_reducible first | exact HB.out | apply below_alloc | apply pw_below_drewN | apply below_drew1) | exact HB.out)⟩⟩
              · rw [if_neg c12] at H
                exact absurd H (by simp)
            · rw [if_neg c11] at H
              exact absurd H (by simp)
          · rw [if_neg c10] at H
            exact absurd H (by simp)
        · rw [if_neg c9] at H
          exact absurd H (by simp)
      · rw [if_neg c7] at H
        have c7b0 : decide (x10_1 < x11_1) = false := decide_eq_false c7
        clear c7
        have H' := Aside0.mk H
        clear H
        go_wp2
        go_loopg [13] k1 (fun kq v13 w' => ∃ (x0_2 : List (S28)) (x13_2 : Int), v13 = .int .i64 x13_2 ∧ Aside0 (api_Span_52.l1 kq x0_2 x10_1 x13_2 = some r) ∧ Aside0 (kq ≤ k1) ∧ Aside0 (Kd.R k28 28 w' w0.heap.size (fun k_ => (P0_ k_ ∨ w.heap.size ≤ k_)) u9000_ x0_2) ∧ Aside0 (Kept w w' (fun k_ => P0_ k_)) ∧ Aside0 (Below w0.heap.size w0 w'))
        case atStart => exact ⟨(l0), (a1), (by first | rfl | (simp; done) | (simp [*]; done)), H', ⟨Nat.le_refl _⟩, ⟨by (with_reducible repeat (first | apply Kd.R_alloc | apply Kd.R_drewN | apply Kd.R_drew)); exact HO_0.out⟩, ⟨by repeat (first | (with_reducible first | exact HK.out | apply Kept.alloc | apply Kept.drewN | apply Kept.drew) | exact HK.out)⟩, ⟨by repeat (first | (with_reducible first | exact HB.out | apply below_alloc | apply pw_below_drewN | apply below_drew1) | exact HB.out)⟩⟩
        case round =>
          clear H'
          (try clear c1); (try clear p1); (try clear q1); (try clear hx1); (try clear p2); (try clear c3); (try clear c5); (try clear c6); (try clear c6b0); (try clear c6b1); (try clear p6); (try clear c7); (try clear c7b0); (try clear c9); (try clear c9b0); (try clear c10); (try clear c10b0); (try clear c11); (try clear c11b0); (try clear c12); (try clear c12b0); (try clear c14); (try clear c14b0); (try clear p15); (try clear q15); (try clear hx15); (try clear hx156_0); (try clear hx156_1); (try clear hx156_2); (try clear hx156_3); (try clear hx156_4); (try clear hx156_5); (try clear hx156_6); (try clear hx156_7); (try clear hx157_0); (try clear hx157_1); (try clear hx157_2); (try clear hx157_3); (try clear hx157_4); (try clear hx157_5)
          (try clear hx157_6); (try clear hx157_7); (try clear p156); (try clear p157); (try clear p2); (try clear p6); (try clear q156); (try clear q157)
          obtain ⟨x0_2, x13_2, rfl, HA, HK2, HO_0, HK, HB⟩ := hrel
          cases gk with
          | zero => exact absurd HA.out (by simp [api_Span_52.l1])
          | succ k2 =>
            have H := HA.out
            clear HA
            simp only [api_Span_52.l1] at H
            by_cases c21 : x13_2 < (wrap64 (x10_1 - 1))
            · rw [if_pos c21] at H
              have c21b0 : decide (x13_2 < (wrap64 (x10_1 - 1))) = true := decide_eq_true c21
              clear c21
              obtain ⟨ji22, hji22⟩ : ∃ j_ : Int, (wrap64 (x13_2 + 1)) = j_ := ⟨_, rfl⟩
              replace H : (if 0 ≤ (ji22) then (if (ji22) < (x0_2.length : Int) then (if 0 ≤ x13_2 then (if x13_2 < (x0_2.length : Int) then (api_Span_52.l1 k2 ((x0_2.set (x13_2 : Int).toNat (⟨(rd_T28 x0_2 (ji22)).f0, (rd_T28 x0_2 (ji22)).f1, (rd_T28 x0_2 (ji22)).f2, (rd_T28 x0_2 (ji22)).f3, (rd_T28 x0_2 (ji22)).f4, (rd_T28 x0_2 (ji22)).f5, (rd_T28 x0_2 (ji22)).f6, (rd_T28 x0_2 (ji22)).f7⟩ : S28)).set ((ji22) : Int).toNat (⟨(rd_T28 x0_2 x13_2).f0, (rd_T28 x0_2 x13_2).f1, (rd_T28 x0_2 x13_2).f2, (rd_T28 x0_2 x13_2).f3, (rd_T28 x0_2 x13_2).f4, (rd_T28 x0_2 x13_2).f5, (rd_T28 x0_2 x13_2).f6, (rd_T28 x0_2 x13_2).f7⟩ : S28)) x10_1 ji22) else (none)) else (none)) else (none)) else (none)) = some r := by first | (rw [hji22] at H; exact H) | (simp only [hji22] at H ⊢; exact H)
              have hji22w : (IntKind.i64.wrap (x13_2 + 1)) = ji22 := (i64_w _).trans hji22
              by_cases c23 : 0 ≤ (ji22)
              · rw [if_pos c23] at H
                have c23b0 : decide (0 ≤ (ji22)) = true := decide_eq_true c23
                clear c23
                by_cases c24 : (ji22) < (x0_2.length : Int)
                · rw [if_pos c24] at H
                  have c24b0 : decide ((ji22) < (x0_2.length : Int)) = true := decide_eq_true c24
                  clear c24
                  by_cases c25 : 0 ≤ x13_2
                  · rw [if_pos c25] at H
                    have c25b0 : decide (0 ≤ x13_2) = true := decide_eq_true c25
                    clear c25
                    by_cases c26 : x13_2 < (x0_2.length : Int)
                    · rw [if_pos c26] at H
                      have c26b0 : decide (x13_2 < (x0_2.length : Int)) = true := decide_eq_true c26
                      clear c26
                      obtain ⟨y161, hy161⟩ : ∃ y_ : List (S28), y_ = (x0_2.set (x13_2 : Int).toNat (⟨(rd_T28 x0_2 (ji22)).f0, (rd_T28 x0_2 (ji22)).f1, (rd_T28 x0_2 (ji22)).f2, (rd_T28 x0_2 (ji22)).f3, (rd_T28 x0_2 (ji22)).f4, (rd_T28 x0_2 (ji22)).f5, (rd_T28 x0_2 (ji22)).f6, (rd_T28 x0_2 (ji22)).f7⟩ : S28)) := ⟨_, rfl⟩
                      replace H : (api_Span_52.l1 k2 (y161.set ((ji22) : Int).toNat (⟨(rd_T28 x0_2 x13_2).f0, (rd_T28 x0_2 x13_2).f1, (rd_T28 x0_2 x13_2).f2, (rd_T28 x0_2 x13_2).f3, (rd_T28 x0_2 x13_2).f4, (rd_T28 x0_2 x13_2).f5, (rd_T28 x0_2 x13_2).f6, (rd_T28 x0_2 x13_2).f7⟩ : S28)) x10_1 ji22) = some r := by first | (rw [hy161]; with_reducible exact H) | (have H2_ := (Option.bind_some _ _).symm.trans H; rw [hy161]; with_reducible exact H2_) | (have H2_ := (Option.bind_some _ _).symm.trans H; with_reducible exact H2_) | with_reducible exact H | (rw [hy161]; exact H) | exact H
                      have Ny161 := Aside0.mk hy161
                      clear hy161
                      obtain ⟨y162, hy162⟩ : ∃ y_ : List (S28), y_ = (y161.set ((ji22) : Int).toNat (⟨(rd_T28 x0_2 x13_2).f0, (rd_T28 x0_2 x13_2).f1, (rd_T28 x0_2 x13_2).f2, (rd_T28 x0_2 x13_2).f3, (rd_T28 x0_2 x13_2).f4, (rd_T28 x0_2 x13_2).f5, (rd_T28 x0_2 x13_2).f6, (rd_T28 x0_2 x13_2).f7⟩ : S28)) := ⟨_, rfl⟩
                      replace H : (api_Span_52.l1 k2 y162 x10_1 ji22) = some r := by first | (rw [hy162]; with_reducible exact H) | (have H2_ := (Option.bind_some _ _).symm.trans H; rw [hy162]; with_reducible exact H2_) | (have H2_ := (Option.bind_some _ _).symm.trans H; with_reducible exact H2_) | with_reducible exact H | (rw [hy162]; exact H) | exact H
                      have Ny162 := Aside0.mk hy162
                      clear hy162
                      have H' := Aside0.mk H
                      clear H
                      try go_wp2
                      have n0_ := Aside0.mk (Kd.R_drew HO_0.out)
                      have n1_ := Aside0.mk (Kept.drew HK.out)
                      have n2_ := Aside0.mk (below_drew1 HB.out)
                      clear HO_0
                      clear HK
                      clear HB
                      have HO_0 := n0_
                      have HK := n1_
                      have HB := n2_
                      clear n0_ n1_ n2_
                      obtain ⟨Ao30, co30, eo30⟩ := Kd.R_slice HO_0.out
                      (first | subst eo30 | (injection eo30 with f1_ f2_ f3_; have f4_ := f1_.symm; have f5_ := f3_.symm; clear f1_ f2_ f3_; subst f4_; subst f5_))
                      have p159 : 0 ≤ ((ji22) : Int) := of_decide_eq_true (by first | (with_reducible assumption) | assumption)
                      have q159 : (ji22) < (x0_2.length : Int) := of_decide_eq_true (by first | (with_reducible assumption) | assumption)
                      obtain ⟨ad159, e159, hx159_0, hx159_1, hx159_2, hx159_3, hx159_4, hx159_5, hx159_6, hx159_7⟩ := at_T28 (Kd.R_reads' HO_0.out).2.2 (ji22) p159 q159
                      cases e159
                      replace p159 := eq_true p159
                      replace q159 := eq_true q159
                      have p160 : 0 ≤ (x13_2 : Int) := of_decide_eq_true (by first | (with_reducible assumption) | assumption)
                      have q160 : x13_2 < (x0_2.length : Int) := of_decide_eq_true (by first | (with_reducible assumption) | assumption)
                      obtain ⟨ad160, e160, hx160_0, hx160_1, hx160_2, hx160_3, hx160_4, hx160_5, hx160_6, hx160_7⟩ := at_T28 (Kd.R_reads' HO_0.out).2.2 x13_2 p160 q160
                      obtain rfl : ad159 = ad160 := (by injection e160)
                      replace p160 := eq_true p160
                      replace q160 := eq_true q160
                      have p27 : 0 ≤ (x13_2 : Int) := of_decide_eq_true (by first | (with_reducible assumption) | assumption)
                      have q27 : (x13_2 : Int) < ((x0_2.length : Int) : Int) := of_decide_eq_true (by first | (with_reducible assumption) | assumption)
                      obtain ⟨go27, co27, eo27, gb27, gl27, cl27, HG27⟩ := Kd.R_form HO_0.out (by omega)
                      (first | cases eo27 | (injection eo27 with ea_ en_ ec_; (first | subst ea_ | (injection ea_ with ea_; subst ea_)); subst ec_; clear en_))
                      have GB27 := Aside0.mk gb27
                      have GG27 := Aside0.mk HG27
                      clear gb27 gl27 HG27
                      have HMgo27 := Aside0.mk (show (P0_ go27 ∨ w.heap.size ≤ go27) from (HO_0.out.1 _ rfl))
                      (first | simp only [add_plain] at hx159_0 | skip)
                      (first | simp only [add_plain] at hx159_1 | skip)
                      (first | simp only [add_plain] at hx159_2 | skip)
                      (first | simp only [add_plain] at hx159_3 | skip)
                      (first | simp only [add_plain] at hx159_4 | skip)
                      (first | simp only [add_plain] at hx159_5 | skip)
                      (first | simp only [add_plain] at hx159_6 | skip)
                      (first | simp only [add_plain] at hx159_7 | skip)
                      (first | simp only [add_plain] at hx160_0 | skip)
                      (first | simp only [add_plain] at hx160_1 | skip)
                      (first | simp only [add_plain] at hx160_2 | skip)
                      (first | simp only [add_plain] at hx160_3 | skip)
                      (first | simp only [add_plain] at hx160_4 | skip)
                      (first | simp only [add_plain] at hx160_5 | skip)
                      (first | simp only [add_plain] at hx160_6 | skip)
                      (first | simp only [add_plain] at hx160_7 | skip)
                      obtain ⟨ce27, hcl27, hM27, hcc27, hfr27⟩ := Kd.R_elem HO_0.out z28 (x13_2 : Int) p27 q27
                      obtain rfl := k28_openM hM27
                      have hx27_0 : World.cell? _ ⟨go27, (x13_2 : Int).toNat * 8, none⟩ = some (.int .u64 ((rd_T28 x0_2 x13_2).f0)) := hcc27 0 _ rfl
                      have hx27_1 : World.cell? _ ⟨go27, (x13_2 : Int).toNat * 8 + 1, none⟩ = some (.int .u64 ((rd_T28 x0_2 x13_2).f1)) := hcc27 1 _ rfl
                      have hx27_2 : World.cell? _ ⟨go27, (x13_2 : Int).toNat * 8 + 2, none⟩ = some (.int .u64 ((rd_T28 x0_2 x13_2).f2)) := hcc27 2 _ rfl
                      have hx27_3 : World.cell? _ ⟨go27, (x13_2 : Int).toNat * 8 + 3, none⟩ = some (.int .u64 ((rd_T28 x0_2 x13_2).f3)) := hcc27 3 _ rfl
                      have hx27_4 : World.cell? _ ⟨go27, (x13_2 : Int).toNat * 8 + 4, none⟩ = some (.int .u64 ((rd_T28 x0_2 x13_2).f4)) := hcc27 4 _ rfl
                      have hx27_5 : World.cell? _ ⟨go27, (x13_2 : Int).toNat * 8 + 5, none⟩ = some (.string ((rd_T28 x0_2 x13_2).f5)) := hcc27 5 _ rfl
                      have hx27_6 : World.cell? _ ⟨go27, (x13_2 : Int).toNat * 8 + 6, none⟩ = some (.string ((rd_T28 x0_2 x13_2).f6)) := hcc27 6 _ rfl
                      have hx27_7 : World.cell? _ ⟨go27, (x13_2 : Int).toNat * 8 + 7, none⟩ = some (.bool ((rd_T28 x0_2 x13_2).f7)) := hcc27 7 _ rfl
                      have hf27_0 : World.frozen? _ ⟨go27, (x13_2 : Int).toNat * 8, none⟩ = false := hfr27 0
                      have hf27_1 : World.frozen? _ ⟨go27, (x13_2 : Int).toNat * 8 + 1, none⟩ = false := hfr27 1
                      have hf27_2 : World.frozen? _ ⟨go27, (x13_2 : Int).toNat * 8 + 2, none⟩ = false := hfr27 2
                      have hf27_3 : World.frozen? _ ⟨go27, (x13_2 : Int).toNat * 8 + 3, none⟩ = false := hfr27 3
                      have hf27_4 : World.frozen? _ ⟨go27, (x13_2 : Int).toNat * 8 + 4, none⟩ = false := hfr27 4
                      have hf27_5 : World.frozen? _ ⟨go27, (x13_2 : Int).toNat * 8 + 5, none⟩ = false := hfr27 5
                      have hf27_6 : World.frozen? _ ⟨go27, (x13_2 : Int).toNat * 8 + 6, none⟩ = false := hfr27 6
                      have hf27_7 : World.frozen? _ ⟨go27, (x13_2 : Int).toNat * 8 + 7, none⟩ = false := hfr27 7
                      clear hcl27 hcc27 hfr27 hM27
                      replace p27 := eq_true p27
                      replace q27 := eq_true q27
                      obtain ⟨ce31, hcl31, hM31, hcc31, hfr31⟩ := Kd.R_elem HO_0.out z28 (x13_2 : Int) (of_decide_eq_true (by first | (with_reducible assumption) | assumption)) (by have h_ : (x13_2 : Int) < ((x0_2.length : Int) : Int) := of_decide_eq_true (by first | (with_reducible assumption) | assumption); first | exact h_ | (have e_ := (Kd.R_reads' HO_0.out).1; omega) | simpa using h_)
                      obtain rfl := k28_openM hM31
                      have HP31 := (Kd.R_seg HO_0.out (x13_2 : Int) (of_decide_eq_true (by first | (with_reducible assumption) | assumption)) (by have h_ : (x13_2 : Int) < ((x0_2.length : Int) : Int) := of_decide_eq_true (by first | (with_reducible assumption) | assumption); first | exact h_ | (have e_ := (Kd.R_reads' HO_0.out).1; omega) | simpa using h_) (seg := [.int .u64 ((rd_T28 x0_2 (ji22)).f0), .int .u64 ((rd_T28 x0_2 (ji22)).f1), .int .u64 ((rd_T28 x0_2 (ji22)).f2), .int .u64 ((rd_T28 x0_2 (ji22)).f3), .int .u64 ((rd_T28 x0_2 (ji22)).f4), .string ((rd_T28 x0_2 (ji22)).f5), .string ((rd_T28 x0_2 (ji22)).f6), .bool ((rd_T28 x0_2 (ji22)).f7)]) (j := 0) hcl31 hcc31 (show 8 ≤ 8 from by decide) (x' := (⟨(rd_T28 x0_2 (ji22)).f0, (rd_T28 x0_2 (ji22)).f1, (rd_T28 x0_2 (ji22)).f2, (rd_T28 x0_2 (ji22)).f3, (rd_T28 x0_2 (ji22)).f4, (rd_T28 x0_2 (ji22)).f5, (rd_T28 x0_2 (ji22)).f6, (rd_T28 x0_2 (ji22)).f7⟩ : S28)) (k28_mkM _ _ _ (⟨(rd_T28 x0_2 (ji22)).f0, (rd_T28 x0_2 (ji22)).f1, (rd_T28 x0_2 (ji22)).f2, (rd_T28 x0_2 (ji22)).f3, (rd_T28 x0_2 (ji22)).f4, (rd_T28 x0_2 (ji22)).f5, (rd_T28 x0_2 (ji22)).f6, (rd_T28 x0_2 (ji22)).f7⟩ : S28) ) (fun _ hk => hk)).1
                      rw [← Ny161.out] at HP31
                      have HQ31 := Aside0.mk HP31
                      clear hcl31 hcc31 hfr31 hM31 HP31
                      have p28 : 0 ≤ ((ji22) : Int) := of_decide_eq_true (by first | (with_reducible assumption) | assumption)
                      have q28 : ((ji22) : Int) < ((x0_2.length : Int) : Int) := of_decide_eq_true (by first | (with_reducible assumption) | assumption)
                      obtain ⟨ce28, hcl28, hM28, hcc28, hfr28⟩ := Kd.R_elem HQ31.out z28 ((ji22) : Int) p28 q28
                      obtain rfl := k28_openM hM28
                      have hx28_0 : World.cell? _ ⟨go27, ((ji22) : Int).toNat * 8, none⟩ = some (.int .u64 ((rd_T28 y161 (ji22)).f0)) := hcc28 0 _ rfl
                      have hx28_1 : World.cell? _ ⟨go27, ((ji22) : Int).toNat * 8 + 1, none⟩ = some (.int .u64 ((rd_T28 y161 (ji22)).f1)) := hcc28 1 _ rfl
                      have hx28_2 : World.cell? _ ⟨go27, ((ji22) : Int).toNat * 8 + 2, none⟩ = some (.int .u64 ((rd_T28 y161 (ji22)).f2)) := hcc28 2 _ rfl
                      have hx28_3 : World.cell? _ ⟨go27, ((ji22) : Int).toNat * 8 + 3, none⟩ = some (.int .u64 ((rd_T28 y161 (ji22)).f3)) := hcc28 3 _ rfl
                      have hx28_4 : World.cell? _ ⟨go27, ((ji22) : Int).toNat * 8 + 4, none⟩ = some (.int .u64 ((rd_T28 y161 (ji22)).f4)) := hcc28 4 _ rfl
                      have hx28_5 : World.cell? _ ⟨go27, ((ji22) : Int).toNat * 8 + 5, none⟩ = some (.string ((rd_T28 y161 (ji22)).f5)) := hcc28 5 _ rfl
                      have hx28_6 : World.cell? _ ⟨go27, ((ji22) : Int).toNat * 8 + 6, none⟩ = some (.string ((rd_T28 y161 (ji22)).f6)) := hcc28 6 _ rfl
                      have hx28_7 : World.cell? _ ⟨go27, ((ji22) : Int).toNat * 8 + 7, none⟩ = some (.bool ((rd_T28 y161 (ji22)).f7)) := hcc28 7 _ rfl
                      have hf28_0 : World.frozen? _ ⟨go27, ((ji22) : Int).toNat * 8, none⟩ = false := hfr28 0
                      have hf28_1 : World.frozen? _ ⟨go27, ((ji22) : Int).toNat * 8 + 1, none⟩ = false := hfr28 1
                      have hf28_2 : World.frozen? _ ⟨go27, ((ji22) : Int).toNat * 8 + 2, none⟩ = false := hfr28 2
                      have hf28_3 : World.frozen? _ ⟨go27, ((ji22) : Int).toNat * 8 + 3, none⟩ = false := hfr28 3
                      have hf28_4 : World.frozen? _ ⟨go27, ((ji22) : Int).toNat * 8 + 4, none⟩ = false := hfr28 4
                      have hf28_5 : World.frozen? _ ⟨go27, ((ji22) : Int).toNat * 8 + 5, none⟩ = false := hfr28 5
                      have hf28_6 : World.frozen? _ ⟨go27, ((ji22) : Int).toNat * 8 + 6, none⟩ = false := hfr28 6
                      have hf28_7 : World.frozen? _ ⟨go27, ((ji22) : Int).toNat * 8 + 7, none⟩ = false := hfr28 7
                      clear hcl28 hcc28 hfr28 hM28
                      replace p28 := eq_true p28
                      replace q28 := eq_true q28
                      obtain ⟨ce32, hcl32, hM32, hcc32, hfr32⟩ := Kd.R_elem HQ31.out z28 ((ji22) : Int) (of_decide_eq_true (by first | (with_reducible assumption) | assumption)) (by have h_ : ((ji22) : Int) < ((x0_2.length : Int) : Int) := of_decide_eq_true (by first | (with_reducible assumption) | assumption); first | exact h_ | (have e_ := (Kd.R_reads' HO_0.out).1; omega) | simpa using h_)
                      obtain rfl := k28_openM hM32
                      have HP32 := (Kd.R_seg HQ31.out ((ji22) : Int) (of_decide_eq_true (by first | (with_reducible assumption) | assumption)) (by have h_ : ((ji22) : Int) < ((x0_2.length : Int) : Int) := of_decide_eq_true (by first | (with_reducible assumption) | assumption); first | exact h_ | (have e_ := (Kd.R_reads' HO_0.out).1; omega) | simpa using h_) (seg := [.int .u64 ((rd_T28 x0_2 x13_2).f0), .int .u64 ((rd_T28 x0_2 x13_2).f1), .int .u64 ((rd_T28 x0_2 x13_2).f2), .int .u64 ((rd_T28 x0_2 x13_2).f3), .int .u64 ((rd_T28 x0_2 x13_2).f4), .string ((rd_T28 x0_2 x13_2).f5), .string ((rd_T28 x0_2 x13_2).f6), .bool ((rd_T28 x0_2 x13_2).f7)]) (j := 0) hcl32 hcc32 (show 8 ≤ 8 from by decide) (x' := (⟨(rd_T28 x0_2 x13_2).f0, (rd_T28 x0_2 x13_2).f1, (rd_T28 x0_2 x13_2).f2, (rd_T28 x0_2 x13_2).f3, (rd_T28 x0_2 x13_2).f4, (rd_T28 x0_2 x13_2).f5, (rd_T28 x0_2 x13_2).f6, (rd_T28 x0_2 x13_2).f7⟩ : S28)) (k28_mkM _ _ _ (⟨(rd_T28 x0_2 x13_2).f0, (rd_T28 x0_2 x13_2).f1, (rd_T28 x0_2 x13_2).f2, (rd_T28 x0_2 x13_2).f3, (rd_T28 x0_2 x13_2).f4, (rd_T28 x0_2 x13_2).f5, (rd_T28 x0_2 x13_2).f6, (rd_T28 x0_2 x13_2).f7⟩ : S28) ) (fun _ hk => hk)).1
                      rw [← Ny162.out] at HP32
                      have HQ32 := Aside0.mk HP32
                      clear hcl32 hcc32 hfr32 hM32 HP32
                      refine start_ (n := 18) (S := fun w' => w'.cell? ⟨go27, ((ji22)).toNat * 8, none⟩ = some (.int .u64 ((rd_T28 x0_2 (ji22)).f0)) ∧ w'.cell? ⟨go27, ((ji22)).toNat * 8 + 1, none⟩ = some (.int .u64 ((rd_T28 x0_2 (ji22)).f1)) ∧ w'.cell? ⟨go27, ((ji22)).toNat * 8 + 2, none⟩ = some (.int .u64 ((rd_T28 x0_2 (ji22)).f2)) ∧ w'.cell? ⟨go27, ((ji22)).toNat * 8 + 3, none⟩ = some (.int .u64 ((rd_T28 x0_2 (ji22)).f3)) ∧ w'.cell? ⟨go27, ((ji22)).toNat * 8 + 4, none⟩ = some (.int .u64 ((rd_T28 x0_2 (ji22)).f4)) ∧ w'.cell? ⟨go27, ((ji22)).toNat * 8 + 5, none⟩ = some (.string ((rd_T28 x0_2 (ji22)).f5)) ∧ w'.cell? ⟨go27, ((ji22)).toNat * 8 + 6, none⟩ = some (.string ((rd_T28 x0_2 (ji22)).f6)) ∧ w'.cell? ⟨go27, ((ji22)).toNat * 8 + 7, none⟩ = some (.bool ((rd_T28 x0_2 (ji22)).f7)) ∧ w'.cell? ⟨go27, ((x13_2).toNat * 8), none⟩ = some (.int .u64 ((rd_T28 x0_2 x13_2).f0)) ∧ w'.cell? ⟨go27, ((x13_2).toNat * 8) + 1, none⟩ = some (.int .u64 ((rd_T28 x0_2 x13_2).f1)) ∧ w'.cell? ⟨go27, ((x13_2).toNat * 8) + 2, none⟩ = some (.int .u64 ((rd_T28 x0_2 x13_2).f2)) ∧ w'.cell? ⟨go27, ((x13_2).toNat * 8) + 3, none⟩ = some (.int .u64 ((rd_T28 x0_2 x13_2).f3)) ∧ w'.cell? ⟨go27, ((x13_2).toNat * 8) + 4, none⟩ = some (.int .u64 ((rd_T28 x0_2 x13_2).f4)) ∧ w'.cell? ⟨go27, ((x13_2).toNat * 8) + 5, none⟩ = some (.string ((rd_T28 x0_2 x13_2).f5)) ∧ w'.cell? ⟨go27, ((x13_2).toNat * 8) + 6, none⟩ = some (.string ((rd_T28 x0_2 x13_2).f6)) ∧ w'.cell? ⟨go27, ((x13_2).toNat * 8) + 7, none⟩ = some (.bool ((rd_T28 x0_2 x13_2).f7))) (ds := [15, 17]) #[false, false, false, false, false, false, false, false, false, false, false, false, false, false, false, false, false, false] (by kernel_rfl) rfl rfl ⟨hx159_0, hx159_1, hx159_2, hx159_3, hx159_4, hx159_5, hx159_6, hx159_7, hx160_0, hx160_1, hx160_2, hx160_3, hx160_4, hx160_5, hx160_6, hx160_7⟩ (fun hHeld => ?_); refine with_tabW api_Span_52.tab11 api_Span_52.bits11 (fun HT_ HW_ => ?_)
                      generalize wr.drew = w29 at HO_0 HK HB GG27 HQ31 HQ32 hf27_0 hf27_1 hf27_2 hf27_3 hf27_4 hf27_5 hf27_6 hf27_7 hf28_0 hf28_1 hf28_2 hf28_3 hf28_4 hf28_5 hf28_6 hf28_7 hx159_0 hx159_1 hx159_2 hx159_3 hx159_4 hx159_5 hx159_6 hx159_7 hx160_0 hx160_1 hx160_2 hx160_3 hx160_4 hx160_5 hx160_6 hx160_7 hx27_0 hx27_1 hx27_2 hx27_3 hx27_4 hx27_5 hx27_6 hx27_7 hx28_0 hx28_1 hx28_2 hx28_3 hx28_4 hx28_5 hx28_6 hx28_7 hHeld ⊢
                      refine pure_ (i := 0) (N := some 61) (v := ?_) (a' := ?_) #[true, false, false, false, false, false, false, false, false, false, false, false, false, false, false, false, false, false] rfl rfl (any_of HT_.out (by kernel_rfl)) (fun _ _ _ h => h) (Or.inl ⟨by rfl, ?_⟩) ?_ ?_
                      rotate_left
                      · intro w'
                        go_simp
                        with_reducible rfl
                      rotate_left
                      · simp only [Act.put, List.setIfInBounds_toArray, List.set_cons_zero, List.set_cons_succ, i64_w, i32_w]
                        rfl
                      refine pure_ (i := 1) (N := some 62) (v := ?_) (a' := ?_) #[true, true, false, false, false, false, false, false, false, false, false, false, false, false, false, false, false, false] rfl rfl (any_of HT_.out (by kernel_rfl)) (fun _ _ _ h => h) (Or.inl ⟨by rfl, ?_⟩) ?_ ?_
                      rotate_left
                      · intro w'
                        go_simp
                        with_reducible rfl
                      rotate_left
                      · simp only [Act.put, List.setIfInBounds_toArray, List.set_cons_zero, List.set_cons_succ, i64_w, i32_w]
                        rfl
                      refine pure_ (i := 2) (N := some 63) (v := ?_) (a' := ?_) #[true, true, true, false, false, false, false, false, false, false, false, false, false, false, false, false, false, false] rfl rfl (any_of HT_.out (by kernel_rfl)) (fun _ _ _ h => h) (Or.inl ⟨by rfl, ?_⟩) ?_ ?_
                      rotate_left
                      · intro w'
                        go_simp
                        with_reducible rfl
                      rotate_left
                      · simp only [Act.put, List.setIfInBounds_toArray, List.set_cons_zero, List.set_cons_succ, i64_w, i32_w]
                        rfl
                      refine pure_ (i := 3) (N := some 64) (v := ?_) (a' := ?_) #[true, true, true, true, false, false, false, false, false, false, false, false, false, false, false, false, false, false] rfl rfl (any_of HT_.out (by kernel_rfl)) (fun _ _ _ h => h) (Or.inl ⟨by rfl, ?_⟩) ?_ ?_
                      rotate_left
                      · intro w'
                        go_simp
                        with_reducible rfl
                      rotate_left
                      · simp only [Act.put, List.setIfInBounds_toArray, List.set_cons_zero, List.set_cons_succ, i64_w, i32_w]
                        rfl
                      refine pure_ (i := 4) (N := some 65) (v := ?_) (a' := ?_) #[true, true, true, true, true, false, false, false, false, false, false, false, false, false, false, false, false, false] rfl rfl (any_of HT_.out (by kernel_rfl)) (fun _ _ _ h => h) (Or.inl ⟨by rfl, ?_⟩) ?_ ?_
                      rotate_left
                      · intro w'
                        go_simp
                        with_reducible rfl
                      rotate_left
                      · simp only [Act.put, List.setIfInBounds_toArray, List.set_cons_zero, List.set_cons_succ, i64_w, i32_w]
                        rfl
                      refine pure_ (i := 5) (N := some 66) (v := ?_) (a' := ?_) #[true, true, true, true, true, true, false, false, false, false, false, false, false, false, false, false, false, false] rfl rfl (any_of HT_.out (by kernel_rfl)) (fun _ _ _ h => h) (Or.inl ⟨by rfl, ?_⟩) ?_ ?_
                      rotate_left
                      · intro w'
                        go_simp
                        with_reducible rfl
                      rotate_left
                      · simp only [Act.put, List.setIfInBounds_toArray, List.set_cons_zero, List.set_cons_succ, i64_w, i32_w]
                        rfl
                      refine pure_ (i := 6) (N := some 67) (v := ?_) (a' := ?_) #[true, true, true, true, true, true, true, false, false, false, false, false, false, false, false, false, false, false] rfl rfl (any_of HT_.out (by kernel_rfl)) (fun _ _ _ h => h) (Or.inl ⟨by rfl, ?_⟩) ?_ ?_
                      rotate_left
                      · intro w'
                        go_simp
                        with_reducible rfl
                      rotate_left
                      · simp only [Act.put, List.setIfInBounds_toArray, List.set_cons_zero, List.set_cons_succ, i64_w, i32_w]
                        rfl
                      refine pure_ (i := 7) (N := some 68) (v := ?_) (a' := ?_) #[true, true, true, true, true, true, true, true, false, false, false, false, false, false, false, false, false, false] rfl rfl (any_of HT_.out (by kernel_rfl)) (fun _ _ _ h => h) (Or.inl ⟨by rfl, ?_⟩) ?_ ?_
                      rotate_left
                      · intro w'
                        go_simp
                        with_reducible rfl
                      rotate_left
                      · simp only [Act.put, List.setIfInBounds_toArray, List.set_cons_zero, List.set_cons_succ, i64_w, i32_w]
                        rfl
                      refine pure_ (i := 8) (N := some 69) (v := ?_) (a' := ?_) #[true, true, true, true, true, true, true, true, true, false, false, false, false, false, false, false, false, false] rfl rfl (any_of HT_.out (by kernel_rfl)) (fun _ _ _ h => h) (Or.inl ⟨by rfl, ?_⟩) ?_ ?_
                      rotate_left
                      · intro w'
                        go_simp
                        with_reducible rfl
                      rotate_left
                      · simp only [Act.put, List.setIfInBounds_toArray, List.set_cons_zero, List.set_cons_succ, i64_w, i32_w]
                        rfl
                      refine pure_ (i := 10) (N := some 71) (v := ?_) (a' := ?_) #[true, true, true, true, true, true, true, true, true, false, true, false, false, false, false, false, false, false] rfl rfl (any_of HT_.out (by kernel_rfl)) (fun _ _ _ h => h) (Or.inl ⟨by rfl, ?_⟩) ?_ ?_
                      rotate_left
                      · intro w'
                        go_simp
                        with_reducible rfl
                      rotate_left
                      · simp only [Act.put, List.setIfInBounds_toArray, List.set_cons_zero, List.set_cons_succ, i64_w, i32_w]
                        rfl
                      refine pure_ (i := 11) (N := some 72) (v := ?_) (a' := ?_) #[true, true, true, true, true, true, true, true, true, false, true, true, false, false, false, false, false, false] rfl rfl (any_of HT_.out (by kernel_rfl)) (fun _ _ _ h => h) (Or.inl ⟨by rfl, ?_⟩) ?_ ?_
                      rotate_left
                      · intro w'
                        go_simp
                        with_reducible rfl
                      rotate_left
                      · simp only [Act.put, List.setIfInBounds_toArray, List.set_cons_zero, List.set_cons_succ, i64_w, i32_w]
                        rfl
                      refine pure_ (i := 12) (N := some 73) (v := ?_) (a' := ?_) #[true, true, true, true, true, true, true, true, true, false, true, true, true, false, false, false, false, false] rfl rfl (any_of HT_.out (by kernel_rfl)) (fun _ _ _ h => h) (Or.inl ⟨by rfl, ?_⟩) ?_ ?_
                      rotate_left
                      · intro w'
                        go_simp
                        with_reducible rfl
                      rotate_left
                      · simp only [Act.put, List.setIfInBounds_toArray, List.set_cons_zero, List.set_cons_succ, i64_w, i32_w]
                        rfl
                      refine take_ (i := 9) (N := some 70) (v := ?_) (a' := ?_) #[true, true, true, true, true, true, true, true, true, true, true, true, true, false, false, false, false, false] rfl rfl (take_ofW HT_.out HW_.out (by kernel_rfl)) (fun _ _ _ h => h) (Or.inl ⟨by rfl, ?_⟩) hHeld ?_ ?_
                      rotate_left
                      · rintro w' ⟨s0, s1, s2, s3, s4, s5, s6, s7, s8, s9, s10, s11, s12, s13, s14, s15⟩
                        go_simp
                        with_reducible rfl
                      rotate_left
                      · simp only [Act.put, List.setIfInBounds_toArray, List.set_cons_zero, List.set_cons_succ, i64_w, i32_w]
                        rfl
                      refine take_ (i := 13) (N := some 74) (v := ?_) (a' := ?_) #[true, true, true, true, true, true, true, true, true, true, true, true, true, true, false, false, false, false] rfl rfl (take_ofW HT_.out HW_.out (by kernel_rfl)) (fun _ _ _ h => h) (Or.inl ⟨by rfl, ?_⟩) hHeld ?_ ?_
                      rotate_left
                      · rintro w' ⟨s0, s1, s2, s3, s4, s5, s6, s7, s8, s9, s10, s11, s12, s13, s14, s15⟩
                        go_simp
                        with_reducible rfl
                      rotate_left
                      · simp only [Act.put, List.setIfInBounds_toArray, List.set_cons_zero, List.set_cons_succ, i64_w, i32_w]
                        rfl
                      refine pure_ (i := 14) (N := some 75) (v := ?_) (a' := ?_) #[true, true, true, true, true, true, true, true, true, true, true, true, true, true, true, false, false, false] rfl rfl (any_of HT_.out (by kernel_rfl)) (fun _ _ _ h => h) (Or.inl ⟨by rfl, ?_⟩) ?_ ?_
                      rotate_left
                      · intro w'
                        go_simp
                        with_reducible rfl
                      rotate_left
                      · simp only [Act.put, List.setIfInBounds_toArray, List.set_cons_zero, List.set_cons_succ, i64_w, i32_w]
                        rfl
                      refine last_ (i := 15) (N := none) #[true, true, true, true, true, true, true, true, true, true, true, true, true, true, true, true, false, false] rfl rfl (one_of HT_.out (by kernel_rfl)) (by decide) (fun K hK => ?_)
                      refine skip_ (w1 := (w29.setCells go27 ((x13_2 : Int).toNat * k28.sz + 0) [.int .u64 ((rd_T28 x0_2 (ji22)).f0), .int .u64 ((rd_T28 x0_2 (ji22)).f1), .int .u64 ((rd_T28 x0_2 (ji22)).f2), .int .u64 ((rd_T28 x0_2 (ji22)).f3), .int .u64 ((rd_T28 x0_2 (ji22)).f4), .string ((rd_T28 x0_2 (ji22)).f5), .string ((rd_T28 x0_2 (ji22)).f6), .bool ((rd_T28 x0_2 (ji22)).f7)])) (by rfl) rfl ?_ ?_
                      · go_simp
                        rfl
                      refine hK.out _ _ ?_
                      clear hK K
                      have nK_ := Aside0.mk (Hand.kept_setCells HMgo27.out [.int .u64 ((rd_T28 x0_2 (ji22)).f0), .int .u64 ((rd_T28 x0_2 (ji22)).f1), .int .u64 ((rd_T28 x0_2 (ji22)).f2), .int .u64 ((rd_T28 x0_2 (ji22)).f3), .int .u64 ((rd_T28 x0_2 (ji22)).f4), .string ((rd_T28 x0_2 (ji22)).f5), .string ((rd_T28 x0_2 (ji22)).f6), .bool ((rd_T28 x0_2 (ji22)).f7)] ((x13_2 : Int).toNat * k28.sz + 0) HK.out)
                      have nB_ := Aside0.mk (Hand.below_setCells GB27.out [.int .u64 ((rd_T28 x0_2 (ji22)).f0), .int .u64 ((rd_T28 x0_2 (ji22)).f1), .int .u64 ((rd_T28 x0_2 (ji22)).f2), .int .u64 ((rd_T28 x0_2 (ji22)).f3), .int .u64 ((rd_T28 x0_2 (ji22)).f4), .string ((rd_T28 x0_2 (ji22)).f5), .string ((rd_T28 x0_2 (ji22)).f6), .bool ((rd_T28 x0_2 (ji22)).f7)] ((x13_2 : Int).toNat * k28.sz + 0) HB.out)
                      clear HK HB
                      have HK := nK_
                      have HB := nB_
                      clear nK_ nB_
                      generalize (w29.setCells go27 ((x13_2 : Int).toNat * k28.sz + 0) [.int .u64 ((rd_T28 x0_2 (ji22)).f0), .int .u64 ((rd_T28 x0_2 (ji22)).f1), .int .u64 ((rd_T28 x0_2 (ji22)).f2), .int .u64 ((rd_T28 x0_2 (ji22)).f3), .int .u64 ((rd_T28 x0_2 (ji22)).f4), .string ((rd_T28 x0_2 (ji22)).f5), .string ((rd_T28 x0_2 (ji22)).f6), .bool ((rd_T28 x0_2 (ji22)).f7)]) = wm0 at HK HB HQ31 HQ32 hf28_0 hf28_1 hf28_2 hf28_3 hf28_4 hf28_5 hf28_6 hf28_7 hx28_0 hx28_1 hx28_2 hx28_3 hx28_4 hx28_5 hx28_6 hx28_7 ⊢
                      refine pure_ (i := 16) (N := some 76) (v := ?_) (a' := ?_) #[true, true, true, true, true, true, true, true, true, true, true, true, true, true, true, true, true, false] rfl rfl (any_of HT_.out (by kernel_rfl)) (fun _ _ _ h => h) (Or.inl ⟨by rfl, ?_⟩) ?_ ?_
                      rotate_left
                      · intro w'
                        go_simp
                        with_reducible rfl
                      rotate_left
                      · simp only [Act.put, List.setIfInBounds_toArray, List.set_cons_zero, List.set_cons_succ, i64_w, i32_w]
                        rfl
                      refine last_ (i := 17) (N := none) #[true, true, true, true, true, true, true, true, true, true, true, true, true, true, true, true, true, true] rfl rfl (one_of HT_.out (by kernel_rfl)) (by decide) (fun K hK => ?_)
                      refine skip_ (w1 := ?_) (by rfl) rfl ?_ ?_
                      rotate_left
                      · go_simp
                        rfl
                      refine hK.out _ _ ?_
                      clear hK K
                      refine done_ (done_of HT_.out (by kernel_rfl)) ?_
                      try go_wp2
                      go_roundg k2
                      case measure => have := HK1.out; have := HK2.out; omega
                      case rel => exact ⟨(y162), (ji22), (by first | rfl | (simp; done) | (simp only [← hji22] <;> (first | rfl | simp)) | (simp [*]; done)), H', ⟨by have := HK1.out; have := HK2.out; omega⟩, ⟨by (with_reducible repeat (first | apply Kd.R_alloc | apply Kd.R_drewN | apply Kd.R_drew)); exact HQ32.out⟩, ⟨by repeat (first | (with_reducible first | exact HK.out | apply Kept.alloc | apply Kept.drewN | apply Kept.drew | refine Kept.setCell ?_ HMgo27.out _ | refine Kept.setCell ?_ HMgo27.out _ | refine Kept.setCell ?_ HMgo27.out _ | refine Kept.setCell ?_ HMgo27.out _ | refine Kept.setCell ?_ HMgo27.out _ | refine Kept.setCell ?_ HMgo27.out _ | refine Kept.setCell ?_ HMgo27.out _ | refine Kept.setCell ?_ HMgo27.out _ | refine Kept.setCell ?_ HMgo27.out _ | refine Kept.setCell ?_ HMgo27.out _ | refine Kept.setCell ?_ HMgo27.out _ | refine Kept.setCell ?_ HMgo27.out _ | refine Kept.setCell ?_ HMgo27.out _ | refine Kept.setCell ?_ HMgo27.out _ | refine Kept.setCell ?_ HMgo27.out _ | refine Kept.setCell ?_ HMgo27.out _) | exact HK.out)⟩, ⟨by repeat (first | (with_reducible first | exact HB.out | apply below_alloc | apply pw_below_drewN | apply below_drew1 | refine below_set ?_ GB27.out | refine below_set ?_ GB27.out | refine below_set ?_ GB27.out | refine below_set ?_ GB27.out | refine below_set ?_ GB27.out | refine below_set ?_ GB27.out | refine below_set ?_ GB27.out | refine below_set ?_ GB27.out | refine below_set ?_ GB27.out | refine below_set ?_ GB27.out | refine below_set ?_ GB27.out | refine below_set ?_ GB27.out | refine below_set ?_ GB27.out | refine below_set ?_ GB27.out | refine below_set ?_ GB27.out | refine below_set ?_ GB27.out) | exact HB.out)⟩⟩
                    · rw [if_neg c26] at H
                      exact absurd H (by simp)
                  · rw [if_neg c25] at H
                    exact absurd H (by simp)
                · rw [if_neg c24] at H
                  exact absurd H (by simp)
              · rw [if_neg c23] at H
                exact absurd H (by simp)
            · rw [if_neg c21] at H
              have c21b0 : decide (x13_2 < (wrap64 (x10_1 - 1))) = false := decide_eq_false c21
              clear c21
              obtain rfl := Option.some.inj H
              go_wp2
              first | go_end0 | ((try simp only [Exit.inBlock, Exit.then]); refine bodyPost_ret (results_none rfl _ _ _) rfl ?_)
              exact ⟨by first | rfl | (simp [errW_none, errW_some] <;> rfl) | (simp [*, errW_none, errW_some] <;> rfl), by (with_reducible repeat (first | apply Kd.R_alloc | apply Kd.R_drewN | apply Kd.R_drew)); exact HO_0.out, by repeat (first | (with_reducible first | exact HB.out | apply below_alloc | apply pw_below_drewN | apply below_drew1) | exact HB.out), by repeat (first | (with_reducible first | exact HK.out | apply Kept.alloc | apply Kept.drewN | apply Kept.drew) | exact HK.out)⟩
set_option maxHeartbeats 40000000 in
set_option maxRecDepth 100000 in
theorem api_Span_52.part2 (k : Nat) (ih : ∀ m, m < k + 1 → api_Span_52.G m) (P0_ : Nat → Prop) (u9000_ : Value) (l0 : List (S28)) (a1 : Int) (a2 : Int) (a3 : Int)  (r : List (S28)) (w0 w : World) (hB : Below w0.heap.size w0 w) (ho0 : Kd.R k28 28 w w0.heap.size P0_ u9000_ l0) (H : (if (wrap64 (a2 - a1)) = 1 then (api_Span_52.l0 k l0 a1 a2 a3) else (if (wrap64 (a3 - a2)) = 1 then (api_Span_52.l2 k l0 a2 a1 a2) else (if a2 > (wrap64 ((IntKind.u64.wrap (wrap64 (a1 + a3))) / 2)) then (api_Span_52.j4 k l0 a1 a2 a3 (wrap64 ((IntKind.u64.wrap (wrap64 (a1 + a3))) / 2)) (wrap64 ((wrap64 ((IntKind.u64.wrap (wrap64 (a1 + a3))) / 2)) + a2)) (wrap64 ((wrap64 ((wrap64 ((IntKind.u64.wrap (wrap64 (a1 + a3))) / 2)) + a2)) - a3)) (wrap64 ((IntKind.u64.wrap (wrap64 (a1 + a3))) / 2))) else (api_Span_52.j4 k l0 a1 a2 a3 (wrap64 ((IntKind.u64.wrap (wrap64 (a1 + a3))) / 2)) (wrap64 ((wrap64 ((IntKind.u64.wrap (wrap64 (a1 + a3))) / 2)) + a2)) a1 a2)))) = some r) (c6 : ¬ (wrap64 (a2 - a1)) = 1) (c33 : (wrap64 (a3 - a2)) = 1) :
    Calls Try.prog 52 #[u9000_, .int .i64 a1, .int .i64 a2, .int .i64 a3, .func (.func 35) #[] #[]] w fun e w' => e = .returned (.tuple #[]) ∧ Kd.R k28 28 w' w0.heap.size (fun k_ => (P0_ k_ ∨ w.heap.size ≤ k_)) u9000_ r ∧ Below w0.heap.size w0 w' ∧ Kept w w' (fun k_ => P0_ k_) := by
  have hu28 := Try.underlying28
  have HO0 := Aside0.mk (show Kd.R k28 28 w w0.heap.size (fun k_ => (P0_ k_ ∨ w.heap.size ≤ k_)) u9000_ l0 from Kd.R_mono ho0 (fun k_ hk => (.inl hk)))
  have HK := Aside0.mk (Kept.refl w (fun k_ => P0_ k_))
  have HW0 := Aside0.mk hB.size
  have HB := Aside0.mk hB
  clear hB
  rw [if_neg c6] at H
  have c6b0 : ((wrap64 (a2 - a1)) == 1) = false := beq_eq_false_iff_ne.mpr c6
  have c6b1 : ((wrap64 (a2 - a1)) != 1) = true := bne_iff_ne.mpr c6
  rw [if_pos c33] at H
  have c33b0 : ((wrap64 (a3 - a2)) == 1) = true := beq_iff_eq.mpr c33
  have c33b1 : ((wrap64 (a3 - a2)) != 1) = false := bne_eq_false_iff_eq.mpr c33
  clear c33
  have H' := Aside0.mk H
  clear H
  go_enter Try.func52, Try.ntmps52
  go_wp2
  go_loopg [14, 15] k (fun kq v14 v15 w' => ∃ (x14_1 : Int) (x15_1 : Int), v14 = .int .i64 x14_1 ∧ v15 = .int .i64 x15_1 ∧ Aside0 (api_Span_52.l2 kq l0 a2 x14_1 x15_1 = some r) ∧ Aside0 (kq ≤ k) ∧ Aside0 (Kd.R k28 28 w' w0.heap.size (fun k_ => (P0_ k_ ∨ w.heap.size ≤ k_)) u9000_ l0) ∧ Aside0 (Kept w w' (fun k_ => P0_ k_)) ∧ Aside0 (Below w0.heap.size w0 w'))
  case atStart => exact ⟨(a1), (a2), (by first | rfl | (simp; done) | (simp [*]; done)), (by first | rfl | (simp; done) | (simp [*]; done)), H', ⟨Nat.le_refl _⟩, ⟨by (with_reducible repeat (first | apply Kd.R_alloc | apply Kd.R_drewN | apply Kd.R_drew)); exact HO0.out⟩, ⟨by repeat (first | (with_reducible first | exact HK.out | apply Kept.alloc | apply Kept.drewN | apply Kept.drew) | exact HK.out)⟩, ⟨by repeat (first | (with_reducible first | exact HB.out | apply below_alloc | apply pw_below_drewN | apply below_drew1) | exact HB.out)⟩⟩
  case round =>
    clear H'
    (try clear c1); (try clear p1); (try clear q1); (try clear hx1); (try clear c2); (try clear p2); (try clear q2); (try clear hx2); (try clear c3); (try clear c5); (try clear c6); (try clear c6b0); (try clear c6b1); (try clear p6); (try clear c7); (try clear c7b0); (try clear c9); (try clear c9b0); (try clear c10); (try clear c10b0); (try clear c11); (try clear c11b0); (try clear c12); (try clear c12b0); (try clear c14); (try clear c14b0); (try clear p15); (try clear q15); (try clear hx15); (try clear p16); (try clear q16); (try clear hx16); (try clear c21); (try clear c21b0); (try clear c23); (try clear c23b0); (try clear c24); (try clear c24b0); (try clear c25); (try clear c25b0)
    (try clear c26); (try clear c26b0); (try clear c27); (try clear p27); (try clear q27); (try clear hx27); (try clear hf27); (try clear c28); (try clear p28); (try clear q28); (try clear hx28); (try clear hf28); (try clear c31); (try clear c32); (try clear c33); (try clear c33b0); (try clear c33b1); (try clear hx156_0); (try clear hx156_1); (try clear hx156_2); (try clear hx156_3); (try clear hx156_4); (try clear hx156_5); (try clear hx156_6); (try clear hx156_7); (try clear hx157_0); (try clear hx157_1); (try clear hx157_2); (try clear hx157_3); (try clear hx157_4); (try clear hx157_5); (try clear hx157_6); (try clear hx157_7); (try clear hx159_0); (try clear hx159_1); (try clear hx159_2); (try clear hx159_3); (try clear hx159_4); (try clear hx159_5); (try clear hx159_6)
    (try clear hx159_7); (try clear hx160_0); (try clear hx160_1); (try clear hx160_2); (try clear hx160_3); (try clear hx160_4); (try clear hx160_5); (try clear hx160_6); (try clear hx160_7); (try clear hx27_0); (try clear hx27_1); (try clear hx27_2); (try clear hx27_3); (try clear hx27_4); (try clear hx27_5); (try clear hx27_6); (try clear hx27_7); (try clear hx28_0); (try clear hx28_1); (try clear hx28_2); (try clear hx28_3); (try clear hx28_4); (try clear hx28_5); (try clear hx28_6); (try clear hx28_7); (try clear p1); (try clear p15); (try clear p156); (try clear p157); (try clear p159); (try clear p160); (try clear p2); (try clear p27); (try clear p28); (try clear p6); (try clear q1); (try clear q15); (try clear q156); (try clear q157); (try clear q159)
    (try clear q160); (try clear q27); (try clear q28)
    obtain ⟨x14_1, x15_1, rfl, rfl, HA, HK1, HO_0, HK, HB⟩ := hrel
    cases gk with
    | zero => exact absurd HA.out (by simp [api_Span_52.l2])
    | succ k1 =>
      have H := HA.out
      clear HA
      simp only [api_Span_52.l2] at H
      by_cases c34 : x14_1 < x15_1
      · rw [if_pos c34] at H
        have c34b0 : decide (x14_1 < x15_1) = true := decide_eq_true c34
        clear c34
        by_cases c35 : 0 ≤ a2
        · rw [if_pos c35] at H
          have c35b0 : decide (0 ≤ a2) = true := decide_eq_true c35
          clear c35
          by_cases c36 : a2 < (l0.length : Int)
          · rw [if_pos c36] at H
            have c36b0 : decide (a2 < (l0.length : Int)) = true := decide_eq_true c36
            clear c36
            obtain ⟨ji37, hji37⟩ : ∃ j_ : Int, (wrap64 ((IntKind.u64.wrap (wrap64 (x14_1 + x15_1))) / 2)) = j_ := ⟨_, rfl⟩
            replace H : (if 0 ≤ (ji37) then (if (ji37) < (l0.length : Int) then ((span_order.f k1 ((rd_T28 l0 a2).f0) ((rd_T28 l0 a2).f1) ((rd_T28 l0 a2).f2) ((rd_T28 l0 a2).f3) ((rd_T28 l0 a2).f4) ((rd_T28 l0 a2).f5) ((rd_T28 l0 a2).f6) ((rd_T28 l0 a2).f7) ((rd_T28 l0 (ji37)).f0) ((rd_T28 l0 (ji37)).f1) ((rd_T28 l0 (ji37)).f2) ((rd_T28 l0 (ji37)).f3) ((rd_T28 l0 (ji37)).f4) ((rd_T28 l0 (ji37)).f5) ((rd_T28 l0 (ji37)).f6) ((rd_T28 l0 (ji37)).f7)).bind fun t165 => (if t165 < 0 then (api_Span_52.l2 k1 l0 a2 x14_1 ji37) else (api_Span_52.l2 k1 l0 a2 (wrap64 ((ji37) + 1)) x15_1))) else (none)) else (none)) = some r := by first | (rw [hji37] at H; exact H) | (simp only [hji37] at H ⊢; exact H)
            have hji37w : (IntKind.i64.wrap ((IntKind.u64.wrap (wrap64 (x14_1 + x15_1))) / 2)) = ji37 := (i64_w _).trans hji37
            by_cases c38 : 0 ≤ (ji37)
            · rw [if_pos c38] at H
              have c38b0 : decide (0 ≤ (ji37)) = true := decide_eq_true c38
              clear c38
              by_cases c39 : (ji37) < (l0.length : Int)
              · rw [if_pos c39] at H
                have c39b0 : decide ((ji37) < (l0.length : Int)) = true := decide_eq_true c39
                clear c39
                replace H := Option.bind_eq_some_iff.mp H
                obtain ⟨t165, A400, H⟩ := H
                replace H : (if t165 < 0 then (api_Span_52.l2 k1 l0 a2 x14_1 ji37) else (api_Span_52.l2 k1 l0 a2 (wrap64 ((ji37) + 1)) x15_1)) = some r := H
                have A40 := Aside0.mk A400
                clear A400
                by_cases c41 : t165 < 0
                · rw [if_pos c41] at H
                  have c41b0 : decide (t165 < 0) = true := decide_eq_true c41
                  clear c41
                  have H' := Aside0.mk H
                  clear H
                  try go_wp2
                  have n0_ := Aside0.mk (Kd.R_drew HO_0.out)
                  have n1_ := Aside0.mk (Kept.drew HK.out)
                  have n2_ := Aside0.mk (below_drew1 HB.out)
                  clear HO_0
                  clear HK
                  clear HB
                  have HO_0 := n0_
                  have HK := n1_
                  have HB := n2_
                  clear n0_ n1_ n2_
                  obtain ⟨Ao43, co43, eo43⟩ := Kd.R_slice HO_0.out
                  (first | subst eo43 | (injection eo43 with f1_ f2_ f3_; have f4_ := f1_.symm; have f5_ := f3_.symm; clear f1_ f2_ f3_; subst f4_; subst f5_))
                  have p163 : 0 ≤ (a2 : Int) := of_decide_eq_true (by first | (with_reducible assumption) | assumption)
                  have q163 : a2 < (l0.length : Int) := of_decide_eq_true (by first | (with_reducible assumption) | assumption)
                  obtain ⟨ad163, e163, hx163_0, hx163_1, hx163_2, hx163_3, hx163_4, hx163_5, hx163_6, hx163_7⟩ := at_T28 (Kd.R_reads' HO_0.out).2.2 a2 p163 q163
                  cases e163
                  replace p163 := eq_true p163
                  replace q163 := eq_true q163
                  have p164 : 0 ≤ ((ji37) : Int) := of_decide_eq_true (by first | (with_reducible assumption) | assumption)
                  have q164 : (ji37) < (l0.length : Int) := of_decide_eq_true (by first | (with_reducible assumption) | assumption)
                  obtain ⟨ad164, e164, hx164_0, hx164_1, hx164_2, hx164_3, hx164_4, hx164_5, hx164_6, hx164_7⟩ := at_T28 (Kd.R_reads' HO_0.out).2.2 (ji37) p164 q164
                  obtain rfl : ad163 = ad164 := (by injection e164)
                  replace p164 := eq_true p164
                  replace q164 := eq_true q164
                  refine start_ (n := 12) (S := fun w' => w'.cell? (ad163.add ((a2).toNat * 8)) = some (.int .u64 ((rd_T28 l0 a2).f0)) ∧ w'.cell? ⟨(ad163.add ((a2).toNat * 8)).block, (ad163.add ((a2).toNat * 8)).off + 1, none⟩ = some (.int .u64 ((rd_T28 l0 a2).f1)) ∧ w'.cell? ⟨(ad163.add ((a2).toNat * 8)).block, (ad163.add ((a2).toNat * 8)).off + 2, none⟩ = some (.int .u64 ((rd_T28 l0 a2).f2)) ∧ w'.cell? ⟨(ad163.add ((a2).toNat * 8)).block, (ad163.add ((a2).toNat * 8)).off + 3, none⟩ = some (.int .u64 ((rd_T28 l0 a2).f3)) ∧ w'.cell? ⟨(ad163.add ((a2).toNat * 8)).block, (ad163.add ((a2).toNat * 8)).off + 4, none⟩ = some (.int .u64 ((rd_T28 l0 a2).f4)) ∧ w'.cell? ⟨(ad163.add ((a2).toNat * 8)).block, (ad163.add ((a2).toNat * 8)).off + 5, none⟩ = some (.string ((rd_T28 l0 a2).f5)) ∧ w'.cell? ⟨(ad163.add ((a2).toNat * 8)).block, (ad163.add ((a2).toNat * 8)).off + 6, none⟩ = some (.string ((rd_T28 l0 a2).f6)) ∧ w'.cell? ⟨(ad163.add ((a2).toNat * 8)).block, (ad163.add ((a2).toNat * 8)).off + 7, none⟩ = some (.bool ((rd_T28 l0 a2).f7)) ∧ w'.cell? (ad163.add (((ji37)).toNat * 8)) = some (.int .u64 ((rd_T28 l0 (ji37)).f0)) ∧ w'.cell? ⟨(ad163.add (((ji37)).toNat * 8)).block, (ad163.add (((ji37)).toNat * 8)).off + 1, none⟩ = some (.int .u64 ((rd_T28 l0 (ji37)).f1)) ∧ w'.cell? ⟨(ad163.add (((ji37)).toNat * 8)).block, (ad163.add (((ji37)).toNat * 8)).off + 2, none⟩ = some (.int .u64 ((rd_T28 l0 (ji37)).f2)) ∧ w'.cell? ⟨(ad163.add (((ji37)).toNat * 8)).block, (ad163.add (((ji37)).toNat * 8)).off + 3, none⟩ = some (.int .u64 ((rd_T28 l0 (ji37)).f3)) ∧ w'.cell? ⟨(ad163.add (((ji37)).toNat * 8)).block, (ad163.add (((ji37)).toNat * 8)).off + 4, none⟩ = some (.int .u64 ((rd_T28 l0 (ji37)).f4)) ∧ w'.cell? ⟨(ad163.add (((ji37)).toNat * 8)).block, (ad163.add (((ji37)).toNat * 8)).off + 5, none⟩ = some (.string ((rd_T28 l0 (ji37)).f5)) ∧ w'.cell? ⟨(ad163.add (((ji37)).toNat * 8)).block, (ad163.add (((ji37)).toNat * 8)).off + 6, none⟩ = some (.string ((rd_T28 l0 (ji37)).f6)) ∧ w'.cell? ⟨(ad163.add (((ji37)).toNat * 8)).block, (ad163.add (((ji37)).toNat * 8)).off + 7, none⟩ = some (.bool ((rd_T28 l0 (ji37)).f7))) (ds := []) #[false, false, false, false, false, false, false, false, false, false, false, false] (by kernel_rfl) rfl rfl ⟨hx163_0, hx163_1, hx163_2, hx163_3, hx163_4, hx163_5, hx163_6, hx163_7, hx164_0, hx164_1, hx164_2, hx164_3, hx164_4, hx164_5, hx164_6, hx164_7⟩ (fun hHeld => ?_); refine with_tabW api_Span_52.tab17 api_Span_52.bits17 (fun HT_ HW_ => ?_)
                  generalize wr.drew = w42 at HO_0 HK HB hx163_0 hx163_1 hx163_2 hx163_3 hx163_4 hx163_5 hx163_6 hx163_7 hx164_0 hx164_1 hx164_2 hx164_3 hx164_4 hx164_5 hx164_6 hx164_7 hHeld ⊢
                  refine pure_ (i := 0) (N := some 92) (v := ?_) (a' := ?_) #[true, false, false, false, false, false, false, false, false, false, false, false] rfl rfl (any_of HT_.out (by kernel_rfl)) (fun _ _ _ h => h) (Or.inl ⟨by rfl, ?_⟩) ?_ ?_
                  rotate_left
                  · intro w'
                    go_simp
                    with_reducible rfl
                  rotate_left
                  · simp only [Act.put, List.setIfInBounds_toArray, List.set_cons_zero, List.set_cons_succ, i64_w, i32_w]
                    rfl
                  refine pure_ (i := 1) (N := some 93) (v := ?_) (a' := ?_) #[true, true, false, false, false, false, false, false, false, false, false, false] rfl rfl (any_of HT_.out (by kernel_rfl)) (fun _ _ _ h => h) (Or.inl ⟨by rfl, ?_⟩) ?_ ?_
                  rotate_left
                  · intro w'
                    go_simp
                    with_reducible rfl
                  rotate_left
                  · simp only [Act.put, List.setIfInBounds_toArray, List.set_cons_zero, List.set_cons_succ, i64_w, i32_w]
                    rfl
                  refine pure_ (i := 2) (N := some 94) (v := ?_) (a' := ?_) #[true, true, true, false, false, false, false, false, false, false, false, false] rfl rfl (any_of HT_.out (by kernel_rfl)) (fun _ _ _ h => h) (Or.inl ⟨by rfl, ?_⟩) ?_ ?_
                  rotate_left
                  · intro w'
                    go_simp
                    with_reducible rfl
                  rotate_left
                  · simp only [Act.put, List.setIfInBounds_toArray, List.set_cons_zero, List.set_cons_succ, i64_w, i32_w]
                    rfl
                  refine pure_ (i := 3) (N := some 95) (v := ?_) (a' := ?_) #[true, true, true, true, false, false, false, false, false, false, false, false] rfl rfl (any_of HT_.out (by kernel_rfl)) (fun _ _ _ h => h) (Or.inl ⟨by rfl, ?_⟩) ?_ ?_
                  rotate_left
                  · intro w'
                    go_simp
                    with_reducible rfl
                  rotate_left
                  · simp only [Act.put, List.setIfInBounds_toArray, List.set_cons_zero, List.set_cons_succ, i64_w, i32_w]
                    rfl
                  refine pure_ (i := 5) (N := some 97) (v := ?_) (a' := ?_) #[true, true, true, true, false, true, false, false, false, false, false, false] rfl rfl (any_of HT_.out (by kernel_rfl)) (fun _ _ _ h => h) (Or.inl ⟨by rfl, ?_⟩) ?_ ?_
                  rotate_left
                  · intro w'
                    go_simp
                    with_reducible rfl
                  rotate_left
                  · simp only [Act.put, List.setIfInBounds_toArray, List.set_cons_zero, List.set_cons_succ, i64_w, i32_w]
                    rfl
                  refine pure_ (i := 6) (N := some 98) (v := ?_) (a' := ?_) #[true, true, true, true, false, true, true, false, false, false, false, false] rfl rfl (any_of HT_.out (by kernel_rfl)) (fun _ _ _ h => h) (Or.inl ⟨by rfl, ?_⟩) ?_ ?_
                  rotate_left
                  · intro w'
                    go_simp
                    with_reducible rfl
                  rotate_left
                  · simp only [Act.put, List.setIfInBounds_toArray, List.set_cons_zero, List.set_cons_succ, i64_w, i32_w]
                    rfl
                  refine pure_ (i := 7) (N := some 99) (v := ?_) (a' := ?_) #[true, true, true, true, false, true, true, true, false, false, false, false] rfl rfl (any_of HT_.out (by kernel_rfl)) (fun _ _ _ h => h) (Or.inl ⟨by rfl, ?_⟩) ?_ ?_
                  rotate_left
                  · intro w'
                    go_simp
                    with_reducible rfl
                  rotate_left
                  · simp only [Act.put, List.setIfInBounds_toArray, List.set_cons_zero, List.set_cons_succ, i64_w, i32_w]
                    rfl
                  refine take_ (i := 4) (N := some 96) (v := ?_) (a' := ?_) #[true, true, true, true, true, true, true, true, false, false, false, false] rfl rfl (take_ofW HT_.out HW_.out (by kernel_rfl)) (fun _ _ _ h => h) (Or.inl ⟨by rfl, ?_⟩) hHeld ?_ ?_
                  rotate_left
                  · rintro w' ⟨s0, s1, s2, s3, s4, s5, s6, s7, s8, s9, s10, s11, s12, s13, s14, s15⟩
                    go_simp
                    with_reducible rfl
                  rotate_left
                  · simp only [Act.put, List.setIfInBounds_toArray, List.set_cons_zero, List.set_cons_succ, i64_w, i32_w]
                    rfl
                  refine take_ (i := 8) (N := some 100) (v := ?_) (a' := ?_) #[true, true, true, true, true, true, true, true, true, false, false, false] rfl rfl (take_ofW HT_.out HW_.out (by kernel_rfl)) (fun _ _ _ h => h) (Or.inl ⟨by rfl, ?_⟩) hHeld ?_ ?_
                  rotate_left
                  · rintro w' ⟨s0, s1, s2, s3, s4, s5, s6, s7, s8, s9, s10, s11, s12, s13, s14, s15⟩
                    go_simp
                    with_reducible rfl
                  rotate_left
                  · simp only [Act.put, List.setIfInBounds_toArray, List.set_cons_zero, List.set_cons_succ, i64_w, i32_w]
                    rfl
                  refine one_ (i := 9) (N := some 101) #[true, true, true, true, true, true, true, true, true, true, false, false] rfl rfl (one_of HT_.out (by kernel_rfl)) (by decide) (fun K hK => ?_)
                  refine Hand.goesV_ Try.func35 (by kernel_rfl) rfl #[.agg #[.int .u64 ((rd_T28 l0 a2).f0), .int .u64 ((rd_T28 l0 a2).f1), .int .u64 ((rd_T28 l0 a2).f2), .int .u64 ((rd_T28 l0 a2).f3), .int .u64 ((rd_T28 l0 a2).f4), .string ((rd_T28 l0 a2).f5), .string ((rd_T28 l0 a2).f6), .bool ((rd_T28 l0 a2).f7)], .agg #[.int .u64 ((rd_T28 l0 (ji37)).f0), .int .u64 ((rd_T28 l0 (ji37)).f1), .int .u64 ((rd_T28 l0 (ji37)).f2), .int .u64 ((rd_T28 l0 (ji37)).f3), .int .u64 ((rd_T28 l0 (ji37)).f4), .string ((rd_T28 l0 (ji37)).f5), .string ((rd_T28 l0 (ji37)).f6), .bool ((rd_T28 l0 (ji37)).f7)]] (by rfl) rfl rfl (by rfl) (by (try simp only [List.map_toArray, List.map_cons, List.map_nil]); first | done | (simp only [hji37]; rfl) | rfl | (simp only [List.length_drop, List.length_take]; rfl)) ?_
                  with_reducible refine (span_order.calls k1 ((rd_T28 l0 a2).f0) ((rd_T28 l0 a2).f1) ((rd_T28 l0 a2).f2) ((rd_T28 l0 a2).f3) ((rd_T28 l0 a2).f4) ((rd_T28 l0 a2).f5) ((rd_T28 l0 a2).f6) ((rd_T28 l0 a2).f7) ((rd_T28 l0 (ji37)).f0) ((rd_T28 l0 (ji37)).f1) ((rd_T28 l0 (ji37)).f2) ((rd_T28 l0 (ji37)).f3) ((rd_T28 l0 (ji37)).f4) ((rd_T28 l0 (ji37)).f5) ((rd_T28 l0 (ji37)).f6) ((rd_T28 l0 (ji37)).f7) t165 _ A40.out).mono ?_
                  rintro e w44 ⟨rfl, hb⟩
                  have HS0_ := (hb.cell (World.block_lt_of_cell? _ _ (hHeld.1))).trans (hHeld.1)
                  have HS1_ := (hb.cell (World.block_lt_of_cell? _ _ (hHeld.2.1))).trans (hHeld.2.1)
                  have HS2_ := (hb.cell (World.block_lt_of_cell? _ _ (hHeld.2.2.1))).trans (hHeld.2.2.1)
                  have HS3_ := (hb.cell (World.block_lt_of_cell? _ _ (hHeld.2.2.2.1))).trans (hHeld.2.2.2.1)
                  have HS4_ := (hb.cell (World.block_lt_of_cell? _ _ (hHeld.2.2.2.2.1))).trans (hHeld.2.2.2.2.1)
                  have HS5_ := (hb.cell (World.block_lt_of_cell? _ _ (hHeld.2.2.2.2.2.1))).trans (hHeld.2.2.2.2.2.1)
                  have HS6_ := (hb.cell (World.block_lt_of_cell? _ _ (hHeld.2.2.2.2.2.2.1))).trans (hHeld.2.2.2.2.2.2.1)
                  have HS7_ := (hb.cell (World.block_lt_of_cell? _ _ (hHeld.2.2.2.2.2.2.2.1))).trans (hHeld.2.2.2.2.2.2.2.1)
                  have HS8_ := (hb.cell (World.block_lt_of_cell? _ _ (hHeld.2.2.2.2.2.2.2.2.1))).trans (hHeld.2.2.2.2.2.2.2.2.1)
                  have HS9_ := (hb.cell (World.block_lt_of_cell? _ _ (hHeld.2.2.2.2.2.2.2.2.2.1))).trans (hHeld.2.2.2.2.2.2.2.2.2.1)
                  have HS10_ := (hb.cell (World.block_lt_of_cell? _ _ (hHeld.2.2.2.2.2.2.2.2.2.2.1))).trans (hHeld.2.2.2.2.2.2.2.2.2.2.1)
                  have HS11_ := (hb.cell (World.block_lt_of_cell? _ _ (hHeld.2.2.2.2.2.2.2.2.2.2.2.1))).trans (hHeld.2.2.2.2.2.2.2.2.2.2.2.1)
                  have HS12_ := (hb.cell (World.block_lt_of_cell? _ _ (hHeld.2.2.2.2.2.2.2.2.2.2.2.2.1))).trans (hHeld.2.2.2.2.2.2.2.2.2.2.2.2.1)
                  have HS13_ := (hb.cell (World.block_lt_of_cell? _ _ (hHeld.2.2.2.2.2.2.2.2.2.2.2.2.2.1))).trans (hHeld.2.2.2.2.2.2.2.2.2.2.2.2.2.1)
                  have HS14_ := (hb.cell (World.block_lt_of_cell? _ _ (hHeld.2.2.2.2.2.2.2.2.2.2.2.2.2.2.1))).trans (hHeld.2.2.2.2.2.2.2.2.2.2.2.2.2.2.1)
                  have HS15_ := (hb.cell (World.block_lt_of_cell? _ _ (hHeld.2.2.2.2.2.2.2.2.2.2.2.2.2.2.2))).trans (hHeld.2.2.2.2.2.2.2.2.2.2.2.2.2.2.2)
                  refine ⟨_, rfl, ?_⟩
                  have n0_ := Aside0.mk (Kd.R_below (by (with_reducible repeat (first | apply Kd.R_alloc | apply Kd.R_drewN | apply Kd.R_drew)); exact HO_0.out) hb)
                  have n1_ := Aside0.mk (Kept.below (S := (fun k_ => P0_ k_)) (by repeat (first | (with_reducible first | exact HK.out | apply Kept.alloc | apply Kept.drewN | apply Kept.drew) | exact HK.out)) hb)
                  have n2_ := Aside0.mk (below_step (by repeat (first | (with_reducible first | exact HB.out | apply below_alloc | apply pw_below_drewN | apply below_drew1) | exact HB.out)) hb)
                  clear HO_0
                  clear HK
                  clear HB
                  have HO_0 := n0_
                  have HK := n1_
                  have HB := n2_
                  clear n0_ n1_ n2_
                  (try clear hb)
                  (try clear hb2)
                  (try clear hk)
                  (try clear hi)
                  refine hK.out _ _ ⟨HS0_, HS1_, HS2_, HS3_, HS4_, HS5_, HS6_, HS7_, HS8_, HS9_, HS10_, HS11_, HS12_, HS13_, HS14_, HS15_⟩ (fun hHeld => ?_)
                  clear hK K
                  refine norm_ (a' := ?_) ?_ ?_
                  rotate_left
                  · show Act.put _ (some 101) _ = _
                    simp only [Act.put, List.setIfInBounds_toArray, List.set_cons_zero, List.set_cons_succ, i64_w, i32_w]
                    rfl
                  refine pure_ (i := 10) (N := some 102) (v := ?_) (a' := ?_) #[true, true, true, true, true, true, true, true, true, true, true, false] rfl rfl (any_of HT_.out (by kernel_rfl)) (fun _ _ _ h => h) (Or.inl ⟨by rfl, ?_⟩) ?_ ?_
                  rotate_left
                  · intro w'
                    go_simp
                    with_reducible rfl
                  rotate_left
                  · simp only [Act.put, List.setIfInBounds_toArray, List.set_cons_zero, List.set_cons_succ, i64_w, i32_w]
                    rfl
                  refine pure_ (i := 11) (N := some 103) (v := ?_) (a' := ?_) #[true, true, true, true, true, true, true, true, true, true, true, true] rfl rfl (any_of HT_.out (by kernel_rfl)) (fun _ _ _ h => h) (Or.inl ⟨by rfl, ?_⟩) ?_ ?_
                  rotate_left
                  · intro w'
                    go_simp
                    with_reducible rfl
                  rotate_left
                  · simp only [Act.put, List.setIfInBounds_toArray, List.set_cons_zero, List.set_cons_succ, i64_w, i32_w]
                    rfl
                  refine done_ (done_of HT_.out (by kernel_rfl)) ?_
                  try go_wp2
                  go_roundg k1
                  case measure => have := HK1.out; omega
                  case rel => exact ⟨(x14_1), (ji37), (by first | rfl | (simp; done) | (simp [*]; done)), (by first | rfl | (simp; done) | (simp only [← hji37] <;> (first | rfl | simp)) | (simp [*]; done)), H', ⟨by have := HK1.out; omega⟩, ⟨by (with_reducible repeat (first | apply Kd.R_alloc | apply Kd.R_drewN | apply Kd.R_drew)); exact HO_0.out⟩, ⟨by repeat (first | (with_reducible first | exact HK.out | apply Kept.alloc | apply Kept.drewN | apply Kept.drew) | exact HK.out)⟩, ⟨by repeat (first | (with_reducible first | exact HB.out | apply below_alloc | apply pw_below_drewN | apply below_drew1) | exact HB.out)⟩⟩
                · rw [if_neg c41] at H
                  have c41b0 : decide (t165 < 0) = false := decide_eq_false c41
                  clear c41
                  have H' := Aside0.mk H
                  clear H
                  try go_wp2
                  have n0_ := Aside0.mk (Kd.R_drew HO_0.out)
                  have n1_ := Aside0.mk (Kept.drew HK.out)
                  have n2_ := Aside0.mk (below_drew1 HB.out)
                  clear HO_0
                  clear HK
                  clear HB
                  have HO_0 := n0_
                  have HK := n1_
                  have HB := n2_
                  clear n0_ n1_ n2_
                  obtain ⟨Ao46, co46, eo46⟩ := Kd.R_slice HO_0.out
                  (first | subst eo46 | (injection eo46 with f1_ f2_ f3_; have f4_ := f1_.symm; have f5_ := f3_.symm; clear f1_ f2_ f3_; subst f4_; subst f5_))
                  have p163 : 0 ≤ (a2 : Int) := of_decide_eq_true (by first | (with_reducible assumption) | assumption)
                  have q163 : a2 < (l0.length : Int) := of_decide_eq_true (by first | (with_reducible assumption) | assumption)
                  obtain ⟨ad163, e163, hx163_0, hx163_1, hx163_2, hx163_3, hx163_4, hx163_5, hx163_6, hx163_7⟩ := at_T28 (Kd.R_reads' HO_0.out).2.2 a2 p163 q163
                  cases e163
                  replace p163 := eq_true p163
                  replace q163 := eq_true q163
                  have p164 : 0 ≤ ((ji37) : Int) := of_decide_eq_true (by first | (with_reducible assumption) | assumption)
                  have q164 : (ji37) < (l0.length : Int) := of_decide_eq_true (by first | (with_reducible assumption) | assumption)
                  obtain ⟨ad164, e164, hx164_0, hx164_1, hx164_2, hx164_3, hx164_4, hx164_5, hx164_6, hx164_7⟩ := at_T28 (Kd.R_reads' HO_0.out).2.2 (ji37) p164 q164
                  obtain rfl : ad163 = ad164 := (by injection e164)
                  replace p164 := eq_true p164
                  replace q164 := eq_true q164
                  refine start_ (n := 12) (S := fun w' => w'.cell? (ad163.add ((a2).toNat * 8)) = some (.int .u64 ((rd_T28 l0 a2).f0)) ∧ w'.cell? ⟨(ad163.add ((a2).toNat * 8)).block, (ad163.add ((a2).toNat * 8)).off + 1, none⟩ = some (.int .u64 ((rd_T28 l0 a2).f1)) ∧ w'.cell? ⟨(ad163.add ((a2).toNat * 8)).block, (ad163.add ((a2).toNat * 8)).off + 2, none⟩ = some (.int .u64 ((rd_T28 l0 a2).f2)) ∧ w'.cell? ⟨(ad163.add ((a2).toNat * 8)).block, (ad163.add ((a2).toNat * 8)).off + 3, none⟩ = some (.int .u64 ((rd_T28 l0 a2).f3)) ∧ w'.cell? ⟨(ad163.add ((a2).toNat * 8)).block, (ad163.add ((a2).toNat * 8)).off + 4, none⟩ = some (.int .u64 ((rd_T28 l0 a2).f4)) ∧ w'.cell? ⟨(ad163.add ((a2).toNat * 8)).block, (ad163.add ((a2).toNat * 8)).off + 5, none⟩ = some (.string ((rd_T28 l0 a2).f5)) ∧ w'.cell? ⟨(ad163.add ((a2).toNat * 8)).block, (ad163.add ((a2).toNat * 8)).off + 6, none⟩ = some (.string ((rd_T28 l0 a2).f6)) ∧ w'.cell? ⟨(ad163.add ((a2).toNat * 8)).block, (ad163.add ((a2).toNat * 8)).off + 7, none⟩ = some (.bool ((rd_T28 l0 a2).f7)) ∧ w'.cell? (ad163.add (((ji37)).toNat * 8)) = some (.int .u64 ((rd_T28 l0 (ji37)).f0)) ∧ w'.cell? ⟨(ad163.add (((ji37)).toNat * 8)).block, (ad163.add (((ji37)).toNat * 8)).off + 1, none⟩ = some (.int .u64 ((rd_T28 l0 (ji37)).f1)) ∧ w'.cell? ⟨(ad163.add (((ji37)).toNat * 8)).block, (ad163.add (((ji37)).toNat * 8)).off + 2, none⟩ = some (.int .u64 ((rd_T28 l0 (ji37)).f2)) ∧ w'.cell? ⟨(ad163.add (((ji37)).toNat * 8)).block, (ad163.add (((ji37)).toNat * 8)).off + 3, none⟩ = some (.int .u64 ((rd_T28 l0 (ji37)).f3)) ∧ w'.cell? ⟨(ad163.add (((ji37)).toNat * 8)).block, (ad163.add (((ji37)).toNat * 8)).off + 4, none⟩ = some (.int .u64 ((rd_T28 l0 (ji37)).f4)) ∧ w'.cell? ⟨(ad163.add (((ji37)).toNat * 8)).block, (ad163.add (((ji37)).toNat * 8)).off + 5, none⟩ = some (.string ((rd_T28 l0 (ji37)).f5)) ∧ w'.cell? ⟨(ad163.add (((ji37)).toNat * 8)).block, (ad163.add (((ji37)).toNat * 8)).off + 6, none⟩ = some (.string ((rd_T28 l0 (ji37)).f6)) ∧ w'.cell? ⟨(ad163.add (((ji37)).toNat * 8)).block, (ad163.add (((ji37)).toNat * 8)).off + 7, none⟩ = some (.bool ((rd_T28 l0 (ji37)).f7))) (ds := []) #[false, false, false, false, false, false, false, false, false, false, false, false] (by kernel_rfl) rfl rfl ⟨hx163_0, hx163_1, hx163_2, hx163_3, hx163_4, hx163_5, hx163_6, hx163_7, hx164_0, hx164_1, hx164_2, hx164_3, hx164_4, hx164_5, hx164_6, hx164_7⟩ (fun hHeld => ?_); refine with_tabW api_Span_52.tab17 api_Span_52.bits17 (fun HT_ HW_ => ?_)
                  generalize wr.drew = w45 at HO_0 HK HB hx163_0 hx163_1 hx163_2 hx163_3 hx163_4 hx163_5 hx163_6 hx163_7 hx164_0 hx164_1 hx164_2 hx164_3 hx164_4 hx164_5 hx164_6 hx164_7 hHeld ⊢
                  refine pure_ (i := 0) (N := some 92) (v := ?_) (a' := ?_) #[true, false, false, false, false, false, false, false, false, false, false, false] rfl rfl (any_of HT_.out (by kernel_rfl)) (fun _ _ _ h => h) (Or.inl ⟨by rfl, ?_⟩) ?_ ?_
                  rotate_left
                  · intro w'
                    go_simp
                    with_reducible rfl
                  rotate_left
                  · simp only [Act.put, List.setIfInBounds_toArray, List.set_cons_zero, List.set_cons_succ, i64_w, i32_w]
                    rfl
                  refine pure_ (i := 1) (N := some 93) (v := ?_) (a' := ?_) #[true, true, false, false, false, false, false, false, false, false, false, false] rfl rfl (any_of HT_.out (by kernel_rfl)) (fun _ _ _ h => h) (Or.inl ⟨by rfl, ?_⟩) ?_ ?_
                  rotate_left
                  · intro w'
                    go_simp
                    with_reducible rfl
                  rotate_left
                  · simp only [Act.put, List.setIfInBounds_toArray, List.set_cons_zero, List.set_cons_succ, i64_w, i32_w]
                    rfl
                  refine pure_ (i := 2) (N := some 94) (v := ?_) (a' := ?_) #[true, true, true, false, false, false, false, false, false, false, false, false] rfl rfl (any_of HT_.out (by kernel_rfl)) (fun _ _ _ h => h) (Or.inl ⟨by rfl, ?_⟩) ?_ ?_
                  rotate_left
                  · intro w'
                    go_simp
                    with_reducible rfl
                  rotate_left
                  · simp only [Act.put, List.setIfInBounds_toArray, List.set_cons_zero, List.set_cons_succ, i64_w, i32_w]
                    rfl
                  refine pure_ (i := 3) (N := some 95) (v := ?_) (a' := ?_) #[true, true, true, true, false, false, false, false, false, false, false, false] rfl rfl (any_of HT_.out (by kernel_rfl)) (fun _ _ _ h => h) (Or.inl ⟨by rfl, ?_⟩) ?_ ?_
                  rotate_left
                  · intro w'
                    go_simp
                    with_reducible rfl
                  rotate_left
                  · simp only [Act.put, List.setIfInBounds_toArray, List.set_cons_zero, List.set_cons_succ, i64_w, i32_w]
                    rfl
                  refine pure_ (i := 5) (N := some 97) (v := ?_) (a' := ?_) #[true, true, true, true, false, true, false, false, false, false, false, false] rfl rfl (any_of HT_.out (by kernel_rfl)) (fun _ _ _ h => h) (Or.inl ⟨by rfl, ?_⟩) ?_ ?_
                  rotate_left
                  · intro w'
                    go_simp
                    with_reducible rfl
                  rotate_left
                  · simp only [Act.put, List.setIfInBounds_toArray, List.set_cons_zero, List.set_cons_succ, i64_w, i32_w]
                    rfl
                  refine pure_ (i := 6) (N := some 98) (v := ?_) (a' := ?_) #[true, true, true, true, false, true, true, false, false, false, false, false] rfl rfl (any_of HT_.out (by kernel_rfl)) (fun _ _ _ h => h) (Or.inl ⟨by rfl, ?_⟩) ?_ ?_
                  rotate_left
                  · intro w'
                    go_simp
                    with_reducible rfl
                  rotate_left
                  · simp only [Act.put, List.setIfInBounds_toArray, List.set_cons_zero, List.set_cons_succ, i64_w, i32_w]
                    rfl
                  refine pure_ (i := 7) (N := some 99) (v := ?_) (a' := ?_) #[true, true, true, true, false, true, true, true, false, false, false, false] rfl rfl (any_of HT_.out (by kernel_rfl)) (fun _ _ _ h => h) (Or.inl ⟨by rfl, ?_⟩) ?_ ?_
                  rotate_left
                  · intro w'
                    go_simp
                    with_reducible rfl
                  rotate_left
                  · simp only [Act.put, List.setIfInBounds_toArray, List.set_cons_zero, List.set_cons_succ, i64_w, i32_w]
                    rfl
                  refine take_ (i := 4) (N := some 96) (v := ?_) (a' := ?_) #[true, true, true, true, true, true, true, true, false, false, false, false] rfl rfl (take_ofW HT_.out HW_.out (by kernel_rfl)) (fun _ _ _ h => h) (Or.inl ⟨by rfl, ?_⟩) hHeld ?_ ?_
                  rotate_left
                  · rintro w' ⟨s0, s1, s2, s3, s4, s5, s6, s7, s8, s9, s10, s11, s12, s13, s14, s15⟩
                    go_simp
                    with_reducible rfl
                  rotate_left
                  · simp only [Act.put, List.setIfInBounds_toArray, List.set_cons_zero, List.set_cons_succ, i64_w, i32_w]
                    rfl
                  refine take_ (i := 8) (N := some 100) (v := ?_) (a' := ?_) #[true, true, true, true, true, true, true, true, true, false, false, false] rfl rfl (take_ofW HT_.out HW_.out (by kernel_rfl)) (fun _ _ _ h => h) (Or.inl ⟨by rfl, ?_⟩) hHeld ?_ ?_
                  rotate_left
                  · rintro w' ⟨s0, s1, s2, s3, s4, s5, s6, s7, s8, s9, s10, s11, s12, s13, s14, s15⟩
                    go_simp
                    with_reducible rfl
                  rotate_left
                  · simp only [Act.put, List.setIfInBounds_toArray, List.set_cons_zero, List.set_cons_succ, i64_w, i32_w]
                    rfl
                  refine one_ (i := 9) (N := some 101) #[true, true, true, true, true, true, true, true, true, true, false, false] rfl rfl (one_of HT_.out (by kernel_rfl)) (by decide) (fun K hK => ?_)
                  refine Hand.goesV_ Try.func35 (by kernel_rfl) rfl #[.agg #[.int .u64 ((rd_T28 l0 a2).f0), .int .u64 ((rd_T28 l0 a2).f1), .int .u64 ((rd_T28 l0 a2).f2), .int .u64 ((rd_T28 l0 a2).f3), .int .u64 ((rd_T28 l0 a2).f4), .string ((rd_T28 l0 a2).f5), .string ((rd_T28 l0 a2).f6), .bool ((rd_T28 l0 a2).f7)], .agg #[.int .u64 ((rd_T28 l0 (ji37)).f0), .int .u64 ((rd_T28 l0 (ji37)).f1), .int .u64 ((rd_T28 l0 (ji37)).f2), .int .u64 ((rd_T28 l0 (ji37)).f3), .int .u64 ((rd_T28 l0 (ji37)).f4), .string ((rd_T28 l0 (ji37)).f5), .string ((rd_T28 l0 (ji37)).f6), .bool ((rd_T28 l0 (ji37)).f7)]] (by rfl) rfl rfl (by rfl) (by (try simp only [List.map_toArray, List.map_cons, List.map_nil]); first | done | (simp only [hji37]; rfl) | rfl | (simp only [List.length_drop, List.length_take]; rfl)) ?_
                  with_reducible refine (span_order.calls k1 ((rd_T28 l0 a2).f0) ((rd_T28 l0 a2).f1) ((rd_T28 l0 a2).f2) ((rd_T28 l0 a2).f3) ((rd_T28 l0 a2).f4) ((rd_T28 l0 a2).f5) ((rd_T28 l0 a2).f6) ((rd_T28 l0 a2).f7) ((rd_T28 l0 (ji37)).f0) ((rd_T28 l0 (ji37)).f1) ((rd_T28 l0 (ji37)).f2) ((rd_T28 l0 (ji37)).f3) ((rd_T28 l0 (ji37)).f4) ((rd_T28 l0 (ji37)).f5) ((rd_T28 l0 (ji37)).f6) ((rd_T28 l0 (ji37)).f7) t165 _ A40.out).mono ?_
                  rintro e w47 ⟨rfl, hb⟩
                  have HS0_ := (hb.cell (World.block_lt_of_cell? _ _ (hHeld.1))).trans (hHeld.1)
                  have HS1_ := (hb.cell (World.block_lt_of_cell? _ _ (hHeld.2.1))).trans (hHeld.2.1)
                  have HS2_ := (hb.cell (World.block_lt_of_cell? _ _ (hHeld.2.2.1))).trans (hHeld.2.2.1)
                  have HS3_ := (hb.cell (World.block_lt_of_cell? _ _ (hHeld.2.2.2.1))).trans (hHeld.2.2.2.1)
                  have HS4_ := (hb.cell (World.block_lt_of_cell? _ _ (hHeld.2.2.2.2.1))).trans (hHeld.2.2.2.2.1)
                  have HS5_ := (hb.cell (World.block_lt_of_cell? _ _ (hHeld.2.2.2.2.2.1))).trans (hHeld.2.2.2.2.2.1)
                  have HS6_ := (hb.cell (World.block_lt_of_cell? _ _ (hHeld.2.2.2.2.2.2.1))).trans (hHeld.2.2.2.2.2.2.1)
                  have HS7_ := (hb.cell (World.block_lt_of_cell? _ _ (hHeld.2.2.2.2.2.2.2.1))).trans (hHeld.2.2.2.2.2.2.2.1)
                  have HS8_ := (hb.cell (World.block_lt_of_cell? _ _ (hHeld.2.2.2.2.2.2.2.2.1))).trans (hHeld.2.2.2.2.2.2.2.2.1)
                  have HS9_ := (hb.cell (World.block_lt_of_cell? _ _ (hHeld.2.2.2.2.2.2.2.2.2.1))).trans (hHeld.2.2.2.2.2.2.2.2.2.1)
                  have HS10_ := (hb.cell (World.block_lt_of_cell? _ _ (hHeld.2.2.2.2.2.2.2.2.2.2.1))).trans (hHeld.2.2.2.2.2.2.2.2.2.2.1)
                  have HS11_ := (hb.cell (World.block_lt_of_cell? _ _ (hHeld.2.2.2.2.2.2.2.2.2.2.2.1))).trans (hHeld.2.2.2.2.2.2.2.2.2.2.2.1)
                  have HS12_ := (hb.cell (World.block_lt_of_cell? _ _ (hHeld.2.2.2.2.2.2.2.2.2.2.2.2.1))).trans (hHeld.2.2.2.2.2.2.2.2.2.2.2.2.1)
                  have HS13_ := (hb.cell (World.block_lt_of_cell? _ _ (hHeld.2.2.2.2.2.2.2.2.2.2.2.2.2.1))).trans (hHeld.2.2.2.2.2.2.2.2.2.2.2.2.2.1)
                  have HS14_ := (hb.cell (World.block_lt_of_cell? _ _ (hHeld.2.2.2.2.2.2.2.2.2.2.2.2.2.2.1))).trans (hHeld.2.2.2.2.2.2.2.2.2.2.2.2.2.2.1)
                  have HS15_ := (hb.cell (World.block_lt_of_cell? _ _ (hHeld.2.2.2.2.2.2.2.2.2.2.2.2.2.2.2))).trans (hHeld.2.2.2.2.2.2.2.2.2.2.2.2.2.2.2)
                  refine ⟨_, rfl, ?_⟩
                  have n0_ := Aside0.mk (Kd.R_below (by (with_reducible repeat (first | apply Kd.R_alloc | apply Kd.R_drewN | apply Kd.R_drew)); exact HO_0.out) hb)
                  have n1_ := Aside0.mk (Kept.below (S := (fun k_ => P0_ k_)) (by repeat (first | (with_reducible first | exact HK.out | apply Kept.alloc | apply Kept.drewN | apply Kept.drew) | exact HK.out)) hb)
                  have n2_ := Aside0.mk (below_step (by repeat (first | (with_reducible first | exact HB.out | apply below_alloc | apply pw_below_drewN | apply below_drew1) | exact HB.out)) hb)
                  clear HO_0
                  clear HK
                  clear HB
                  have HO_0 := n0_
                  have HK := n1_
                  have HB := n2_
                  clear n0_ n1_ n2_
                  (try clear hb)
                  (try clear hb2)
                  (try clear hk)
                  (try clear hi)
                  refine hK.out _ _ ⟨HS0_, HS1_, HS2_, HS3_, HS4_, HS5_, HS6_, HS7_, HS8_, HS9_, HS10_, HS11_, HS12_, HS13_, HS14_, HS15_⟩ (fun hHeld => ?_)
                  clear hK K
                  refine norm_ (a' := ?_) ?_ ?_
                  rotate_left
                  · show Act.put _ (some 101) _ = _
                    simp only [Act.put, List.setIfInBounds_toArray, List.set_cons_zero, List.set_cons_succ, i64_w, i32_w]
                    rfl
                  refine pure_ (i := 10) (N := some 102) (v := ?_) (a' := ?_) #[true, true, true, true, true, true, true, true, true, true, true, false] rfl rfl (any_of HT_.out (by kernel_rfl)) (fun _ _ _ h => h) (Or.inl ⟨by rfl, ?_⟩) ?_ ?_
                  rotate_left
                  · intro w'
                    go_simp
                    with_reducible rfl
                  rotate_left
                  · simp only [Act.put, List.setIfInBounds_toArray, List.set_cons_zero, List.set_cons_succ, i64_w, i32_w]
                    rfl
                  refine pure_ (i := 11) (N := some 103) (v := ?_) (a' := ?_) #[true, true, true, true, true, true, true, true, true, true, true, true] rfl rfl (any_of HT_.out (by kernel_rfl)) (fun _ _ _ h => h) (Or.inl ⟨by rfl, ?_⟩) ?_ ?_
                  rotate_left
                  · intro w'
                    go_simp
                    with_reducible rfl
                  rotate_left
                  · simp only [Act.put, List.setIfInBounds_toArray, List.set_cons_zero, List.set_cons_succ, i64_w, i32_w]
                    rfl
                  refine done_ (done_of HT_.out (by kernel_rfl)) ?_
                  try go_wp2
                  go_roundg k1
                  case measure => have := HK1.out; omega
                  case rel => exact ⟨(wrap64 ((ji37) + 1)), (x15_1), (by first | rfl | (simp; done) | (simp only [← hji37] <;> (first | rfl | simp)) | (simp [*]; done)), (by first | rfl | (simp; done) | (simp [*]; done)), H', ⟨by have := HK1.out; omega⟩, ⟨by (with_reducible repeat (first | apply Kd.R_alloc | apply Kd.R_drewN | apply Kd.R_drew)); exact HO_0.out⟩, ⟨by repeat (first | (with_reducible first | exact HK.out | apply Kept.alloc | apply Kept.drewN | apply Kept.drew) | exact HK.out)⟩, ⟨by repeat (first | (with_reducible first | exact HB.out | apply below_alloc | apply pw_below_drewN | apply below_drew1) | exact HB.out)⟩⟩
              · rw [if_neg c39] at H
                exact absurd H (by simp)
            · rw [if_neg c38] at H
              exact absurd H (by simp)
          · rw [if_neg c36] at H
            exact absurd H (by simp)
        · rw [if_neg c35] at H
          exact absurd H (by simp)
      · rw [if_neg c34] at H
        have c34b0 : decide (x14_1 < x15_1) = false := decide_eq_false c34
        clear c34
        have H' := Aside0.mk H
        clear H
        go_wp2
        go_loopg [17] k1 (fun kq v17 w' => ∃ (x0_2 : List (S28)) (x17_2 : Int), v17 = .int .i64 x17_2 ∧ Aside0 (api_Span_52.l3 kq x0_2 x14_1 x17_2 = some r) ∧ Aside0 (kq ≤ k1) ∧ Aside0 (Kd.R k28 28 w' w0.heap.size (fun k_ => (P0_ k_ ∨ w.heap.size ≤ k_)) u9000_ x0_2) ∧ Aside0 (Kept w w' (fun k_ => P0_ k_)) ∧ Aside0 (Below w0.heap.size w0 w'))
        case atStart => exact ⟨(l0), (a2), (by first | rfl | (simp; done) | (simp [*]; done)), H', ⟨Nat.le_refl _⟩, ⟨by (with_reducible repeat (first | apply Kd.R_alloc | apply Kd.R_drewN | apply Kd.R_drew)); exact HO_0.out⟩, ⟨by repeat (first | (with_reducible first | exact HK.out | apply Kept.alloc | apply Kept.drewN | apply Kept.drew) | exact HK.out)⟩, ⟨by repeat (first | (with_reducible first | exact HB.out | apply below_alloc | apply pw_below_drewN | apply below_drew1) | exact HB.out)⟩⟩
        case round =>
          clear H'
          (try clear c1); (try clear p1); (try clear q1); (try clear hx1); (try clear c2); (try clear p2); (try clear q2); (try clear hx2); (try clear c3); (try clear c4); (try clear c5); (try clear c6); (try clear c6b0); (try clear c6b1); (try clear p6); (try clear c7); (try clear c7b0); (try clear c9); (try clear c9b0); (try clear c10); (try clear c10b0); (try clear c11); (try clear c11b0); (try clear c12); (try clear c12b0); (try clear c14); (try clear c14b0); (try clear p15); (try clear q15); (try clear hx15); (try clear p16); (try clear q16); (try clear hx16); (try clear c21); (try clear c21b0); (try clear c23); (try clear c23b0); (try clear c24); (try clear c24b0); (try clear c25)
          (try clear c25b0); (try clear c26); (try clear c26b0); (try clear c27); (try clear p27); (try clear q27); (try clear hx27); (try clear hf27); (try clear c28); (try clear p28); (try clear q28); (try clear hx28); (try clear hf28); (try clear c31); (try clear c32); (try clear c33); (try clear c33b0); (try clear c33b1); (try clear c34); (try clear c34b0); (try clear c35); (try clear c35b0); (try clear c36); (try clear c36b0); (try clear c38); (try clear c38b0); (try clear c39); (try clear c39b0); (try clear c41); (try clear c41b0); (try clear hx156_0); (try clear hx156_1); (try clear hx156_2); (try clear hx156_3); (try clear hx156_4); (try clear hx156_5); (try clear hx156_6); (try clear hx156_7); (try clear hx157_0); (try clear hx157_1)
          (try clear hx157_2); (try clear hx157_3); (try clear hx157_4); (try clear hx157_5); (try clear hx157_6); (try clear hx157_7); (try clear hx159_0); (try clear hx159_1); (try clear hx159_2); (try clear hx159_3); (try clear hx159_4); (try clear hx159_5); (try clear hx159_6); (try clear hx159_7); (try clear hx160_0); (try clear hx160_1); (try clear hx160_2); (try clear hx160_3); (try clear hx160_4); (try clear hx160_5); (try clear hx160_6); (try clear hx160_7); (try clear hx163_0); (try clear hx163_1); (try clear hx163_2); (try clear hx163_3); (try clear hx163_4); (try clear hx163_5); (try clear hx163_6); (try clear hx163_7); (try clear hx164_0); (try clear hx164_1); (try clear hx164_2); (try clear hx164_3); (try clear hx164_4); (try clear hx164_5); (try clear hx164_6); (try clear hx164_7); (try clear hx27_0); (try clear hx27_1)
          (try clear hx27_2); (try clear hx27_3); (try clear hx27_4); (try clear hx27_5); (try clear hx27_6); (try clear hx27_7); (try clear hx28_0); (try clear hx28_1); (try clear hx28_2); (try clear hx28_3); (try clear hx28_4); (try clear hx28_5); (try clear hx28_6); (try clear hx28_7); (try clear p1); (try clear p15); (try clear p156); (try clear p157); (try clear p159); (try clear p16); (try clear p160); (try clear p163); (try clear p164); (try clear p2); (try clear p27); (try clear p28); (try clear p6); (try clear q1); (try clear q15); (try clear q156); (try clear q157); (try clear q159); (try clear q16); (try clear q160); (try clear q163); (try clear q164); (try clear q2); (try clear q27); (try clear q28)
          obtain ⟨x0_2, x17_2, rfl, HA, HK2, HO_0, HK, HB⟩ := hrel
          cases gk with
          | zero => exact absurd HA.out (by simp [api_Span_52.l3])
          | succ k2 =>
            have H := HA.out
            clear HA
            simp only [api_Span_52.l3] at H
            by_cases c48 : x17_2 > x14_1
            · rw [if_pos c48] at H
              have c48b0 : decide (x14_1 < x17_2) = true := decide_eq_true c48
              clear c48
              obtain ⟨ji49, hji49⟩ : ∃ j_ : Int, (wrap64 (x17_2 - 1)) = j_ := ⟨_, rfl⟩
              replace H : (if 0 ≤ (ji49) then (if (ji49) < (x0_2.length : Int) then (if 0 ≤ x17_2 then (if x17_2 < (x0_2.length : Int) then (api_Span_52.l3 k2 ((x0_2.set (x17_2 : Int).toNat (⟨(rd_T28 x0_2 (ji49)).f0, (rd_T28 x0_2 (ji49)).f1, (rd_T28 x0_2 (ji49)).f2, (rd_T28 x0_2 (ji49)).f3, (rd_T28 x0_2 (ji49)).f4, (rd_T28 x0_2 (ji49)).f5, (rd_T28 x0_2 (ji49)).f6, (rd_T28 x0_2 (ji49)).f7⟩ : S28)).set ((ji49) : Int).toNat (⟨(rd_T28 x0_2 x17_2).f0, (rd_T28 x0_2 x17_2).f1, (rd_T28 x0_2 x17_2).f2, (rd_T28 x0_2 x17_2).f3, (rd_T28 x0_2 x17_2).f4, (rd_T28 x0_2 x17_2).f5, (rd_T28 x0_2 x17_2).f6, (rd_T28 x0_2 x17_2).f7⟩ : S28)) x14_1 ji49) else (none)) else (none)) else (none)) else (none)) = some r := by first | (rw [hji49] at H; exact H) | (simp only [hji49] at H ⊢; exact H)
              have hji49w : (IntKind.i64.wrap (x17_2 - 1)) = ji49 := (i64_w _).trans hji49
              by_cases c50 : 0 ≤ (ji49)
              · rw [if_pos c50] at H
                have c50b0 : decide (0 ≤ (ji49)) = true := decide_eq_true c50
                clear c50
                by_cases c51 : (ji49) < (x0_2.length : Int)
                · rw [if_pos c51] at H
                  have c51b0 : decide ((ji49) < (x0_2.length : Int)) = true := decide_eq_true c51
                  clear c51
                  by_cases c52 : 0 ≤ x17_2
                  · rw [if_pos c52] at H
                    have c52b0 : decide (0 ≤ x17_2) = true := decide_eq_true c52
                    clear c52
                    by_cases c53 : x17_2 < (x0_2.length : Int)
                    · rw [if_pos c53] at H
                      have c53b0 : decide (x17_2 < (x0_2.length : Int)) = true := decide_eq_true c53
                      clear c53
                      obtain ⟨y168, hy168⟩ : ∃ y_ : List (S28), y_ = (x0_2.set (x17_2 : Int).toNat (⟨(rd_T28 x0_2 (ji49)).f0, (rd_T28 x0_2 (ji49)).f1, (rd_T28 x0_2 (ji49)).f2, (rd_T28 x0_2 (ji49)).f3, (rd_T28 x0_2 (ji49)).f4, (rd_T28 x0_2 (ji49)).f5, (rd_T28 x0_2 (ji49)).f6, (rd_T28 x0_2 (ji49)).f7⟩ : S28)) := ⟨_, rfl⟩
                      replace H : (api_Span_52.l3 k2 (y168.set ((ji49) : Int).toNat (⟨(rd_T28 x0_2 x17_2).f0, (rd_T28 x0_2 x17_2).f1, (rd_T28 x0_2 x17_2).f2, (rd_T28 x0_2 x17_2).f3, (rd_T28 x0_2 x17_2).f4, (rd_T28 x0_2 x17_2).f5, (rd_T28 x0_2 x17_2).f6, (rd_T28 x0_2 x17_2).f7⟩ : S28)) x14_1 ji49) = some r := by first | (rw [hy168]; with_reducible exact H) | (have H2_ := (Option.bind_some _ _).symm.trans H; rw [hy168]; with_reducible exact H2_) | (have H2_ := (Option.bind_some _ _).symm.trans H; with_reducible exact H2_) | with_reducible exact H | (rw [hy168]; exact H) | exact H
                      have Ny168 := Aside0.mk hy168
                      clear hy168
                      obtain ⟨y169, hy169⟩ : ∃ y_ : List (S28), y_ = (y168.set ((ji49) : Int).toNat (⟨(rd_T28 x0_2 x17_2).f0, (rd_T28 x0_2 x17_2).f1, (rd_T28 x0_2 x17_2).f2, (rd_T28 x0_2 x17_2).f3, (rd_T28 x0_2 x17_2).f4, (rd_T28 x0_2 x17_2).f5, (rd_T28 x0_2 x17_2).f6, (rd_T28 x0_2 x17_2).f7⟩ : S28)) := ⟨_, rfl⟩
                      replace H : (api_Span_52.l3 k2 y169 x14_1 ji49) = some r := by first | (rw [hy169]; with_reducible exact H) | (have H2_ := (Option.bind_some _ _).symm.trans H; rw [hy169]; with_reducible exact H2_) | (have H2_ := (Option.bind_some _ _).symm.trans H; with_reducible exact H2_) | with_reducible exact H | (rw [hy169]; exact H) | exact H
                      have Ny169 := Aside0.mk hy169
                      clear hy169
                      have H' := Aside0.mk H
                      clear H
                      try go_wp2
                      have n0_ := Aside0.mk (Kd.R_drew HO_0.out)
                      have n1_ := Aside0.mk (Kept.drew HK.out)
                      have n2_ := Aside0.mk (below_drew1 HB.out)
                      clear HO_0
                      clear HK
                      clear HB
                      have HO_0 := n0_
                      have HK := n1_
                      have HB := n2_
                      clear n0_ n1_ n2_
                      obtain ⟨Ao57, co57, eo57⟩ := Kd.R_slice HO_0.out
                      (first | subst eo57 | (injection eo57 with f1_ f2_ f3_; have f4_ := f1_.symm; have f5_ := f3_.symm; clear f1_ f2_ f3_; subst f4_; subst f5_))
                      have p166 : 0 ≤ ((ji49) : Int) := of_decide_eq_true (by first | (with_reducible assumption) | assumption)
                      have q166 : (ji49) < (x0_2.length : Int) := of_decide_eq_true (by first | (with_reducible assumption) | assumption)
                      obtain ⟨ad166, e166, hx166_0, hx166_1, hx166_2, hx166_3, hx166_4, hx166_5, hx166_6, hx166_7⟩ := at_T28 (Kd.R_reads' HO_0.out).2.2 (ji49) p166 q166
                      cases e166
                      replace p166 := eq_true p166
                      replace q166 := eq_true q166
                      have p167 : 0 ≤ (x17_2 : Int) := of_decide_eq_true (by first | (with_reducible assumption) | assumption)
                      have q167 : x17_2 < (x0_2.length : Int) := of_decide_eq_true (by first | (with_reducible assumption) | assumption)
                      obtain ⟨ad167, e167, hx167_0, hx167_1, hx167_2, hx167_3, hx167_4, hx167_5, hx167_6, hx167_7⟩ := at_T28 (Kd.R_reads' HO_0.out).2.2 x17_2 p167 q167
                      obtain rfl : ad166 = ad167 := (by injection e167)
                      replace p167 := eq_true p167
                      replace q167 := eq_true q167
                      have p54 : 0 ≤ (x17_2 : Int) := of_decide_eq_true (by first | (with_reducible assumption) | assumption)
                      have q54 : (x17_2 : Int) < ((x0_2.length : Int) : Int) := of_decide_eq_true (by first | (with_reducible assumption) | assumption)
                      obtain ⟨go54, co54, eo54, gb54, gl54, cl54, HG54⟩ := Kd.R_form HO_0.out (by omega)
                      (first | cases eo54 | (injection eo54 with ea_ en_ ec_; (first | subst ea_ | (injection ea_ with ea_; subst ea_)); subst ec_; clear en_))
                      have GB54 := Aside0.mk gb54
                      have GG54 := Aside0.mk HG54
                      clear gb54 gl54 HG54
                      have HMgo54 := Aside0.mk (show (P0_ go54 ∨ w.heap.size ≤ go54) from (HO_0.out.1 _ rfl))
                      (first | simp only [add_plain] at hx166_0 | skip)
                      (first | simp only [add_plain] at hx166_1 | skip)
                      (first | simp only [add_plain] at hx166_2 | skip)
                      (first | simp only [add_plain] at hx166_3 | skip)
                      (first | simp only [add_plain] at hx166_4 | skip)
                      (first | simp only [add_plain] at hx166_5 | skip)
                      (first | simp only [add_plain] at hx166_6 | skip)
                      (first | simp only [add_plain] at hx166_7 | skip)
                      (first | simp only [add_plain] at hx167_0 | skip)
                      (first | simp only [add_plain] at hx167_1 | skip)
                      (first | simp only [add_plain] at hx167_2 | skip)
                      (first | simp only [add_plain] at hx167_3 | skip)
                      (first | simp only [add_plain] at hx167_4 | skip)
                      (first | simp only [add_plain] at hx167_5 | skip)
                      (first | simp only [add_plain] at hx167_6 | skip)
                      (first | simp only [add_plain] at hx167_7 | skip)
                      obtain ⟨ce54, hcl54, hM54, hcc54, hfr54⟩ := Kd.R_elem HO_0.out z28 (x17_2 : Int) p54 q54
                      obtain rfl := k28_openM hM54
                      have hx54_0 : World.cell? _ ⟨go54, (x17_2 : Int).toNat * 8, none⟩ = some (.int .u64 ((rd_T28 x0_2 x17_2).f0)) := hcc54 0 _ rfl
                      have hx54_1 : World.cell? _ ⟨go54, (x17_2 : Int).toNat * 8 + 1, none⟩ = some (.int .u64 ((rd_T28 x0_2 x17_2).f1)) := hcc54 1 _ rfl
                      have hx54_2 : World.cell? _ ⟨go54, (x17_2 : Int).toNat * 8 + 2, none⟩ = some (.int .u64 ((rd_T28 x0_2 x17_2).f2)) := hcc54 2 _ rfl
                      have hx54_3 : World.cell? _ ⟨go54, (x17_2 : Int).toNat * 8 + 3, none⟩ = some (.int .u64 ((rd_T28 x0_2 x17_2).f3)) := hcc54 3 _ rfl
                      have hx54_4 : World.cell? _ ⟨go54, (x17_2 : Int).toNat * 8 + 4, none⟩ = some (.int .u64 ((rd_T28 x0_2 x17_2).f4)) := hcc54 4 _ rfl
                      have hx54_5 : World.cell? _ ⟨go54, (x17_2 : Int).toNat * 8 + 5, none⟩ = some (.string ((rd_T28 x0_2 x17_2).f5)) := hcc54 5 _ rfl
                      have hx54_6 : World.cell? _ ⟨go54, (x17_2 : Int).toNat * 8 + 6, none⟩ = some (.string ((rd_T28 x0_2 x17_2).f6)) := hcc54 6 _ rfl
                      have hx54_7 : World.cell? _ ⟨go54, (x17_2 : Int).toNat * 8 + 7, none⟩ = some (.bool ((rd_T28 x0_2 x17_2).f7)) := hcc54 7 _ rfl
                      have hf54_0 : World.frozen? _ ⟨go54, (x17_2 : Int).toNat * 8, none⟩ = false := hfr54 0
                      have hf54_1 : World.frozen? _ ⟨go54, (x17_2 : Int).toNat * 8 + 1, none⟩ = false := hfr54 1
                      have hf54_2 : World.frozen? _ ⟨go54, (x17_2 : Int).toNat * 8 + 2, none⟩ = false := hfr54 2
                      have hf54_3 : World.frozen? _ ⟨go54, (x17_2 : Int).toNat * 8 + 3, none⟩ = false := hfr54 3
                      have hf54_4 : World.frozen? _ ⟨go54, (x17_2 : Int).toNat * 8 + 4, none⟩ = false := hfr54 4
                      have hf54_5 : World.frozen? _ ⟨go54, (x17_2 : Int).toNat * 8 + 5, none⟩ = false := hfr54 5
                      have hf54_6 : World.frozen? _ ⟨go54, (x17_2 : Int).toNat * 8 + 6, none⟩ = false := hfr54 6
                      have hf54_7 : World.frozen? _ ⟨go54, (x17_2 : Int).toNat * 8 + 7, none⟩ = false := hfr54 7
                      clear hcl54 hcc54 hfr54 hM54
                      replace p54 := eq_true p54
                      replace q54 := eq_true q54
                      obtain ⟨ce58, hcl58, hM58, hcc58, hfr58⟩ := Kd.R_elem HO_0.out z28 (x17_2 : Int) (of_decide_eq_true (by first | (with_reducible assumption) | assumption)) (by have h_ : (x17_2 : Int) < ((x0_2.length : Int) : Int) := of_decide_eq_true (by first | (with_reducible assumption) | assumption); first | exact h_ | (have e_ := (Kd.R_reads' HO_0.out).1; omega) | simpa using h_)
                      obtain rfl := k28_openM hM58
                      have HP58 := (Kd.R_seg HO_0.out (x17_2 : Int) (of_decide_eq_true (by first | (with_reducible assumption) | assumption)) (by have h_ : (x17_2 : Int) < ((x0_2.length : Int) : Int) := of_decide_eq_true (by first | (with_reducible assumption) | assumption); first | exact h_ | (have e_ := (Kd.R_reads' HO_0.out).1; omega) | simpa using h_) (seg := [.int .u64 ((rd_T28 x0_2 (ji49)).f0), .int .u64 ((rd_T28 x0_2 (ji49)).f1), .int .u64 ((rd_T28 x0_2 (ji49)).f2), .int .u64 ((rd_T28 x0_2 (ji49)).f3), .int .u64 ((rd_T28 x0_2 (ji49)).f4), .string ((rd_T28 x0_2 (ji49)).f5), .string ((rd_T28 x0_2 (ji49)).f6), .bool ((rd_T28 x0_2 (ji49)).f7)]) (j := 0) hcl58 hcc58 (show 8 ≤ 8 from by decide) (x' := (⟨(rd_T28 x0_2 (ji49)).f0, (rd_T28 x0_2 (ji49)).f1, (rd_T28 x0_2 (ji49)).f2, (rd_T28 x0_2 (ji49)).f3, (rd_T28 x0_2 (ji49)).f4, (rd_T28 x0_2 (ji49)).f5, (rd_T28 x0_2 (ji49)).f6, (rd_T28 x0_2 (ji49)).f7⟩ : S28)) (k28_mkM _ _ _ (⟨(rd_T28 x0_2 (ji49)).f0, (rd_T28 x0_2 (ji49)).f1, (rd_T28 x0_2 (ji49)).f2, (rd_T28 x0_2 (ji49)).f3, (rd_T28 x0_2 (ji49)).f4, (rd_T28 x0_2 (ji49)).f5, (rd_T28 x0_2 (ji49)).f6, (rd_T28 x0_2 (ji49)).f7⟩ : S28) ) (fun _ hk => hk)).1
                      rw [← Ny168.out] at HP58
                      have HQ58 := Aside0.mk HP58
                      clear hcl58 hcc58 hfr58 hM58 HP58
                      have p55 : 0 ≤ ((ji49) : Int) := of_decide_eq_true (by first | (with_reducible assumption) | assumption)
                      have q55 : ((ji49) : Int) < ((x0_2.length : Int) : Int) := of_decide_eq_true (by first | (with_reducible assumption) | assumption)
                      obtain ⟨ce55, hcl55, hM55, hcc55, hfr55⟩ := Kd.R_elem HQ58.out z28 ((ji49) : Int) p55 q55
                      obtain rfl := k28_openM hM55
                      have hx55_0 : World.cell? _ ⟨go54, ((ji49) : Int).toNat * 8, none⟩ = some (.int .u64 ((rd_T28 y168 (ji49)).f0)) := hcc55 0 _ rfl
                      have hx55_1 : World.cell? _ ⟨go54, ((ji49) : Int).toNat * 8 + 1, none⟩ = some (.int .u64 ((rd_T28 y168 (ji49)).f1)) := hcc55 1 _ rfl
                      have hx55_2 : World.cell? _ ⟨go54, ((ji49) : Int).toNat * 8 + 2, none⟩ = some (.int .u64 ((rd_T28 y168 (ji49)).f2)) := hcc55 2 _ rfl
                      have hx55_3 : World.cell? _ ⟨go54, ((ji49) : Int).toNat * 8 + 3, none⟩ = some (.int .u64 ((rd_T28 y168 (ji49)).f3)) := hcc55 3 _ rfl
                      have hx55_4 : World.cell? _ ⟨go54, ((ji49) : Int).toNat * 8 + 4, none⟩ = some (.int .u64 ((rd_T28 y168 (ji49)).f4)) := hcc55 4 _ rfl
                      have hx55_5 : World.cell? _ ⟨go54, ((ji49) : Int).toNat * 8 + 5, none⟩ = some (.string ((rd_T28 y168 (ji49)).f5)) := hcc55 5 _ rfl
                      have hx55_6 : World.cell? _ ⟨go54, ((ji49) : Int).toNat * 8 + 6, none⟩ = some (.string ((rd_T28 y168 (ji49)).f6)) := hcc55 6 _ rfl
                      have hx55_7 : World.cell? _ ⟨go54, ((ji49) : Int).toNat * 8 + 7, none⟩ = some (.bool ((rd_T28 y168 (ji49)).f7)) := hcc55 7 _ rfl
                      have hf55_0 : World.frozen? _ ⟨go54, ((ji49) : Int).toNat * 8, none⟩ = false := hfr55 0
                      have hf55_1 : World.frozen? _ ⟨go54, ((ji49) : Int).toNat * 8 + 1, none⟩ = false := hfr55 1
                      have hf55_2 : World.frozen? _ ⟨go54, ((ji49) : Int).toNat * 8 + 2, none⟩ = false := hfr55 2
                      have hf55_3 : World.frozen? _ ⟨go54, ((ji49) : Int).toNat * 8 + 3, none⟩ = false := hfr55 3
                      have hf55_4 : World.frozen? _ ⟨go54, ((ji49) : Int).toNat * 8 + 4, none⟩ = false := hfr55 4
                      have hf55_5 : World.frozen? _ ⟨go54, ((ji49) : Int).toNat * 8 + 5, none⟩ = false := hfr55 5
                      have hf55_6 : World.frozen? _ ⟨go54, ((ji49) : Int).toNat * 8 + 6, none⟩ = false := hfr55 6
                      have hf55_7 : World.frozen? _ ⟨go54, ((ji49) : Int).toNat * 8 + 7, none⟩ = false := hfr55 7
                      clear hcl55 hcc55 hfr55 hM55
                      replace p55 := eq_true p55
                      replace q55 := eq_true q55
                      obtain ⟨ce59, hcl59, hM59, hcc59, hfr59⟩ := Kd.R_elem HQ58.out z28 ((ji49) : Int) (of_decide_eq_true (by first | (with_reducible assumption) | assumption)) (by have h_ : ((ji49) : Int) < ((x0_2.length : Int) : Int) := of_decide_eq_true (by first | (with_reducible assumption) | assumption); first | exact h_ | (have e_ := (Kd.R_reads' HO_0.out).1; omega) | simpa using h_)
                      obtain rfl := k28_openM hM59
                      have HP59 := (Kd.R_seg HQ58.out ((ji49) : Int) (of_decide_eq_true (by first | (with_reducible assumption) | assumption)) (by have h_ : ((ji49) : Int) < ((x0_2.length : Int) : Int) := of_decide_eq_true (by first | (with_reducible assumption) | assumption); first | exact h_ | (have e_ := (Kd.R_reads' HO_0.out).1; omega) | simpa using h_) (seg := [.int .u64 ((rd_T28 x0_2 x17_2).f0), .int .u64 ((rd_T28 x0_2 x17_2).f1), .int .u64 ((rd_T28 x0_2 x17_2).f2), .int .u64 ((rd_T28 x0_2 x17_2).f3), .int .u64 ((rd_T28 x0_2 x17_2).f4), .string ((rd_T28 x0_2 x17_2).f5), .string ((rd_T28 x0_2 x17_2).f6), .bool ((rd_T28 x0_2 x17_2).f7)]) (j := 0) hcl59 hcc59 (show 8 ≤ 8 from by decide) (x' := (⟨(rd_T28 x0_2 x17_2).f0, (rd_T28 x0_2 x17_2).f1, (rd_T28 x0_2 x17_2).f2, (rd_T28 x0_2 x17_2).f3, (rd_T28 x0_2 x17_2).f4, (rd_T28 x0_2 x17_2).f5, (rd_T28 x0_2 x17_2).f6, (rd_T28 x0_2 x17_2).f7⟩ : S28)) (k28_mkM _ _ _ (⟨(rd_T28 x0_2 x17_2).f0, (rd_T28 x0_2 x17_2).f1, (rd_T28 x0_2 x17_2).f2, (rd_T28 x0_2 x17_2).f3, (rd_T28 x0_2 x17_2).f4, (rd_T28 x0_2 x17_2).f5, (rd_T28 x0_2 x17_2).f6, (rd_T28 x0_2 x17_2).f7⟩ : S28) ) (fun _ hk => hk)).1
                      rw [← Ny169.out] at HP59
                      have HQ59 := Aside0.mk HP59
                      clear hcl59 hcc59 hfr59 hM59 HP59
                      refine start_ (n := 18) (S := fun w' => w'.cell? ⟨go54, ((ji49)).toNat * 8, none⟩ = some (.int .u64 ((rd_T28 x0_2 (ji49)).f0)) ∧ w'.cell? ⟨go54, ((ji49)).toNat * 8 + 1, none⟩ = some (.int .u64 ((rd_T28 x0_2 (ji49)).f1)) ∧ w'.cell? ⟨go54, ((ji49)).toNat * 8 + 2, none⟩ = some (.int .u64 ((rd_T28 x0_2 (ji49)).f2)) ∧ w'.cell? ⟨go54, ((ji49)).toNat * 8 + 3, none⟩ = some (.int .u64 ((rd_T28 x0_2 (ji49)).f3)) ∧ w'.cell? ⟨go54, ((ji49)).toNat * 8 + 4, none⟩ = some (.int .u64 ((rd_T28 x0_2 (ji49)).f4)) ∧ w'.cell? ⟨go54, ((ji49)).toNat * 8 + 5, none⟩ = some (.string ((rd_T28 x0_2 (ji49)).f5)) ∧ w'.cell? ⟨go54, ((ji49)).toNat * 8 + 6, none⟩ = some (.string ((rd_T28 x0_2 (ji49)).f6)) ∧ w'.cell? ⟨go54, ((ji49)).toNat * 8 + 7, none⟩ = some (.bool ((rd_T28 x0_2 (ji49)).f7)) ∧ w'.cell? ⟨go54, ((x17_2).toNat * 8), none⟩ = some (.int .u64 ((rd_T28 x0_2 x17_2).f0)) ∧ w'.cell? ⟨go54, ((x17_2).toNat * 8) + 1, none⟩ = some (.int .u64 ((rd_T28 x0_2 x17_2).f1)) ∧ w'.cell? ⟨go54, ((x17_2).toNat * 8) + 2, none⟩ = some (.int .u64 ((rd_T28 x0_2 x17_2).f2)) ∧ w'.cell? ⟨go54, ((x17_2).toNat * 8) + 3, none⟩ = some (.int .u64 ((rd_T28 x0_2 x17_2).f3)) ∧ w'.cell? ⟨go54, ((x17_2).toNat * 8) + 4, none⟩ = some (.int .u64 ((rd_T28 x0_2 x17_2).f4)) ∧ w'.cell? ⟨go54, ((x17_2).toNat * 8) + 5, none⟩ = some (.string ((rd_T28 x0_2 x17_2).f5)) ∧ w'.cell? ⟨go54, ((x17_2).toNat * 8) + 6, none⟩ = some (.string ((rd_T28 x0_2 x17_2).f6)) ∧ w'.cell? ⟨go54, ((x17_2).toNat * 8) + 7, none⟩ = some (.bool ((rd_T28 x0_2 x17_2).f7))) (ds := [15, 17]) #[false, false, false, false, false, false, false, false, false, false, false, false, false, false, false, false, false, false] (by kernel_rfl) rfl rfl ⟨hx166_0, hx166_1, hx166_2, hx166_3, hx166_4, hx166_5, hx166_6, hx166_7, hx167_0, hx167_1, hx167_2, hx167_3, hx167_4, hx167_5, hx167_6, hx167_7⟩ (fun hHeld => ?_); refine with_tabW api_Span_52.tab23 api_Span_52.bits23 (fun HT_ HW_ => ?_)
                      generalize wr.drew = w56 at HO_0 HK HB GG54 HQ58 HQ59 hf54_0 hf54_1 hf54_2 hf54_3 hf54_4 hf54_5 hf54_6 hf54_7 hf55_0 hf55_1 hf55_2 hf55_3 hf55_4 hf55_5 hf55_6 hf55_7 hx166_0 hx166_1 hx166_2 hx166_3 hx166_4 hx166_5 hx166_6 hx166_7 hx167_0 hx167_1 hx167_2 hx167_3 hx167_4 hx167_5 hx167_6 hx167_7 hx54_0 hx54_1 hx54_2 hx54_3 hx54_4 hx54_5 hx54_6 hx54_7 hx55_0 hx55_1 hx55_2 hx55_3 hx55_4 hx55_5 hx55_6 hx55_7 hHeld ⊢
                      refine pure_ (i := 0) (N := some 113) (v := ?_) (a' := ?_) #[true, false, false, false, false, false, false, false, false, false, false, false, false, false, false, false, false, false] rfl rfl (any_of HT_.out (by kernel_rfl)) (fun _ _ _ h => h) (Or.inl ⟨by rfl, ?_⟩) ?_ ?_
                      rotate_left
                      · intro w'
                        go_simp
                        with_reducible rfl
                      rotate_left
                      · simp only [Act.put, List.setIfInBounds_toArray, List.set_cons_zero, List.set_cons_succ, i64_w, i32_w]
                        rfl
                      refine pure_ (i := 1) (N := some 114) (v := ?_) (a' := ?_) #[true, true, false, false, false, false, false, false, false, false, false, false, false, false, false, false, false, false] rfl rfl (any_of HT_.out (by kernel_rfl)) (fun _ _ _ h => h) (Or.inl ⟨by rfl, ?_⟩) ?_ ?_
                      rotate_left
                      · intro w'
                        go_simp
                        with_reducible rfl
                      rotate_left
                      · simp only [Act.put, List.setIfInBounds_toArray, List.set_cons_zero, List.set_cons_succ, i64_w, i32_w]
                        rfl
                      refine pure_ (i := 2) (N := some 115) (v := ?_) (a' := ?_) #[true, true, true, false, false, false, false, false, false, false, false, false, false, false, false, false, false, false] rfl rfl (any_of HT_.out (by kernel_rfl)) (fun _ _ _ h => h) (Or.inl ⟨by rfl, ?_⟩) ?_ ?_
                      rotate_left
                      · intro w'
                        go_simp
                        with_reducible rfl
                      rotate_left
                      · simp only [Act.put, List.setIfInBounds_toArray, List.set_cons_zero, List.set_cons_succ, i64_w, i32_w]
                        rfl
                      refine pure_ (i := 3) (N := some 116) (v := ?_) (a' := ?_) #[true, true, true, true, false, false, false, false, false, false, false, false, false, false, false, false, false, false] rfl rfl (any_of HT_.out (by kernel_rfl)) (fun _ _ _ h => h) (Or.inl ⟨by rfl, ?_⟩) ?_ ?_
                      rotate_left
                      · intro w'
                        go_simp
                        with_reducible rfl
                      rotate_left
                      · simp only [Act.put, List.setIfInBounds_toArray, List.set_cons_zero, List.set_cons_succ, i64_w, i32_w]
                        rfl
                      refine pure_ (i := 4) (N := some 117) (v := ?_) (a' := ?_) #[true, true, true, true, true, false, false, false, false, false, false, false, false, false, false, false, false, false] rfl rfl (any_of HT_.out (by kernel_rfl)) (fun _ _ _ h => h) (Or.inl ⟨by rfl, ?_⟩) ?_ ?_
                      rotate_left
                      · intro w'
                        go_simp
                        with_reducible rfl
                      rotate_left
                      · simp only [Act.put, List.setIfInBounds_toArray, List.set_cons_zero, List.set_cons_succ, i64_w, i32_w]
                        rfl
                      refine pure_ (i := 5) (N := some 118) (v := ?_) (a' := ?_) #[true, true, true, true, true, true, false, false, false, false, false, false, false, false, false, false, false, false] rfl rfl (any_of HT_.out (by kernel_rfl)) (fun _ _ _ h => h) (Or.inl ⟨by rfl, ?_⟩) ?_ ?_
                      rotate_left
                      · intro w'
                        go_simp
                        with_reducible rfl
                      rotate_left
                      · simp only [Act.put, List.setIfInBounds_toArray, List.set_cons_zero, List.set_cons_succ, i64_w, i32_w]
                        rfl
                      refine pure_ (i := 6) (N := some 119) (v := ?_) (a' := ?_) #[true, true, true, true, true, true, true, false, false, false, false, false, false, false, false, false, false, false] rfl rfl (any_of HT_.out (by kernel_rfl)) (fun _ _ _ h => h) (Or.inl ⟨by rfl, ?_⟩) ?_ ?_
                      rotate_left
                      · intro w'
                        go_simp
                        with_reducible rfl
                      rotate_left
                      · simp only [Act.put, List.setIfInBounds_toArray, List.set_cons_zero, List.set_cons_succ, i64_w, i32_w]
                        rfl
                      refine pure_ (i := 7) (N := some 120) (v := ?_) (a' := ?_) #[true, true, true, true, true, true, true, true, false, false, false, false, false, false, false, false, false, false] rfl rfl (any_of HT_.out (by kernel_rfl)) (fun _ _ _ h => h) (Or.inl ⟨by rfl, ?_⟩) ?_ ?_
                      rotate_left
                      · intro w'
                        go_simp
                        with_reducible rfl
                      rotate_left
                      · simp only [Act.put, List.setIfInBounds_toArray, List.set_cons_zero, List.set_cons_succ, i64_w, i32_w]
                        rfl
                      refine pure_ (i := 8) (N := some 121) (v := ?_) (a' := ?_) #[true, true, true, true, true, true, true, true, true, false, false, false, false, false, false, false, false, false] rfl rfl (any_of HT_.out (by kernel_rfl)) (fun _ _ _ h => h) (Or.inl ⟨by rfl, ?_⟩) ?_ ?_
                      rotate_left
                      · intro w'
                        go_simp
                        with_reducible rfl
                      rotate_left
                      · simp only [Act.put, List.setIfInBounds_toArray, List.set_cons_zero, List.set_cons_succ, i64_w, i32_w]
                        rfl
                      refine pure_ (i := 10) (N := some 123) (v := ?_) (a' := ?_) #[true, true, true, true, true, true, true, true, true, false, true, false, false, false, false, false, false, false] rfl rfl (any_of HT_.out (by kernel_rfl)) (fun _ _ _ h => h) (Or.inl ⟨by rfl, ?_⟩) ?_ ?_
                      rotate_left
                      · intro w'
                        go_simp
                        with_reducible rfl
                      rotate_left
                      · simp only [Act.put, List.setIfInBounds_toArray, List.set_cons_zero, List.set_cons_succ, i64_w, i32_w]
                        rfl
                      refine pure_ (i := 11) (N := some 124) (v := ?_) (a' := ?_) #[true, true, true, true, true, true, true, true, true, false, true, true, false, false, false, false, false, false] rfl rfl (any_of HT_.out (by kernel_rfl)) (fun _ _ _ h => h) (Or.inl ⟨by rfl, ?_⟩) ?_ ?_
                      rotate_left
                      · intro w'
                        go_simp
                        with_reducible rfl
                      rotate_left
                      · simp only [Act.put, List.setIfInBounds_toArray, List.set_cons_zero, List.set_cons_succ, i64_w, i32_w]
                        rfl
                      refine pure_ (i := 12) (N := some 125) (v := ?_) (a' := ?_) #[true, true, true, true, true, true, true, true, true, false, true, true, true, false, false, false, false, false] rfl rfl (any_of HT_.out (by kernel_rfl)) (fun _ _ _ h => h) (Or.inl ⟨by rfl, ?_⟩) ?_ ?_
                      rotate_left
                      · intro w'
                        go_simp
                        with_reducible rfl
                      rotate_left
                      · simp only [Act.put, List.setIfInBounds_toArray, List.set_cons_zero, List.set_cons_succ, i64_w, i32_w]
                        rfl
                      refine take_ (i := 9) (N := some 122) (v := ?_) (a' := ?_) #[true, true, true, true, true, true, true, true, true, true, true, true, true, false, false, false, false, false] rfl rfl (take_ofW HT_.out HW_.out (by kernel_rfl)) (fun _ _ _ h => h) (Or.inl ⟨by rfl, ?_⟩) hHeld ?_ ?_
                      rotate_left
                      · rintro w' ⟨s0, s1, s2, s3, s4, s5, s6, s7, s8, s9, s10, s11, s12, s13, s14, s15⟩
                        go_simp
                        with_reducible rfl
                      rotate_left
                      · simp only [Act.put, List.setIfInBounds_toArray, List.set_cons_zero, List.set_cons_succ, i64_w, i32_w]
                        rfl
                      refine take_ (i := 13) (N := some 126) (v := ?_) (a' := ?_) #[true, true, true, true, true, true, true, true, true, true, true, true, true, true, false, false, false, false] rfl rfl (take_ofW HT_.out HW_.out (by kernel_rfl)) (fun _ _ _ h => h) (Or.inl ⟨by rfl, ?_⟩) hHeld ?_ ?_
                      rotate_left
                      · rintro w' ⟨s0, s1, s2, s3, s4, s5, s6, s7, s8, s9, s10, s11, s12, s13, s14, s15⟩
                        go_simp
                        with_reducible rfl
                      rotate_left
                      · simp only [Act.put, List.setIfInBounds_toArray, List.set_cons_zero, List.set_cons_succ, i64_w, i32_w]
                        rfl
                      refine pure_ (i := 14) (N := some 127) (v := ?_) (a' := ?_) #[true, true, true, true, true, true, true, true, true, true, true, true, true, true, true, false, false, false] rfl rfl (any_of HT_.out (by kernel_rfl)) (fun _ _ _ h => h) (Or.inl ⟨by rfl, ?_⟩) ?_ ?_
                      rotate_left
                      · intro w'
                        go_simp
                        with_reducible rfl
                      rotate_left
                      · simp only [Act.put, List.setIfInBounds_toArray, List.set_cons_zero, List.set_cons_succ, i64_w, i32_w]
                        rfl
                      refine last_ (i := 15) (N := none) #[true, true, true, true, true, true, true, true, true, true, true, true, true, true, true, true, false, false] rfl rfl (one_of HT_.out (by kernel_rfl)) (by decide) (fun K hK => ?_)
                      refine skip_ (w1 := (w56.setCells go54 ((x17_2 : Int).toNat * k28.sz + 0) [.int .u64 ((rd_T28 x0_2 (ji49)).f0), .int .u64 ((rd_T28 x0_2 (ji49)).f1), .int .u64 ((rd_T28 x0_2 (ji49)).f2), .int .u64 ((rd_T28 x0_2 (ji49)).f3), .int .u64 ((rd_T28 x0_2 (ji49)).f4), .string ((rd_T28 x0_2 (ji49)).f5), .string ((rd_T28 x0_2 (ji49)).f6), .bool ((rd_T28 x0_2 (ji49)).f7)])) (by rfl) rfl ?_ ?_
                      · go_simp
                        rfl
                      refine hK.out _ _ ?_
                      clear hK K
                      have nK_ := Aside0.mk (Hand.kept_setCells HMgo54.out [.int .u64 ((rd_T28 x0_2 (ji49)).f0), .int .u64 ((rd_T28 x0_2 (ji49)).f1), .int .u64 ((rd_T28 x0_2 (ji49)).f2), .int .u64 ((rd_T28 x0_2 (ji49)).f3), .int .u64 ((rd_T28 x0_2 (ji49)).f4), .string ((rd_T28 x0_2 (ji49)).f5), .string ((rd_T28 x0_2 (ji49)).f6), .bool ((rd_T28 x0_2 (ji49)).f7)] ((x17_2 : Int).toNat * k28.sz + 0) HK.out)
                      have nB_ := Aside0.mk (Hand.below_setCells GB54.out [.int .u64 ((rd_T28 x0_2 (ji49)).f0), .int .u64 ((rd_T28 x0_2 (ji49)).f1), .int .u64 ((rd_T28 x0_2 (ji49)).f2), .int .u64 ((rd_T28 x0_2 (ji49)).f3), .int .u64 ((rd_T28 x0_2 (ji49)).f4), .string ((rd_T28 x0_2 (ji49)).f5), .string ((rd_T28 x0_2 (ji49)).f6), .bool ((rd_T28 x0_2 (ji49)).f7)] ((x17_2 : Int).toNat * k28.sz + 0) HB.out)
                      clear HK HB
                      have HK := nK_
                      have HB := nB_
                      clear nK_ nB_
                      generalize (w56.setCells go54 ((x17_2 : Int).toNat * k28.sz + 0) [.int .u64 ((rd_T28 x0_2 (ji49)).f0), .int .u64 ((rd_T28 x0_2 (ji49)).f1), .int .u64 ((rd_T28 x0_2 (ji49)).f2), .int .u64 ((rd_T28 x0_2 (ji49)).f3), .int .u64 ((rd_T28 x0_2 (ji49)).f4), .string ((rd_T28 x0_2 (ji49)).f5), .string ((rd_T28 x0_2 (ji49)).f6), .bool ((rd_T28 x0_2 (ji49)).f7)]) = wm1 at HK HB HQ58 HQ59 hf55_0 hf55_1 hf55_2 hf55_3 hf55_4 hf55_5 hf55_6 hf55_7 hx55_0 hx55_1 hx55_2 hx55_3 hx55_4 hx55_5 hx55_6 hx55_7 ⊢
                      refine pure_ (i := 16) (N := some 128) (v := ?_) (a' := ?_) #[true, true, true, true, true, true, true, true, true, true, true, true, true, true, true, true, true, false] rfl rfl (any_of HT_.out (by kernel_rfl)) (fun _ _ _ h => h) (Or.inl ⟨by rfl, ?_⟩) ?_ ?_
                      rotate_left
                      · intro w'
                        go_simp
                        with_reducible rfl
                      rotate_left
                      · simp only [Act.put, List.setIfInBounds_toArray, List.set_cons_zero, List.set_cons_succ, i64_w, i32_w]
                        rfl
                      refine last_ (i := 17) (N := none) #[true, true, true, true, true, true, true, true, true, true, true, true, true, true, true, true, true, true] rfl rfl (one_of HT_.out (by kernel_rfl)) (by decide) (fun K hK => ?_)
                      refine skip_ (w1 := ?_) (by rfl) rfl ?_ ?_
                      rotate_left
                      · go_simp
                        rfl
                      refine hK.out _ _ ?_
                      clear hK K
                      refine done_ (done_of HT_.out (by kernel_rfl)) ?_
                      try go_wp2
                      go_roundg k2
                      case measure => have := HK1.out; have := HK2.out; omega
                      case rel => exact ⟨(y169), (ji49), (by first | rfl | (simp; done) | (simp only [← hji49] <;> (first | rfl | simp)) | (simp [*]; done)), H', ⟨by have := HK1.out; have := HK2.out; omega⟩, ⟨by (with_reducible repeat (first | apply Kd.R_alloc | apply Kd.R_drewN | apply Kd.R_drew)); exact HQ59.out⟩, ⟨by repeat (first | (with_reducible first | exact HK.out | apply Kept.alloc | apply Kept.drewN | apply Kept.drew | refine Kept.setCell ?_ HMgo54.out _ | refine Kept.setCell ?_ HMgo54.out _ | refine Kept.setCell ?_ HMgo54.out _ | refine Kept.setCell ?_ HMgo54.out _ | refine Kept.setCell ?_ HMgo54.out _ | refine Kept.setCell ?_ HMgo54.out _ | refine Kept.setCell ?_ HMgo54.out _ | refine Kept.setCell ?_ HMgo54.out _ | refine Kept.setCell ?_ HMgo54.out _ | refine Kept.setCell ?_ HMgo54.out _ | refine Kept.setCell ?_ HMgo54.out _ | refine Kept.setCell ?_ HMgo54.out _ | refine Kept.setCell ?_ HMgo54.out _ | refine Kept.setCell ?_ HMgo54.out _ | refine Kept.setCell ?_ HMgo54.out _ | refine Kept.setCell ?_ HMgo54.out _) | exact HK.out)⟩, ⟨by repeat (first | (with_reducible first | exact HB.out | apply below_alloc | apply pw_below_drewN | apply below_drew1 | refine below_set ?_ GB54.out | refine below_set ?_ GB54.out | refine below_set ?_ GB54.out | refine below_set ?_ GB54.out | refine below_set ?_ GB54.out | refine below_set ?_ GB54.out | refine below_set ?_ GB54.out | refine below_set ?_ GB54.out | refine below_set ?_ GB54.out | refine below_set ?_ GB54.out | refine below_set ?_ GB54.out | refine below_set ?_ GB54.out | refine below_set ?_ GB54.out | refine below_set ?_ GB54.out | refine below_set ?_ GB54.out | refine below_set ?_ GB54.out) | exact HB.out)⟩⟩
                    · rw [if_neg c53] at H
                      exact absurd H (by simp)
                  · rw [if_neg c52] at H
                    exact absurd H (by simp)
                · rw [if_neg c51] at H
                  exact absurd H (by simp)
              · rw [if_neg c50] at H
                exact absurd H (by simp)
            · rw [if_neg c48] at H
              have c48b0 : decide (x14_1 < x17_2) = false := decide_eq_false c48
              clear c48
              obtain rfl := Option.some.inj H
              go_wp2
              first | go_end0 | ((try simp only [Exit.inBlock, Exit.then]); refine bodyPost_ret (results_none rfl _ _ _) rfl ?_)
              exact ⟨by first | rfl | (simp [errW_none, errW_some] <;> rfl) | (simp [*, errW_none, errW_some] <;> rfl), by (with_reducible repeat (first | apply Kd.R_alloc | apply Kd.R_drewN | apply Kd.R_drew)); exact HO_0.out, by repeat (first | (with_reducible first | exact HB.out | apply below_alloc | apply pw_below_drewN | apply below_drew1) | exact HB.out), by repeat (first | (with_reducible first | exact HK.out | apply Kept.alloc | apply Kept.drewN | apply Kept.drew) | exact HK.out)⟩
end Go.Proofs.Ytigcdbeaachkoaa.PAll
