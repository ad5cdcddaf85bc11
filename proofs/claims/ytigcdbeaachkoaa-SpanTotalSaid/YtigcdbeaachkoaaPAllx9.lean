-- Laid by the kit's print.py, called for several functions at once (our call).
import Derived.Test.YtigcdbeaachkoaaPAllx0
import Derived.Test.YtigcdbeaachkoaaPAllx4
import Derived.Test.YtigcdbeaachkoaaPAllx8
namespace Go.Proofs.Ytigcdbeaachkoaa.PAll
open Go.RowKit Go.Proofs.YtigcdbeaachkoaaW.PrintWords Go.Proofs.YtigcdbeaachkoaaW.PrintLast Go.Proofs.YtigcdbeaachkoaaW.PrintMore
attribute [local go_sem] max2_int min2_int max_two min_two max_three min_three max_four min_four   -- for this text's walks alone
set_option linter.unusedVariables false
set_option linter.unusedSimpArgs false

/-! ### winnowlaw03_SpanTotal: function 6 -/
mutual
def winnowlaw03_SpanTotal.j0 : Nat → Bool → Int → Int → Int → Int → Int → ByteArray → ByteArray → Bool → Int → Int → Int → Int → Int → ByteArray → ByteArray → Bool → Int → Int → Int → Int → Int → ByteArray → ByteArray → Bool → Option (Bool)
  | 0, _, _, _, _, _, _, _, _, _, _, _, _, _, _, _, _, _, _, _, _, _, _, _, _, _ => none
  | k + 1, x7, x220000, x220001, x220002, x220003, x220004, x220005, x220006, x220007, x221000, x221001, x221002, x221003, x221004, x221005, x221006, x221007, x222000, x222001, x222002, x222003, x222004, x222005, x222006, x222007 => (span_Less.f k x220000 x220001 x220002 x220003 x220004 x220005 x220006 x220007 x220000 x220001 x220002 x220003 x220004 x220005 x220006 x220007).bind fun t222 => (if t222 = true then (winnowlaw03_SpanTotal.j1 k true x220000 x220001 x220002 x220003 x220004 x220005 x220006 x220007 x221000 x221001 x221002 x221003 x221004 x221005 x221006 x221007 x222000 x222001 x222002 x222003 x222004 x222005 x222006 x222007) else ((span_Less.f k x220000 x220001 x220002 x220003 x220004 x220005 x220006 x220007 x221000 x221001 x221002 x221003 x221004 x221005 x221006 x221007).bind fun t223 => (if t223 = true then ((span_Less.f k x221000 x221001 x221002 x221003 x221004 x221005 x221006 x221007 x220000 x220001 x220002 x220003 x220004 x220005 x220006 x220007).bind fun t224 => (if t224 = true then (winnowlaw03_SpanTotal.j1 k true x220000 x220001 x220002 x220003 x220004 x220005 x220006 x220007 x221000 x221001 x221002 x221003 x221004 x221005 x221006 x221007 x222000 x222001 x222002 x222003 x222004 x222005 x222006 x222007) else ((span_Less.f k x220000 x220001 x220002 x220003 x220004 x220005 x220006 x220007 x221000 x221001 x221002 x221003 x221004 x221005 x221006 x221007).bind fun t225 => (if t225 = true then (winnowlaw03_SpanTotal.j1 k (x7 == true) x220000 x220001 x220002 x220003 x220004 x220005 x220006 x220007 x221000 x221001 x221002 x221003 x221004 x221005 x221006 x221007 x222000 x222001 x222002 x222003 x222004 x222005 x222006 x222007) else ((span_Less.f k x221000 x221001 x221002 x221003 x221004 x221005 x221006 x221007 x220000 x220001 x220002 x220003 x220004 x220005 x220006 x220007).bind fun t226 => (winnowlaw03_SpanTotal.j1 k (x7 == t226) x220000 x220001 x220002 x220003 x220004 x220005 x220006 x220007 x221000 x221001 x221002 x221003 x221004 x221005 x221006 x221007 x222000 x222001 x222002 x222003 x222004 x222005 x222006 x222007)))))) else ((span_Less.f k x220000 x220001 x220002 x220003 x220004 x220005 x220006 x220007 x221000 x221001 x221002 x221003 x221004 x221005 x221006 x221007).bind fun t227 => (if t227 = true then (winnowlaw03_SpanTotal.j1 k (x7 == true) x220000 x220001 x220002 x220003 x220004 x220005 x220006 x220007 x221000 x221001 x221002 x221003 x221004 x221005 x221006 x221007 x222000 x222001 x222002 x222003 x222004 x222005 x222006 x222007) else ((span_Less.f k x221000 x221001 x221002 x221003 x221004 x221005 x221006 x221007 x220000 x220001 x220002 x220003 x220004 x220005 x220006 x220007).bind fun t228 => (winnowlaw03_SpanTotal.j1 k (x7 == t228) x220000 x220001 x220002 x220003 x220004 x220005 x220006 x220007 x221000 x221001 x221002 x221003 x221004 x221005 x221006 x221007 x222000 x222001 x222002 x222003 x222004 x222005 x222006 x222007)))))))
def winnowlaw03_SpanTotal.j1 : Nat → Bool → Int → Int → Int → Int → Int → ByteArray → ByteArray → Bool → Int → Int → Int → Int → Int → ByteArray → ByteArray → Bool → Int → Int → Int → Int → Int → ByteArray → ByteArray → Bool → Option (Bool)
  | 0, _, _, _, _, _, _, _, _, _, _, _, _, _, _, _, _, _, _, _, _, _, _, _, _, _ => none
  | k + 1, x44, x220000, x220001, x220002, x220003, x220004, x220005, x220006, x220007, x221000, x221001, x221002, x221003, x221004, x221005, x221006, x221007, x222000, x222001, x222002, x222003, x222004, x222005, x222006, x222007 => if x44 = true then (some false) else ((span_Less.f k x220000 x220001 x220002 x220003 x220004 x220005 x220006 x220007 x221000 x221001 x221002 x221003 x221004 x221005 x221006 x221007).bind fun t229 => (if t229 = true then ((span_Less.f k x221000 x221001 x221002 x221003 x221004 x221005 x221006 x221007 x222000 x222001 x222002 x222003 x222004 x222005 x222006 x222007).bind fun t230 => (if t230 = true then ((span_Less.f k x220000 x220001 x220002 x220003 x220004 x220005 x220006 x220007 x222000 x222001 x222002 x222003 x222004 x222005 x222006 x222007).bind fun t231 => (if t231 = true then ((winnowlaw03_alive.f).bind fun t232 => (some t232)) else (some false))) else ((winnowlaw03_alive.f).bind fun t233 => (some t233)))) else ((winnowlaw03_alive.f).bind fun t234 => (some t234))))
end
def winnowlaw03_SpanTotal.f (k : Nat) (a0_0 : Int) (a0_1 : Int) (a0_2 : Int) (a0_3 : Int) (a0_4 : Int) (a0_5 : ByteArray) (a0_6 : ByteArray) (a0_7 : Bool) (a1_0 : Int) (a1_1 : Int) (a1_2 : Int) (a1_3 : Int) (a1_4 : Int) (a1_5 : ByteArray) (a1_6 : ByteArray) (a1_7 : Bool) (a2_0 : Int) (a2_1 : Int) (a2_2 : Int) (a2_3 : Int) (a2_4 : Int) (a2_5 : ByteArray) (a2_6 : ByteArray) (a2_7 : Bool) : Option (Bool) := if a0_3 = a1_3 then (winnowlaw03_SpanTotal.j0 k (a0_1 == a1_1) a0_0 a0_1 a0_2 a0_3 a0_4 a0_5 a0_6 a0_7 a1_0 a1_1 a1_2 a1_3 a1_4 a1_5 a1_6 a1_7 a2_0 a2_1 a2_2 a2_3 a2_4 a2_5 a2_6 a2_7) else (winnowlaw03_SpanTotal.j0 k false a0_0 a0_1 a0_2 a0_3 a0_4 a0_5 a0_6 a0_7 a1_0 a1_1 a1_2 a1_3 a1_4 a1_5 a1_6 a1_7 a2_0 a2_1 a2_2 a2_3 a2_4 a2_5 a2_6 a2_7)
theorem winnowlaw03_SpanTotal.mono_l : ∀ k, (∀ y0 y1 y2 y3 y4 y5 y6 y7 y8 y9 y10 y11 y12 y13 y14 y15 y16 y17 y18 y19 y20 y21 y22 y23 y24, LeO (winnowlaw03_SpanTotal.j0 k y0 y1 y2 y3 y4 y5 y6 y7 y8 y9 y10 y11 y12 y13 y14 y15 y16 y17 y18 y19 y20 y21 y22 y23 y24) (winnowlaw03_SpanTotal.j0 (k + 1) y0 y1 y2 y3 y4 y5 y6 y7 y8 y9 y10 y11 y12 y13 y14 y15 y16 y17 y18 y19 y20 y21 y22 y23 y24)) ∧ (∀ y0 y1 y2 y3 y4 y5 y6 y7 y8 y9 y10 y11 y12 y13 y14 y15 y16 y17 y18 y19 y20 y21 y22 y23 y24, LeO (winnowlaw03_SpanTotal.j1 k y0 y1 y2 y3 y4 y5 y6 y7 y8 y9 y10 y11 y12 y13 y14 y15 y16 y17 y18 y19 y20 y21 y22 y23 y24) (winnowlaw03_SpanTotal.j1 (k + 1) y0 y1 y2 y3 y4 y5 y6 y7 y8 y9 y10 y11 y12 y13 y14 y15 y16 y17 y18 y19 y20 y21 y22 y23 y24))
  | 0 => ⟨fun _ _ _ _ _ _ _ _ _ _ _ _ _ _ _ _ _ _ _ _ _ _ _ _ _ r h => by simp [winnowlaw03_SpanTotal.j0] at h, fun _ _ _ _ _ _ _ _ _ _ _ _ _ _ _ _ _ _ _ _ _ _ _ _ _ r h => by simp [winnowlaw03_SpanTotal.j1] at h⟩
  | k + 1 => by
    obtain ⟨ih0, ih1⟩ := winnowlaw03_SpanTotal.mono_l k
    refine ⟨?_, ?_⟩
    · intro y0 y1 y2 y3 y4 y5 y6 y7 y8 y9 y10 y11 y12 y13 y14 y15 y16 y17 y18 y19 y20 y21 y22 y23 y24
      unfold winnowlaw03_SpanTotal.j0
      repeat' first
      | (with_reducible exact ih0 _ _ _ _ _ _ _ _ _ _ _ _ _ _ _ _ _ _ _ _ _ _ _ _ _)
      | (with_reducible exact ih1 _ _ _ _ _ _ _ _ _ _ _ _ _ _ _ _ _ _ _ _ _ _ _ _ _)
      | (with_reducible exact span_Less.mono _ _ _ _ _ _ _ _ _ _ _ _ _ _ _ _ _)
      | (with_reducible exact LeO.refl _)
      | (with_reducible exact LeO.none _)
      | (with_reducible refine LeO.ite ?_ ?_)
      | (with_reducible refine LeO.bind ?_ (fun _ => ?_))
      | exact ih0 _ _ _ _ _ _ _ _ _ _ _ _ _ _ _ _ _ _ _ _ _ _ _ _ _
      | exact ih1 _ _ _ _ _ _ _ _ _ _ _ _ _ _ _ _ _ _ _ _ _ _ _ _ _
      | exact span_Less.mono _ _ _ _ _ _ _ _ _ _ _ _ _ _ _ _ _
      | exact LeO.none _
      | refine LeO.ite ?_ ?_
      | refine LeO.bind ?_ (fun _ => ?_)
    · intro y0 y1 y2 y3 y4 y5 y6 y7 y8 y9 y10 y11 y12 y13 y14 y15 y16 y17 y18 y19 y20 y21 y22 y23 y24
      unfold winnowlaw03_SpanTotal.j1
      repeat' first
      | (with_reducible exact ih0 _ _ _ _ _ _ _ _ _ _ _ _ _ _ _ _ _ _ _ _ _ _ _ _ _)
      | (with_reducible exact ih1 _ _ _ _ _ _ _ _ _ _ _ _ _ _ _ _ _ _ _ _ _ _ _ _ _)
      | (with_reducible exact span_Less.mono _ _ _ _ _ _ _ _ _ _ _ _ _ _ _ _ _)
      | (with_reducible exact LeO.refl _)
      | (with_reducible exact LeO.none _)
      | (with_reducible refine LeO.ite ?_ ?_)
      | (with_reducible refine LeO.bind ?_ (fun _ => ?_))
      | exact ih0 _ _ _ _ _ _ _ _ _ _ _ _ _ _ _ _ _ _ _ _ _ _ _ _ _
      | exact ih1 _ _ _ _ _ _ _ _ _ _ _ _ _ _ _ _ _ _ _ _ _ _ _ _ _
      | exact span_Less.mono _ _ _ _ _ _ _ _ _ _ _ _ _ _ _ _ _
      | exact LeO.none _
      | refine LeO.ite ?_ ?_
      | refine LeO.bind ?_ (fun _ => ?_)
theorem winnowlaw03_SpanTotal.mono : ∀ a0 a1 a2 a3 a4 a5 a6 a7 a8 a9 a10 a11 a12 a13 a14 a15 a16 a17 a18 a19 a20 a21 a22 a23 k, LeO (winnowlaw03_SpanTotal.f k a0 a1 a2 a3 a4 a5 a6 a7 a8 a9 a10 a11 a12 a13 a14 a15 a16 a17 a18 a19 a20 a21 a22 a23) (winnowlaw03_SpanTotal.f (k + 1) a0 a1 a2 a3 a4 a5 a6 a7 a8 a9 a10 a11 a12 a13 a14 a15 a16 a17 a18 a19 a20 a21 a22 a23) := by
  intro a0 a1 a2 a3 a4 a5 a6 a7 a8 a9 a10 a11 a12 a13 a14 a15 a16 a17 a18 a19 a20 a21 a22 a23 k
  obtain ⟨ih0, ih1⟩ := winnowlaw03_SpanTotal.mono_l k
  unfold winnowlaw03_SpanTotal.f
  repeat' first
      | (with_reducible exact ih0 _ _ _ _ _ _ _ _ _ _ _ _ _ _ _ _ _ _ _ _ _ _ _ _ _)
      | (with_reducible exact ih1 _ _ _ _ _ _ _ _ _ _ _ _ _ _ _ _ _ _ _ _ _ _ _ _ _)
      | (with_reducible exact span_Less.mono _ _ _ _ _ _ _ _ _ _ _ _ _ _ _ _ _)
      | (with_reducible exact LeO.refl _)
      | (with_reducible exact LeO.none _)
      | (with_reducible refine LeO.ite ?_ ?_)
      | (with_reducible refine LeO.bind ?_ (fun _ => ?_))
      | exact ih0 _ _ _ _ _ _ _ _ _ _ _ _ _ _ _ _ _ _ _ _ _ _ _ _ _
      | exact ih1 _ _ _ _ _ _ _ _ _ _ _ _ _ _ _ _ _ _ _ _ _ _ _ _ _
      | exact span_Less.mono _ _ _ _ _ _ _ _ _ _ _ _ _ _ _ _ _
      | exact LeO.none _
      | refine LeO.ite ?_ ?_
      | refine LeO.bind ?_ (fun _ => ?_)
set_option maxHeartbeats 40000000 in
set_option maxRecDepth 100000 in
theorem winnowlaw03_SpanTotal.calls (k : Nat) (a0_0 : Int) (a0_1 : Int) (a0_2 : Int) (a0_3 : Int) (a0_4 : Int) (a0_5 : ByteArray) (a0_6 : ByteArray) (a0_7 : Bool) (a1_0 : Int) (a1_1 : Int) (a1_2 : Int) (a1_3 : Int) (a1_4 : Int) (a1_5 : ByteArray) (a1_6 : ByteArray) (a1_7 : Bool) (a2_0 : Int) (a2_1 : Int) (a2_2 : Int) (a2_3 : Int) (a2_4 : Int) (a2_5 : ByteArray) (a2_6 : ByteArray) (a2_7 : Bool) (r : Bool) (w : World) (hrt_ : r = true) (h : winnowlaw03_SpanTotal.f k a0_0 a0_1 a0_2 a0_3 a0_4 a0_5 a0_6 a0_7 a1_0 a1_1 a1_2 a1_3 a1_4 a1_5 a1_6 a1_7 a2_0 a2_1 a2_2 a2_3 a2_4 a2_5 a2_6 a2_7 = some r) :
    Calls Try.prog 6 #[.agg #[.int .u64 a0_0, .int .u64 a0_1, .int .u64 a0_2, .int .u64 a0_3, .int .u64 a0_4, .string a0_5, .string a0_6, .bool a0_7], .agg #[.int .u64 a1_0, .int .u64 a1_1, .int .u64 a1_2, .int .u64 a1_3, .int .u64 a1_4, .string a1_5, .string a1_6, .bool a1_7], .agg #[.int .u64 a2_0, .int .u64 a2_1, .int .u64 a2_2, .int .u64 a2_3, .int .u64 a2_4, .string a2_5, .string a2_6, .bool a2_7]] w fun e w' => e = .returned (.bool r) ∧ Below w.heap.size w w' := by
  have HRT_ := Aside0.mk hrt_
  clear hrt_
  have hu28 := Try.underlying28
  have HB := Aside0.mk (Below.refl w.heap.size w)
  have H : (if a0_3 = a1_3 then (winnowlaw03_SpanTotal.j0 k (a0_1 == a1_1) a0_0 a0_1 a0_2 a0_3 a0_4 a0_5 a0_6 a0_7 a1_0 a1_1 a1_2 a1_3 a1_4 a1_5 a1_6 a1_7 a2_0 a2_1 a2_2 a2_3 a2_4 a2_5 a2_6 a2_7) else (winnowlaw03_SpanTotal.j0 k false a0_0 a0_1 a0_2 a0_3 a0_4 a0_5 a0_6 a0_7 a1_0 a1_1 a1_2 a1_3 a1_4 a1_5 a1_6 a1_7 a2_0 a2_1 a2_2 a2_3 a2_4 a2_5 a2_6 a2_7)) = some r := h
  clear h
  have HC4 := Aside0.mk H
  clear H
  go_enter Try.func6, Try.ntmps6
  go_upto_region 1 with (first | ((with_reducible refine gate_dst (N := 3) rfl ?_); refine box_event ?hg (N := 3) ?hd (cs := #[.int .u64 a0_0, .int .u64 a0_1, .int .u64 a0_2, .int .u64 a0_3, .int .u64 a0_4, .string a0_5, .string a0_6, .bool a0_7]) (t := 28) ?hr ?_; (case hd => rfl); (case hg => rfl); (case hr => first | (go_simp; done) | (go_simp; rfl)); intro gb219 hg w5 hbox hb; have n0_ := Aside0.mk (below_step (by repeat (first | (with_reducible first | exact HB.out | apply below_alloc | apply pw_below_drewN | apply below_drew1) | exact HB.out)) hb); have n1_ := Aside0.mk (hbox); have n2_ := Aside0.mk ((by rw [hg]; exact (below_size (by repeat (first | (with_reducible first | exact HB.out | apply below_alloc | apply pw_below_drewN | apply below_drew1) | exact HB.out))) : w.heap.size ≤ gb219)); have n3_ := Aside0.mk ((by rw [hg]; exact (below_size (by repeat (first | (with_reducible first | exact HB.out | apply below_alloc | apply pw_below_drewN | apply below_drew1) | exact HB.out))) : w.heap.size ≤ gb219)); clear HB; have HB := n0_; have BK219 := n1_; have GW219 := n2_; have GE219 := n3_; clear n0_ n1_ n2_ n3_; clear hb hbox hg) | ((with_reducible refine gate_dst (N := 4) rfl ?_); refine box_event ?hg (N := 4) ?hd (cs := #[.int .u64 a1_0, .int .u64 a1_1, .int .u64 a1_2, .int .u64 a1_3, .int .u64 a1_4, .string a1_5, .string a1_6, .bool a1_7]) (t := 28) ?hr ?_; (case hd => rfl); (case hg => rfl); (case hr => first | (go_simp; done) | (go_simp; rfl)); intro gb220 hg w6 hbox hb; have n0_ := Aside0.mk (blk_below (g := gb219) (o := .cells #[.int .u64 a0_0, .int .u64 a0_1, .int .u64 a0_2, .int .u64 a0_3, .int .u64 a0_4, .string a0_5, .string a0_6, .bool a0_7] 28 (0, 0)) (by (with_reducible repeat (first | refine blk_drewN ?_ _ | refine blk_drew ?_ | refine blk_alloc ?_ _)); exact BK219.out) hb); have n1_ := Aside0.mk (below_step (by repeat (first | (with_reducible first | exact HB.out | apply below_alloc | apply pw_below_drewN | apply below_drew1 | refine below_set ?_ GE219.out) | exact HB.out)) hb); have n2_ := Aside0.mk (hbox); have n3_ := Aside0.mk ((by rw [hg]; exact (below_size (by repeat (first | (with_reducible first | exact HB.out | apply below_alloc | apply pw_below_drewN | apply below_drew1 | refine below_set ?_ GE219.out) | exact HB.out))) : w.heap.size ≤ gb220)); have n4_ := Aside0.mk ((by rw [hg]; exact (below_size (by repeat (first | (with_reducible first | exact HB.out | apply below_alloc | apply pw_below_drewN | apply below_drew1 | refine below_set ?_ GE219.out) | exact HB.out))) : w.heap.size ≤ gb220)); have n5_ := Aside0.mk ((by rw [hg]; exact Nat.ne_of_lt (blk_lt (g := gb219) (o := .cells #[.int .u64 a0_0, .int .u64 a0_1, .int .u64 a0_2, .int .u64 a0_3, .int .u64 a0_4, .string a0_5, .string a0_6, .bool a0_7] 28 (0, 0)) (by (with_reducible repeat (first | refine blk_drewN ?_ _ | refine blk_drew ?_ | refine blk_alloc ?_ _)); exact BK219.out)) : gb219 ≠ gb220)); have n6_ := Aside0.mk ((by rw [hg]; exact Nat.ne_of_gt (blk_lt (g := gb219) (o := .cells #[.int .u64 a0_0, .int .u64 a0_1, .int .u64 a0_2, .int .u64 a0_3, .int .u64 a0_4, .string a0_5, .string a0_6, .bool a0_7] 28 (0, 0)) (by (with_reducible repeat (first | refine blk_drewN ?_ _ | refine blk_drew ?_ | refine blk_alloc ?_ _)); exact BK219.out)) : gb220 ≠ gb219)); clear BK219; clear HB; have BK219 := n0_; have HB := n1_; have BK220 := n2_; have GW220 := n3_; have GE220 := n4_; have NB219_220 := n5_; have NB220_219 := n6_; clear n0_ n1_ n2_ n3_ n4_ n5_ n6_; clear hb hbox hg) | ((with_reducible refine gate_dst (N := 5) rfl ?_); refine box_event ?hg (N := 5) ?hd (cs := #[.int .u64 a2_0, .int .u64 a2_1, .int .u64 a2_2, .int .u64 a2_3, .int .u64 a2_4, .string a2_5, .string a2_6, .bool a2_7]) (t := 28) ?hr ?_; (case hd => rfl); (case hg => rfl); (case hr => first | (go_simp; done) | (go_simp; rfl)); intro gb221 hg w7 hbox hb; have n0_ := Aside0.mk (blk_below (g := gb219) (o := .cells #[.int .u64 a0_0, .int .u64 a0_1, .int .u64 a0_2, .int .u64 a0_3, .int .u64 a0_4, .string a0_5, .string a0_6, .bool a0_7] 28 (0, 0)) (by (with_reducible repeat (first | refine blk_drewN ?_ _ | refine blk_drew ?_ | refine blk_alloc ?_ _)); exact BK219.out) hb); have n1_ := Aside0.mk (blk_below (g := gb220) (o := .cells #[.int .u64 a1_0, .int .u64 a1_1, .int .u64 a1_2, .int .u64 a1_3, .int .u64 a1_4, .string a1_5, .string a1_6, .bool a1_7] 28 (0, 0)) (by (with_reducible repeat (first | refine blk_drewN ?_ _ | refine blk_drew ?_ | refine blk_alloc ?_ _)); exact BK220.out) hb); have n2_ := Aside0.mk (below_step (by repeat (first | (with_reducible first | exact HB.out | apply below_alloc | apply pw_below_drewN | apply below_drew1 | refine below_set ?_ GE219.out | refine below_set ?_ GE220.out) | exact HB.out)) hb); have n3_ := Aside0.mk (hbox); have n4_ := Aside0.mk ((by rw [hg]; exact (below_size (by repeat (first | (with_reducible first | exact HB.out | apply below_alloc | apply pw_below_drewN | apply below_drew1 | refine below_set ?_ GE219.out | refine below_set ?_ GE220.out) | exact HB.out))) : w.heap.size ≤ gb221)); have n5_ := Aside0.mk ((by rw [hg]; exact (below_size (by repeat (first | (with_reducible first | exact HB.out | apply below_alloc | apply pw_below_drewN | apply below_drew1 | refine below_set ?_ GE219.out | refine below_set ?_ GE220.out) | exact HB.out))) : w.heap.size ≤ gb221)); have n6_ := Aside0.mk ((by rw [hg]; exact Nat.ne_of_lt (blk_lt (g := gb219) (o := .cells #[.int .u64 a0_0, .int .u64 a0_1, .int .u64 a0_2, .int .u64 a0_3, .int .u64 a0_4, .string a0_5, .string a0_6, .bool a0_7] 28 (0, 0)) (by (with_reducible repeat (first | refine blk_drewN ?_ _ | refine blk_drew ?_ | refine blk_alloc ?_ _)); exact BK219.out)) : gb219 ≠ gb221)); have n7_ := Aside0.mk ((by rw [hg]; exact Nat.ne_of_gt (blk_lt (g := gb219) (o := .cells #[.int .u64 a0_0, .int .u64 a0_1, .int .u64 a0_2, .int .u64 a0_3, .int .u64 a0_4, .string a0_5, .string a0_6, .bool a0_7] 28 (0, 0)) (by (with_reducible repeat (first | refine blk_drewN ?_ _ | refine blk_drew ?_ | refine blk_alloc ?_ _)); exact BK219.out)) : gb221 ≠ gb219)); have n8_ := Aside0.mk ((by rw [hg]; exact Nat.ne_of_lt (blk_lt (g := gb220) (o := .cells #[.int .u64 a1_0, .int .u64 a1_1, .int .u64 a1_2, .int .u64 a1_3, .int .u64 a1_4, .string a1_5, .string a1_6, .bool a1_7] 28 (0, 0)) (by (with_reducible repeat (first | refine blk_drewN ?_ _ | refine blk_drew ?_ | refine blk_alloc ?_ _)); exact BK220.out)) : gb220 ≠ gb221)); have n9_ := Aside0.mk ((by rw [hg]; exact Nat.ne_of_gt (blk_lt (g := gb220) (o := .cells #[.int .u64 a1_0, .int .u64 a1_1, .int .u64 a1_2, .int .u64 a1_3, .int .u64 a1_4, .string a1_5, .string a1_6, .bool a1_7] 28 (0, 0)) (by (with_reducible repeat (first | refine blk_drewN ?_ _ | refine blk_drew ?_ | refine blk_alloc ?_ _)); exact BK220.out)) : gb221 ≠ gb220)); clear BK219; clear BK220; clear HB; have BK219 := n0_; have BK220 := n1_; have HB := n2_; have BK221 := n3_; have GW221 := n4_; have GE221 := n5_; have NB219_221 := n6_; have NB221_219 := n7_; have NB220_221 := n8_; have NB221_220 := n9_; clear n0_ n1_ n2_ n3_ n4_ n5_ n6_ n7_ n8_ n9_; clear hb hbox hg))
  (try simp only [Act.put, List.setIfInBounds_toArray, List.set_cons_zero, List.set_cons_succ])
  go_cut [7] (fun v7 wc => ∃ (kq : Nat) (x7_3 : Bool), v7 = .bool x7_3 ∧ Aside0 (winnowlaw03_SpanTotal.j0 kq x7_3 a0_0 a0_1 a0_2 a0_3 a0_4 a0_5 a0_6 a0_7 a1_0 a1_1 a1_2 a1_3 a1_4 a1_5 a1_6 a1_7 a2_0 a2_1 a2_2 a2_3 a2_4 a2_5 a2_6 a2_7 = some r) ∧ Aside0 (kq ≤ k) ∧ Aside0 (wc.heap[gb219]? = some (.cells #[.int .u64 a0_0, .int .u64 a0_1, .int .u64 a0_2, .int .u64 a0_3, .int .u64 a0_4, .string a0_5, .string a0_6, .bool a0_7] 28 (0, 0))) ∧ Aside0 (wc.heap[gb220]? = some (.cells #[.int .u64 a1_0, .int .u64 a1_1, .int .u64 a1_2, .int .u64 a1_3, .int .u64 a1_4, .string a1_5, .string a1_6, .bool a1_7] 28 (0, 0))) ∧ Aside0 (wc.heap[gb221]? = some (.cells #[.int .u64 a2_0, .int .u64 a2_1, .int .u64 a2_2, .int .u64 a2_3, .int .u64 a2_4, .string a2_5, .string a2_6, .bool a2_7] 28 (0, 0))) ∧ Aside0 (Below w.heap.size w wc))
  case first =>
    have H := HC4.out
    clear HC4
    by_cases c8 : a0_3 = a1_3
    · rw [if_pos c8] at H
      have c8b0 : (a0_3 == a1_3) = true := beq_iff_eq.mpr c8
      have c8b1 : (a0_3 != a1_3) = false := bne_eq_false_iff_eq.mpr c8
      clear c8
      (first | rw [c8b0] | (simp only [i64_w, i32_w]; rw [c8b0]) | skip)
      have H' := Aside0.mk H
      clear H
      have hnb9 := NB219_220.out
      have hnc9 := NB220_219.out
      have hnb10 := NB219_221.out
      have hnc10 := NB221_219.out
      have hcz11_0 : w7.cell? ⟨gb219, 0, none⟩ = some (.int .u64 a0_0) := (blk_cell BK219.out 0).trans rfl
      have hcz11_1 : w7.cell? ⟨gb219, 1, none⟩ = some (.int .u64 a0_1) := (blk_cell BK219.out 1).trans rfl
      have hcz11_2 : w7.cell? ⟨gb219, 2, none⟩ = some (.int .u64 a0_2) := (blk_cell BK219.out 2).trans rfl
      have hcz11_3 : w7.cell? ⟨gb219, 3, none⟩ = some (.int .u64 a0_3) := (blk_cell BK219.out 3).trans rfl
      have hcz11_4 : w7.cell? ⟨gb219, 4, none⟩ = some (.int .u64 a0_4) := (blk_cell BK219.out 4).trans rfl
      have hcz11_5 : w7.cell? ⟨gb219, 5, none⟩ = some (.string a0_5) := (blk_cell BK219.out 5).trans rfl
      have hcz11_6 : w7.cell? ⟨gb219, 6, none⟩ = some (.string a0_6) := (blk_cell BK219.out 6).trans rfl
      have hcz11_7 : w7.cell? ⟨gb219, 7, none⟩ = some (.bool a0_7) := (blk_cell BK219.out 7).trans rfl
      have hfz11_0 := blk_frozen BK219.out 0
      have hfz11_1 := blk_frozen BK219.out 1
      have hfz11_2 := blk_frozen BK219.out 2
      have hfz11_3 := blk_frozen BK219.out 3
      have hfz11_4 := blk_frozen BK219.out 4
      have hfz11_5 := blk_frozen BK219.out 5
      have hfz11_6 := blk_frozen BK219.out 6
      have hfz11_7 := blk_frozen BK219.out 7
      have hnb12 := NB220_221.out
      have hnc12 := NB221_220.out
      have hcz13_0 : w7.cell? ⟨gb220, 0, none⟩ = some (.int .u64 a1_0) := (blk_cell BK220.out 0).trans rfl
      have hcz13_1 : w7.cell? ⟨gb220, 1, none⟩ = some (.int .u64 a1_1) := (blk_cell BK220.out 1).trans rfl
      have hcz13_2 : w7.cell? ⟨gb220, 2, none⟩ = some (.int .u64 a1_2) := (blk_cell BK220.out 2).trans rfl
      have hcz13_3 : w7.cell? ⟨gb220, 3, none⟩ = some (.int .u64 a1_3) := (blk_cell BK220.out 3).trans rfl
      have hcz13_4 : w7.cell? ⟨gb220, 4, none⟩ = some (.int .u64 a1_4) := (blk_cell BK220.out 4).trans rfl
      have hcz13_5 : w7.cell? ⟨gb220, 5, none⟩ = some (.string a1_5) := (blk_cell BK220.out 5).trans rfl
      have hcz13_6 : w7.cell? ⟨gb220, 6, none⟩ = some (.string a1_6) := (blk_cell BK220.out 6).trans rfl
      have hcz13_7 : w7.cell? ⟨gb220, 7, none⟩ = some (.bool a1_7) := (blk_cell BK220.out 7).trans rfl
      have hfz13_0 := blk_frozen BK220.out 0
      have hfz13_1 := blk_frozen BK220.out 1
      have hfz13_2 := blk_frozen BK220.out 2
      have hfz13_3 := blk_frozen BK220.out 3
      have hfz13_4 := blk_frozen BK220.out 4
      have hfz13_5 := blk_frozen BK220.out 5
      have hfz13_6 := blk_frozen BK220.out 6
      have hfz13_7 := blk_frozen BK220.out 7
      go_wp2
      go_meet
      case rel => exact ⟨_, ((a0_1 == a1_1)), (by first | rfl | (simp; done) | (simp [*]; done)), H', ⟨by first | omega | exact Nat.le_refl _⟩, ⟨by (with_reducible repeat (first | refine blk_drewN ?_ _ | refine blk_drew ?_ | refine blk_alloc ?_ _)); exact BK219.out⟩, ⟨by (with_reducible repeat (first | refine blk_drewN ?_ _ | refine blk_drew ?_ | refine blk_alloc ?_ _)); exact BK220.out⟩, ⟨by (with_reducible repeat (first | refine blk_drewN ?_ _ | refine blk_drew ?_ | refine blk_alloc ?_ _)); exact BK221.out⟩, ⟨by repeat (first | (with_reducible first | exact HB.out | apply below_alloc | apply pw_below_drewN | apply below_drew1 | refine below_set ?_ GE219.out | refine below_set ?_ GE220.out | refine below_set ?_ GE221.out) | exact HB.out)⟩⟩
    · rw [if_neg c8] at H
      have c8b0 : (a0_3 == a1_3) = false := beq_eq_false_iff_ne.mpr c8
      have c8b1 : (a0_3 != a1_3) = true := bne_iff_ne.mpr c8
      (first | rw [c8b0] | (simp only [i64_w, i32_w]; rw [c8b0]) | skip)
      have H' := Aside0.mk H
      clear H
      have hnb14 := NB219_220.out
      have hnc14 := NB220_219.out
      have hnb15 := NB219_221.out
      have hnc15 := NB221_219.out
      have hcz16_0 : w7.cell? ⟨gb219, 0, none⟩ = some (.int .u64 a0_0) := (blk_cell BK219.out 0).trans rfl
      have hcz16_1 : w7.cell? ⟨gb219, 1, none⟩ = some (.int .u64 a0_1) := (blk_cell BK219.out 1).trans rfl
      have hcz16_2 : w7.cell? ⟨gb219, 2, none⟩ = some (.int .u64 a0_2) := (blk_cell BK219.out 2).trans rfl
      have hcz16_3 : w7.cell? ⟨gb219, 3, none⟩ = some (.int .u64 a0_3) := (blk_cell BK219.out 3).trans rfl
      have hcz16_4 : w7.cell? ⟨gb219, 4, none⟩ = some (.int .u64 a0_4) := (blk_cell BK219.out 4).trans rfl
      have hcz16_5 : w7.cell? ⟨gb219, 5, none⟩ = some (.string a0_5) := (blk_cell BK219.out 5).trans rfl
      have hcz16_6 : w7.cell? ⟨gb219, 6, none⟩ = some (.string a0_6) := (blk_cell BK219.out 6).trans rfl
      have hcz16_7 : w7.cell? ⟨gb219, 7, none⟩ = some (.bool a0_7) := (blk_cell BK219.out 7).trans rfl
      have hfz16_0 := blk_frozen BK219.out 0
      have hfz16_1 := blk_frozen BK219.out 1
      have hfz16_2 := blk_frozen BK219.out 2
      have hfz16_3 := blk_frozen BK219.out 3
      have hfz16_4 := blk_frozen BK219.out 4
      have hfz16_5 := blk_frozen BK219.out 5
      have hfz16_6 := blk_frozen BK219.out 6
      have hfz16_7 := blk_frozen BK219.out 7
      have hnb17 := NB220_221.out
      have hnc17 := NB221_220.out
      have hcz18_0 : w7.cell? ⟨gb220, 0, none⟩ = some (.int .u64 a1_0) := (blk_cell BK220.out 0).trans rfl
      have hcz18_1 : w7.cell? ⟨gb220, 1, none⟩ = some (.int .u64 a1_1) := (blk_cell BK220.out 1).trans rfl
      have hcz18_2 : w7.cell? ⟨gb220, 2, none⟩ = some (.int .u64 a1_2) := (blk_cell BK220.out 2).trans rfl
      have hcz18_3 : w7.cell? ⟨gb220, 3, none⟩ = some (.int .u64 a1_3) := (blk_cell BK220.out 3).trans rfl
      have hcz18_4 : w7.cell? ⟨gb220, 4, none⟩ = some (.int .u64 a1_4) := (blk_cell BK220.out 4).trans rfl
      have hcz18_5 : w7.cell? ⟨gb220, 5, none⟩ = some (.string a1_5) := (blk_cell BK220.out 5).trans rfl
      have hcz18_6 : w7.cell? ⟨gb220, 6, none⟩ = some (.string a1_6) := (blk_cell BK220.out 6).trans rfl
      have hcz18_7 : w7.cell? ⟨gb220, 7, none⟩ = some (.bool a1_7) := (blk_cell BK220.out 7).trans rfl
      have hfz18_0 := blk_frozen BK220.out 0
      have hfz18_1 := blk_frozen BK220.out 1
      have hfz18_2 := blk_frozen BK220.out 2
      have hfz18_3 := blk_frozen BK220.out 3
      have hfz18_4 := blk_frozen BK220.out 4
      have hfz18_5 := blk_frozen BK220.out 5
      have hfz18_6 := blk_frozen BK220.out 6
      have hfz18_7 := blk_frozen BK220.out 7
      go_wp2
      go_meet
      case rel => exact ⟨_, (false), (by first | rfl | (simp; done) | (simp [*]; done)), H', ⟨by first | omega | exact Nat.le_refl _⟩, ⟨by (with_reducible repeat (first | refine blk_drewN ?_ _ | refine blk_drew ?_ | refine blk_alloc ?_ _)); exact BK219.out⟩, ⟨by (with_reducible repeat (first | refine blk_drewN ?_ _ | refine blk_drew ?_ | refine blk_alloc ?_ _)); exact BK220.out⟩, ⟨by (with_reducible repeat (first | refine blk_drewN ?_ _ | refine blk_drew ?_ | refine blk_alloc ?_ _)); exact BK221.out⟩, ⟨by repeat (first | (with_reducible first | exact HB.out | apply below_alloc | apply pw_below_drewN | apply below_drew1 | refine below_set ?_ GE219.out | refine below_set ?_ GE220.out | refine below_set ?_ GE221.out) | exact HB.out)⟩⟩
  case rest =>
    clear HC4
    try clear c1
    try clear p2
    try clear c6
    try clear c8
    try clear c8b0
    try clear c8b1
    try clear c9
    try clear c10
    try clear c12
    try clear c14
    try clear c15
    try clear c17
    try clear hcz11_0
    try clear hcz11_1
    try clear hcz11_2
    try clear hcz11_3
    try clear hcz11_4
    try clear hcz11_5
    try clear hcz11_6
    try clear hcz11_7
    try clear hcz13_0
    try clear hcz13_1
    try clear hcz13_2
    try clear hcz13_3
    try clear hcz13_4
    try clear hcz13_5
    try clear hcz13_6
    try clear hcz13_7
    try clear hcz16_0
    try clear hcz16_1
    try clear hcz16_2
    try clear hcz16_3
    try clear hcz16_4
    try clear hcz16_5
    try clear hcz16_6
    try clear hcz16_7
    try clear hcz18_0
    try clear hcz18_1
    try clear hcz18_2
    try clear hcz18_3
    try clear hcz18_4
    try clear hcz18_5
    try clear hcz18_6
    try clear hcz18_7
    try clear hfz11_0
    try clear hfz11_1
    try clear hfz11_2
    try clear hfz11_3
    try clear hfz11_4
    try clear hfz11_5
    try clear hfz11_6
    try clear hfz11_7
    try clear hfz13_0
    try clear hfz13_1
    try clear hfz13_2
    try clear hfz13_3
    try clear hfz13_4
    try clear hfz13_5
    try clear hfz13_6
    try clear hfz13_7
    try clear hfz16_0
    try clear hfz16_1
    try clear hfz16_2
    try clear hfz16_3
    try clear hfz16_4
    try clear hfz16_5
    try clear hfz16_6
    try clear hfz16_7
    try clear hfz18_0
    try clear hfz18_1
    try clear hfz18_2
    try clear hfz18_3
    try clear hfz18_4
    try clear hfz18_5
    try clear hfz18_6
    try clear hfz18_7
    obtain ⟨kq, x7_3, rfl, HA, HJ3, BK219, BK220, BK221, HB⟩ := hcut
    cases kq with
    | zero => exact absurd HA.out (by simp [winnowlaw03_SpanTotal.j0])
    | succ kj3 =>
      have H := HA.out
      clear HA
      simp only [winnowlaw03_SpanTotal.j0] at H
      have HC19 := Aside0.mk H
      clear H
      go_upto_region 2 with (fail)
      go_cut [44] (fun v44 wc => ∃ (kq : Nat) (x44_18 : Bool), v44 = .bool x44_18 ∧ Aside0 (winnowlaw03_SpanTotal.j1 kq x44_18 a0_0 a0_1 a0_2 a0_3 a0_4 a0_5 a0_6 a0_7 a1_0 a1_1 a1_2 a1_3 a1_4 a1_5 a1_6 a1_7 a2_0 a2_1 a2_2 a2_3 a2_4 a2_5 a2_6 a2_7 = some r) ∧ Aside0 (kq ≤ kj3) ∧ Aside0 (wc.heap[gb219]? = some (.cells #[.int .u64 a0_0, .int .u64 a0_1, .int .u64 a0_2, .int .u64 a0_3, .int .u64 a0_4, .string a0_5, .string a0_6, .bool a0_7] 28 (0, 0))) ∧ Aside0 (wc.heap[gb220]? = some (.cells #[.int .u64 a1_0, .int .u64 a1_1, .int .u64 a1_2, .int .u64 a1_3, .int .u64 a1_4, .string a1_5, .string a1_6, .bool a1_7] 28 (0, 0))) ∧ Aside0 (wc.heap[gb221]? = some (.cells #[.int .u64 a2_0, .int .u64 a2_1, .int .u64 a2_2, .int .u64 a2_3, .int .u64 a2_4, .string a2_5, .string a2_6, .bool a2_7] 28 (0, 0))) ∧ Aside0 (Below w.heap.size w wc))
      case first =>
        have H := HC19.out
        clear HC19
        replace H := Option.bind_eq_some_iff.mp H
        obtain ⟨t222, A200, H⟩ := H
        replace H : (if t222 = true then (winnowlaw03_SpanTotal.j1 kj3 true a0_0 a0_1 a0_2 a0_3 a0_4 a0_5 a0_6 a0_7 a1_0 a1_1 a1_2 a1_3 a1_4 a1_5 a1_6 a1_7 a2_0 a2_1 a2_2 a2_3 a2_4 a2_5 a2_6 a2_7) else ((span_Less.f kj3 a0_0 a0_1 a0_2 a0_3 a0_4 a0_5 a0_6 a0_7 a1_0 a1_1 a1_2 a1_3 a1_4 a1_5 a1_6 a1_7).bind fun t223 => (if t223 = true then ((span_Less.f kj3 a1_0 a1_1 a1_2 a1_3 a1_4 a1_5 a1_6 a1_7 a0_0 a0_1 a0_2 a0_3 a0_4 a0_5 a0_6 a0_7).bind fun t224 => (if t224 = true then (winnowlaw03_SpanTotal.j1 kj3 true a0_0 a0_1 a0_2 a0_3 a0_4 a0_5 a0_6 a0_7 a1_0 a1_1 a1_2 a1_3 a1_4 a1_5 a1_6 a1_7 a2_0 a2_1 a2_2 a2_3 a2_4 a2_5 a2_6 a2_7) else ((span_Less.f kj3 a0_0 a0_1 a0_2 a0_3 a0_4 a0_5 a0_6 a0_7 a1_0 a1_1 a1_2 a1_3 a1_4 a1_5 a1_6 a1_7).bind fun t225 => (if t225 = true then (winnowlaw03_SpanTotal.j1 kj3 (x7_3 == true) a0_0 a0_1 a0_2 a0_3 a0_4 a0_5 a0_6 a0_7 a1_0 a1_1 a1_2 a1_3 a1_4 a1_5 a1_6 a1_7 a2_0 a2_1 a2_2 a2_3 a2_4 a2_5 a2_6 a2_7) else ((span_Less.f kj3 a1_0 a1_1 a1_2 a1_3 a1_4 a1_5 a1_6 a1_7 a0_0 a0_1 a0_2 a0_3 a0_4 a0_5 a0_6 a0_7).bind fun t226 => (winnowlaw03_SpanTotal.j1 kj3 (x7_3 == t226) a0_0 a0_1 a0_2 a0_3 a0_4 a0_5 a0_6 a0_7 a1_0 a1_1 a1_2 a1_3 a1_4 a1_5 a1_6 a1_7 a2_0 a2_1 a2_2 a2_3 a2_4 a2_5 a2_6 a2_7)))))) else ((span_Less.f kj3 a0_0 a0_1 a0_2 a0_3 a0_4 a0_5 a0_6 a0_7 a1_0 a1_1 a1_2 a1_3 a1_4 a1_5 a1_6 a1_7).bind fun t227 => (if t227 = true then (winnowlaw03_SpanTotal.j1 kj3 (x7_3 == true) a0_0 a0_1 a0_2 a0_3 a0_4 a0_5 a0_6 a0_7 a1_0 a1_1 a1_2 a1_3 a1_4 a1_5 a1_6 a1_7 a2_0 a2_1 a2_2 a2_3 a2_4 a2_5 a2_6 a2_7) else ((span_Less.f kj3 a1_0 a1_1 a1_2 a1_3 a1_4 a1_5 a1_6 a1_7 a0_0 a0_1 a0_2 a0_3 a0_4 a0_5 a0_6 a0_7).bind fun t228 => (winnowlaw03_SpanTotal.j1 kj3 (x7_3 == t228) a0_0 a0_1 a0_2 a0_3 a0_4 a0_5 a0_6 a0_7 a1_0 a1_1 a1_2 a1_3 a1_4 a1_5 a1_6 a1_7 a2_0 a2_1 a2_2 a2_3 a2_4 a2_5 a2_6 a2_7))))))) = some r := H
        have A20 := Aside0.mk A200
        clear A200
        by_cases c21 : t222 = true
        · subst c21
          have H1 : (winnowlaw03_SpanTotal.j1 kj3 true a0_0 a0_1 a0_2 a0_3 a0_4 a0_5 a0_6 a0_7 a1_0 a1_1 a1_2 a1_3 a1_4 a1_5 a1_6 a1_7 a2_0 a2_1 a2_2 a2_3 a2_4 a2_5 a2_6 a2_7) = some r := by rw [if_pos rfl] at H; exact H
          clear H
          have H := H1
          clear H1
          exact absurd H (by cases kj3 <;> simp [winnowlaw03_SpanTotal.j1, HRT_.out])
        · replace c21 := Bool.eq_false_iff.mpr c21
          subst c21
          have H1 : ((span_Less.f kj3 a0_0 a0_1 a0_2 a0_3 a0_4 a0_5 a0_6 a0_7 a1_0 a1_1 a1_2 a1_3 a1_4 a1_5 a1_6 a1_7).bind fun t223 => (if t223 = true then ((span_Less.f kj3 a1_0 a1_1 a1_2 a1_3 a1_4 a1_5 a1_6 a1_7 a0_0 a0_1 a0_2 a0_3 a0_4 a0_5 a0_6 a0_7).bind fun t224 => (if t224 = true then (winnowlaw03_SpanTotal.j1 kj3 true a0_0 a0_1 a0_2 a0_3 a0_4 a0_5 a0_6 a0_7 a1_0 a1_1 a1_2 a1_3 a1_4 a1_5 a1_6 a1_7 a2_0 a2_1 a2_2 a2_3 a2_4 a2_5 a2_6 a2_7) else ((span_Less.f kj3 a0_0 a0_1 a0_2 a0_3 a0_4 a0_5 a0_6 a0_7 a1_0 a1_1 a1_2 a1_3 a1_4 a1_5 a1_6 a1_7).bind fun t225 => (if t225 = true then (winnowlaw03_SpanTotal.j1 kj3 (x7_3 == true) a0_0 a0_1 a0_2 a0_3 a0_4 a0_5 a0_6 a0_7 a1_0 a1_1 a1_2 a1_3 a1_4 a1_5 a1_6 a1_7 a2_0 a2_1 a2_2 a2_3 a2_4 a2_5 a2_6 a2_7) else ((span_Less.f kj3 a1_0 a1_1 a1_2 a1_3 a1_4 a1_5 a1_6 a1_7 a0_0 a0_1 a0_2 a0_3 a0_4 a0_5 a0_6 a0_7).bind fun t226 => (winnowlaw03_SpanTotal.j1 kj3 (x7_3 == t226) a0_0 a0_1 a0_2 a0_3 a0_4 a0_5 a0_6 a0_7 a1_0 a1_1 a1_2 a1_3 a1_4 a1_5 a1_6 a1_7 a2_0 a2_1 a2_2 a2_3 a2_4 a2_5 a2_6 a2_7)))))) else ((span_Less.f kj3 a0_0 a0_1 a0_2 a0_3 a0_4 a0_5 a0_6 a0_7 a1_0 a1_1 a1_2 a1_3 a1_4 a1_5 a1_6 a1_7).bind fun t227 => (if t227 = true then (winnowlaw03_SpanTotal.j1 kj3 (x7_3 == true) a0_0 a0_1 a0_2 a0_3 a0_4 a0_5 a0_6 a0_7 a1_0 a1_1 a1_2 a1_3 a1_4 a1_5 a1_6 a1_7 a2_0 a2_1 a2_2 a2_3 a2_4 a2_5 a2_6 a2_7) else ((span_Less.f kj3 a1_0 a1_1 a1_2 a1_3 a1_4 a1_5 a1_6 a1_7 a0_0 a0_1 a0_2 a0_3 a0_4 a0_5 a0_6 a0_7).bind fun t228 => (winnowlaw03_SpanTotal.j1 kj3 (x7_3 == t228) a0_0 a0_1 a0_2 a0_3 a0_4 a0_5 a0_6 a0_7 a1_0 a1_1 a1_2 a1_3 a1_4 a1_5 a1_6 a1_7 a2_0 a2_1 a2_2 a2_3 a2_4 a2_5 a2_6 a2_7)))))) = some r := by rw [if_neg (show ¬ (false = true) by decide)] at H; exact H
          clear H
          have H := H1
          clear H1
          replace H := Option.bind_eq_some_iff.mp H
          obtain ⟨t223, A220, H⟩ := H
          replace H : (if t223 = true then ((span_Less.f kj3 a1_0 a1_1 a1_2 a1_3 a1_4 a1_5 a1_6 a1_7 a0_0 a0_1 a0_2 a0_3 a0_4 a0_5 a0_6 a0_7).bind fun t224 => (if t224 = true then (winnowlaw03_SpanTotal.j1 kj3 true a0_0 a0_1 a0_2 a0_3 a0_4 a0_5 a0_6 a0_7 a1_0 a1_1 a1_2 a1_3 a1_4 a1_5 a1_6 a1_7 a2_0 a2_1 a2_2 a2_3 a2_4 a2_5 a2_6 a2_7) else ((span_Less.f kj3 a0_0 a0_1 a0_2 a0_3 a0_4 a0_5 a0_6 a0_7 a1_0 a1_1 a1_2 a1_3 a1_4 a1_5 a1_6 a1_7).bind fun t225 => (if t225 = true then (winnowlaw03_SpanTotal.j1 kj3 (x7_3 == true) a0_0 a0_1 a0_2 a0_3 a0_4 a0_5 a0_6 a0_7 a1_0 a1_1 a1_2 a1_3 a1_4 a1_5 a1_6 a1_7 a2_0 a2_1 a2_2 a2_3 a2_4 a2_5 a2_6 a2_7) else ((span_Less.f kj3 a1_0 a1_1 a1_2 a1_3 a1_4 a1_5 a1_6 a1_7 a0_0 a0_1 a0_2 a0_3 a0_4 a0_5 a0_6 a0_7).bind fun t226 => (winnowlaw03_SpanTotal.j1 kj3 (x7_3 == t226) a0_0 a0_1 a0_2 a0_3 a0_4 a0_5 a0_6 a0_7 a1_0 a1_1 a1_2 a1_3 a1_4 a1_5 a1_6 a1_7 a2_0 a2_1 a2_2 a2_3 a2_4 a2_5 a2_6 a2_7)))))) else ((span_Less.f kj3 a0_0 a0_1 a0_2 a0_3 a0_4 a0_5 a0_6 a0_7 a1_0 a1_1 a1_2 a1_3 a1_4 a1_5 a1_6 a1_7).bind fun t227 => (if t227 = true then (winnowlaw03_SpanTotal.j1 kj3 (x7_3 == true) a0_0 a0_1 a0_2 a0_3 a0_4 a0_5 a0_6 a0_7 a1_0 a1_1 a1_2 a1_3 a1_4 a1_5 a1_6 a1_7 a2_0 a2_1 a2_2 a2_3 a2_4 a2_5 a2_6 a2_7) else ((span_Less.f kj3 a1_0 a1_1 a1_2 a1_3 a1_4 a1_5 a1_6 a1_7 a0_0 a0_1 a0_2 a0_3 a0_4 a0_5 a0_6 a0_7).bind fun t228 => (winnowlaw03_SpanTotal.j1 kj3 (x7_3 == t228) a0_0 a0_1 a0_2 a0_3 a0_4 a0_5 a0_6 a0_7 a1_0 a1_1 a1_2 a1_3 a1_4 a1_5 a1_6 a1_7 a2_0 a2_1 a2_2 a2_3 a2_4 a2_5 a2_6 a2_7))))) = some r := H
          have A22 := Aside0.mk A220
          clear A220
          by_cases c23 : t223 = true
          · subst c23
            have H1 : ((span_Less.f kj3 a1_0 a1_1 a1_2 a1_3 a1_4 a1_5 a1_6 a1_7 a0_0 a0_1 a0_2 a0_3 a0_4 a0_5 a0_6 a0_7).bind fun t224 => (if t224 = true then (winnowlaw03_SpanTotal.j1 kj3 true a0_0 a0_1 a0_2 a0_3 a0_4 a0_5 a0_6 a0_7 a1_0 a1_1 a1_2 a1_3 a1_4 a1_5 a1_6 a1_7 a2_0 a2_1 a2_2 a2_3 a2_4 a2_5 a2_6 a2_7) else ((span_Less.f kj3 a0_0 a0_1 a0_2 a0_3 a0_4 a0_5 a0_6 a0_7 a1_0 a1_1 a1_2 a1_3 a1_4 a1_5 a1_6 a1_7).bind fun t225 => (if t225 = true then (winnowlaw03_SpanTotal.j1 kj3 (x7_3 == true) a0_0 a0_1 a0_2 a0_3 a0_4 a0_5 a0_6 a0_7 a1_0 a1_1 a1_2 a1_3 a1_4 a1_5 a1_6 a1_7 a2_0 a2_1 a2_2 a2_3 a2_4 a2_5 a2_6 a2_7) else ((span_Less.f kj3 a1_0 a1_1 a1_2 a1_3 a1_4 a1_5 a1_6 a1_7 a0_0 a0_1 a0_2 a0_3 a0_4 a0_5 a0_6 a0_7).bind fun t226 => (winnowlaw03_SpanTotal.j1 kj3 (x7_3 == t226) a0_0 a0_1 a0_2 a0_3 a0_4 a0_5 a0_6 a0_7 a1_0 a1_1 a1_2 a1_3 a1_4 a1_5 a1_6 a1_7 a2_0 a2_1 a2_2 a2_3 a2_4 a2_5 a2_6 a2_7)))))) = some r := by rw [if_pos rfl] at H; exact H
            clear H
            have H := H1
            clear H1
            replace H := Option.bind_eq_some_iff.mp H
            obtain ⟨t224, A240, H⟩ := H
            replace H : (if t224 = true then (winnowlaw03_SpanTotal.j1 kj3 true a0_0 a0_1 a0_2 a0_3 a0_4 a0_5 a0_6 a0_7 a1_0 a1_1 a1_2 a1_3 a1_4 a1_5 a1_6 a1_7 a2_0 a2_1 a2_2 a2_3 a2_4 a2_5 a2_6 a2_7) else ((span_Less.f kj3 a0_0 a0_1 a0_2 a0_3 a0_4 a0_5 a0_6 a0_7 a1_0 a1_1 a1_2 a1_3 a1_4 a1_5 a1_6 a1_7).bind fun t225 => (if t225 = true then (winnowlaw03_SpanTotal.j1 kj3 (x7_3 == true) a0_0 a0_1 a0_2 a0_3 a0_4 a0_5 a0_6 a0_7 a1_0 a1_1 a1_2 a1_3 a1_4 a1_5 a1_6 a1_7 a2_0 a2_1 a2_2 a2_3 a2_4 a2_5 a2_6 a2_7) else ((span_Less.f kj3 a1_0 a1_1 a1_2 a1_3 a1_4 a1_5 a1_6 a1_7 a0_0 a0_1 a0_2 a0_3 a0_4 a0_5 a0_6 a0_7).bind fun t226 => (winnowlaw03_SpanTotal.j1 kj3 (x7_3 == t226) a0_0 a0_1 a0_2 a0_3 a0_4 a0_5 a0_6 a0_7 a1_0 a1_1 a1_2 a1_3 a1_4 a1_5 a1_6 a1_7 a2_0 a2_1 a2_2 a2_3 a2_4 a2_5 a2_6 a2_7))))) = some r := H
            have A24 := Aside0.mk A240
            clear A240
            by_cases c25 : t224 = true
            · subst c25
              have H1 : (winnowlaw03_SpanTotal.j1 kj3 true a0_0 a0_1 a0_2 a0_3 a0_4 a0_5 a0_6 a0_7 a1_0 a1_1 a1_2 a1_3 a1_4 a1_5 a1_6 a1_7 a2_0 a2_1 a2_2 a2_3 a2_4 a2_5 a2_6 a2_7) = some r := by rw [if_pos rfl] at H; exact H
              clear H
              have H := H1
              clear H1
              exact absurd H (by cases kj3 <;> simp [winnowlaw03_SpanTotal.j1, HRT_.out])
            · replace c25 := Bool.eq_false_iff.mpr c25
              subst c25
              have H1 : ((span_Less.f kj3 a0_0 a0_1 a0_2 a0_3 a0_4 a0_5 a0_6 a0_7 a1_0 a1_1 a1_2 a1_3 a1_4 a1_5 a1_6 a1_7).bind fun t225 => (if t225 = true then (winnowlaw03_SpanTotal.j1 kj3 (x7_3 == true) a0_0 a0_1 a0_2 a0_3 a0_4 a0_5 a0_6 a0_7 a1_0 a1_1 a1_2 a1_3 a1_4 a1_5 a1_6 a1_7 a2_0 a2_1 a2_2 a2_3 a2_4 a2_5 a2_6 a2_7) else ((span_Less.f kj3 a1_0 a1_1 a1_2 a1_3 a1_4 a1_5 a1_6 a1_7 a0_0 a0_1 a0_2 a0_3 a0_4 a0_5 a0_6 a0_7).bind fun t226 => (winnowlaw03_SpanTotal.j1 kj3 (x7_3 == t226) a0_0 a0_1 a0_2 a0_3 a0_4 a0_5 a0_6 a0_7 a1_0 a1_1 a1_2 a1_3 a1_4 a1_5 a1_6 a1_7 a2_0 a2_1 a2_2 a2_3 a2_4 a2_5 a2_6 a2_7)))) = some r := by rw [if_neg (show ¬ (false = true) by decide)] at H; exact H
              clear H
              have H := H1
              clear H1
              replace H := Option.bind_eq_some_iff.mp H
              obtain ⟨t225, A260, H⟩ := H
              replace H : (if t225 = true then (winnowlaw03_SpanTotal.j1 kj3 (x7_3 == true) a0_0 a0_1 a0_2 a0_3 a0_4 a0_5 a0_6 a0_7 a1_0 a1_1 a1_2 a1_3 a1_4 a1_5 a1_6 a1_7 a2_0 a2_1 a2_2 a2_3 a2_4 a2_5 a2_6 a2_7) else ((span_Less.f kj3 a1_0 a1_1 a1_2 a1_3 a1_4 a1_5 a1_6 a1_7 a0_0 a0_1 a0_2 a0_3 a0_4 a0_5 a0_6 a0_7).bind fun t226 => (winnowlaw03_SpanTotal.j1 kj3 (x7_3 == t226) a0_0 a0_1 a0_2 a0_3 a0_4 a0_5 a0_6 a0_7 a1_0 a1_1 a1_2 a1_3 a1_4 a1_5 a1_6 a1_7 a2_0 a2_1 a2_2 a2_3 a2_4 a2_5 a2_6 a2_7))) = some r := H
              have A26 := Aside0.mk A260
              clear A260
              by_cases c27 : t225 = true
              · subst c27
                have H1 : (winnowlaw03_SpanTotal.j1 kj3 (x7_3 == true) a0_0 a0_1 a0_2 a0_3 a0_4 a0_5 a0_6 a0_7 a1_0 a1_1 a1_2 a1_3 a1_4 a1_5 a1_6 a1_7 a2_0 a2_1 a2_2 a2_3 a2_4 a2_5 a2_6 a2_7) = some r := by rw [if_pos rfl] at H; exact H
                clear H
                have H := H1
                clear H1
                have H' := Aside0.mk H
                clear H
                have hnb28 := NB219_220.out
                have hnc28 := NB220_219.out
                have hnb29 := NB219_221.out
                have hnc29 := NB221_219.out
                have hcz30_0 : wc.cell? ⟨gb219, 0, none⟩ = some (.int .u64 a0_0) := (blk_cell BK219.out 0).trans rfl
                have hcz30_1 : wc.cell? ⟨gb219, 1, none⟩ = some (.int .u64 a0_1) := (blk_cell BK219.out 1).trans rfl
                have hcz30_2 : wc.cell? ⟨gb219, 2, none⟩ = some (.int .u64 a0_2) := (blk_cell BK219.out 2).trans rfl
                have hcz30_3 : wc.cell? ⟨gb219, 3, none⟩ = some (.int .u64 a0_3) := (blk_cell BK219.out 3).trans rfl
                have hcz30_4 : wc.cell? ⟨gb219, 4, none⟩ = some (.int .u64 a0_4) := (blk_cell BK219.out 4).trans rfl
                have hcz30_5 : wc.cell? ⟨gb219, 5, none⟩ = some (.string a0_5) := (blk_cell BK219.out 5).trans rfl
                have hcz30_6 : wc.cell? ⟨gb219, 6, none⟩ = some (.string a0_6) := (blk_cell BK219.out 6).trans rfl
                have hcz30_7 : wc.cell? ⟨gb219, 7, none⟩ = some (.bool a0_7) := (blk_cell BK219.out 7).trans rfl
                have hfz30_0 := blk_frozen BK219.out 0
                have hfz30_1 := blk_frozen BK219.out 1
                have hfz30_2 := blk_frozen BK219.out 2
                have hfz30_3 := blk_frozen BK219.out 3
                have hfz30_4 := blk_frozen BK219.out 4
                have hfz30_5 := blk_frozen BK219.out 5
                have hfz30_6 := blk_frozen BK219.out 6
                have hfz30_7 := blk_frozen BK219.out 7
                go_wp2_with (first | ((with_reducible refine gate_callee (f := 20) rfl ?_); refine goesL_ (some 22) rfl rfl Try.func20 (by kernel_rfl) rfl #[.agg #[.int .u64 a0_0, .int .u64 a0_1, .int .u64 a0_2, .int .u64 a0_3, .int .u64 a0_4, .string a0_5, .string a0_6, .bool a0_7], .agg #[.int .u64 a0_0, .int .u64 a0_1, .int .u64 a0_2, .int .u64 a0_3, .int .u64 a0_4, .string a0_5, .string a0_6, .bool a0_7]] rfl (by (try simp only [List.map_toArray, List.map_cons, List.map_nil]); first | done | rfl | (simp only [List.length_drop, List.length_take]; rfl)) ?_; (with_reducible refine (span_Less.calls kj3 a0_0 a0_1 a0_2 a0_3 a0_4 a0_5 a0_6 a0_7 a0_0 a0_1 a0_2 a0_3 a0_4 a0_5 a0_6 a0_7 false _ A20.out).mono ?_); rintro e w31 ⟨rfl, hb⟩; refine ⟨_, rfl, ?_⟩; have n0_ := Aside0.mk (blk_below (g := gb219) (o := .cells #[.int .u64 a0_0, .int .u64 a0_1, .int .u64 a0_2, .int .u64 a0_3, .int .u64 a0_4, .string a0_5, .string a0_6, .bool a0_7] 28 (0, 0)) (by (with_reducible repeat (first | refine blk_drewN ?_ _ | refine blk_drew ?_ | refine blk_alloc ?_ _)); exact BK219.out) hb); have n1_ := Aside0.mk (blk_below (g := gb220) (o := .cells #[.int .u64 a1_0, .int .u64 a1_1, .int .u64 a1_2, .int .u64 a1_3, .int .u64 a1_4, .string a1_5, .string a1_6, .bool a1_7] 28 (0, 0)) (by (with_reducible repeat (first | refine blk_drewN ?_ _ | refine blk_drew ?_ | refine blk_alloc ?_ _)); exact BK220.out) hb); have n2_ := Aside0.mk (blk_below (g := gb221) (o := .cells #[.int .u64 a2_0, .int .u64 a2_1, .int .u64 a2_2, .int .u64 a2_3, .int .u64 a2_4, .string a2_5, .string a2_6, .bool a2_7] 28 (0, 0)) (by (with_reducible repeat (first | refine blk_drewN ?_ _ | refine blk_drew ?_ | refine blk_alloc ?_ _)); exact BK221.out) hb); have n3_ := Aside0.mk (below_step (by repeat (first | (with_reducible first | exact HB.out | apply below_alloc | apply pw_below_drewN | apply below_drew1 | refine below_set ?_ GE219.out | refine below_set ?_ GE220.out | refine below_set ?_ GE221.out) | exact HB.out)) hb); clear BK219; clear BK220; clear BK221; clear HB; have BK219 := n0_; have BK220 := n1_; have BK221 := n2_; have HB := n3_; clear n0_ n1_ n2_ n3_; (try clear hb); (try clear hb2); (try clear hk); (try clear hi); have hcz32_0 : w31.cell? ⟨gb219, 0, none⟩ = some (.int .u64 a0_0) := (blk_cell BK219.out 0).trans rfl; have hcz32_1 : w31.cell? ⟨gb219, 1, none⟩ = some (.int .u64 a0_1) := (blk_cell BK219.out 1).trans rfl; have hcz32_2 : w31.cell? ⟨gb219, 2, none⟩ = some (.int .u64 a0_2) := (blk_cell BK219.out 2).trans rfl; have hcz32_3 : w31.cell? ⟨gb219, 3, none⟩ = some (.int .u64 a0_3) := (blk_cell BK219.out 3).trans rfl; have hcz32_4 : w31.cell? ⟨gb219, 4, none⟩ = some (.int .u64 a0_4) := (blk_cell BK219.out 4).trans rfl; have hcz32_5 : w31.cell? ⟨gb219, 5, none⟩ = some (.string a0_5) := (blk_cell BK219.out 5).trans rfl; have hcz32_6 : w31.cell? ⟨gb219, 6, none⟩ = some (.string a0_6) := (blk_cell BK219.out 6).trans rfl; have hcz32_7 : w31.cell? ⟨gb219, 7, none⟩ = some (.bool a0_7) := (blk_cell BK219.out 7).trans rfl; have hfz32_0 := blk_frozen BK219.out 0; have hfz32_1 := blk_frozen BK219.out 1; have hfz32_2 := blk_frozen BK219.out 2; have hfz32_3 := blk_frozen BK219.out 3; have hfz32_4 := blk_frozen BK219.out 4; have hfz32_5 := blk_frozen BK219.out 5; have hfz32_6 := blk_frozen BK219.out 6; have hfz32_7 := blk_frozen BK219.out 7; have hnb33 := NB220_221.out; have hnc33 := NB221_220.out; have hcz34_0 : w31.cell? ⟨gb220, 0, none⟩ = some (.int .u64 a1_0) := (blk_cell BK220.out 0).trans rfl; have hcz34_1 : w31.cell? ⟨gb220, 1, none⟩ = some (.int .u64 a1_1) := (blk_cell BK220.out 1).trans rfl; have hcz34_2 : w31.cell? ⟨gb220, 2, none⟩ = some (.int .u64 a1_2) := (blk_cell BK220.out 2).trans rfl; have hcz34_3 : w31.cell? ⟨gb220, 3, none⟩ = some (.int .u64 a1_3) := (blk_cell BK220.out 3).trans rfl; have hcz34_4 : w31.cell? ⟨gb220, 4, none⟩ = some (.int .u64 a1_4) := (blk_cell BK220.out 4).trans rfl; have hcz34_5 : w31.cell? ⟨gb220, 5, none⟩ = some (.string a1_5) := (blk_cell BK220.out 5).trans rfl; have hcz34_6 : w31.cell? ⟨gb220, 6, none⟩ = some (.string a1_6) := (blk_cell BK220.out 6).trans rfl; have hcz34_7 : w31.cell? ⟨gb220, 7, none⟩ = some (.bool a1_7) := (blk_cell BK220.out 7).trans rfl; have hfz34_0 := blk_frozen BK220.out 0; have hfz34_1 := blk_frozen BK220.out 1; have hfz34_2 := blk_frozen BK220.out 2; have hfz34_3 := blk_frozen BK220.out 3; have hfz34_4 := blk_frozen BK220.out 4; have hfz34_5 := blk_frozen BK220.out 5; have hfz34_6 := blk_frozen BK220.out 6; have hfz34_7 := blk_frozen BK220.out 7) | (go_at_call 20; (with_reducible refine (span_Less.calls kj3 a0_0 a0_1 a0_2 a0_3 a0_4 a0_5 a0_6 a0_7 a1_0 a1_1 a1_2 a1_3 a1_4 a1_5 a1_6 a1_7 true _ A22.out).mono ?_); rintro e w35 ⟨rfl, hb⟩; have n0_ := Aside0.mk (blk_below (g := gb219) (o := .cells #[.int .u64 a0_0, .int .u64 a0_1, .int .u64 a0_2, .int .u64 a0_3, .int .u64 a0_4, .string a0_5, .string a0_6, .bool a0_7] 28 (0, 0)) (by (with_reducible repeat (first | refine blk_drewN ?_ _ | refine blk_drew ?_ | refine blk_alloc ?_ _)); exact BK219.out) hb); have n1_ := Aside0.mk (blk_below (g := gb220) (o := .cells #[.int .u64 a1_0, .int .u64 a1_1, .int .u64 a1_2, .int .u64 a1_3, .int .u64 a1_4, .string a1_5, .string a1_6, .bool a1_7] 28 (0, 0)) (by (with_reducible repeat (first | refine blk_drewN ?_ _ | refine blk_drew ?_ | refine blk_alloc ?_ _)); exact BK220.out) hb); have n2_ := Aside0.mk (blk_below (g := gb221) (o := .cells #[.int .u64 a2_0, .int .u64 a2_1, .int .u64 a2_2, .int .u64 a2_3, .int .u64 a2_4, .string a2_5, .string a2_6, .bool a2_7] 28 (0, 0)) (by (with_reducible repeat (first | refine blk_drewN ?_ _ | refine blk_drew ?_ | refine blk_alloc ?_ _)); exact BK221.out) hb); have n3_ := Aside0.mk (below_step (by repeat (first | (with_reducible first | exact HB.out | apply below_alloc | apply pw_below_drewN | apply below_drew1 | refine below_set ?_ GE219.out | refine below_set ?_ GE220.out | refine below_set ?_ GE221.out) | exact HB.out)) hb); clear BK219; clear BK220; clear BK221; clear HB; have BK219 := n0_; have BK220 := n1_; have BK221 := n2_; have HB := n3_; clear n0_ n1_ n2_ n3_; (try clear hb); (try clear hb2); (try clear hk); (try clear hi); have hcz36_0 : w35.cell? ⟨gb220, 0, none⟩ = some (.int .u64 a1_0) := (blk_cell BK220.out 0).trans rfl; have hcz36_1 : w35.cell? ⟨gb220, 1, none⟩ = some (.int .u64 a1_1) := (blk_cell BK220.out 1).trans rfl; have hcz36_2 : w35.cell? ⟨gb220, 2, none⟩ = some (.int .u64 a1_2) := (blk_cell BK220.out 2).trans rfl; have hcz36_3 : w35.cell? ⟨gb220, 3, none⟩ = some (.int .u64 a1_3) := (blk_cell BK220.out 3).trans rfl; have hcz36_4 : w35.cell? ⟨gb220, 4, none⟩ = some (.int .u64 a1_4) := (blk_cell BK220.out 4).trans rfl; have hcz36_5 : w35.cell? ⟨gb220, 5, none⟩ = some (.string a1_5) := (blk_cell BK220.out 5).trans rfl; have hcz36_6 : w35.cell? ⟨gb220, 6, none⟩ = some (.string a1_6) := (blk_cell BK220.out 6).trans rfl; have hcz36_7 : w35.cell? ⟨gb220, 7, none⟩ = some (.bool a1_7) := (blk_cell BK220.out 7).trans rfl; have hfz36_0 := blk_frozen BK220.out 0; have hfz36_1 := blk_frozen BK220.out 1; have hfz36_2 := blk_frozen BK220.out 2; have hfz36_3 := blk_frozen BK220.out 3; have hfz36_4 := blk_frozen BK220.out 4; have hfz36_5 := blk_frozen BK220.out 5; have hfz36_6 := blk_frozen BK220.out 6; have hfz36_7 := blk_frozen BK220.out 7; have hcz37_0 : w35.cell? ⟨gb219, 0, none⟩ = some (.int .u64 a0_0) := (blk_cell BK219.out 0).trans rfl; have hcz37_1 : w35.cell? ⟨gb219, 1, none⟩ = some (.int .u64 a0_1) := (blk_cell BK219.out 1).trans rfl; have hcz37_2 : w35.cell? ⟨gb219, 2, none⟩ = some (.int .u64 a0_2) := (blk_cell BK219.out 2).trans rfl; have hcz37_3 : w35.cell? ⟨gb219, 3, none⟩ = some (.int .u64 a0_3) := (blk_cell BK219.out 3).trans rfl; have hcz37_4 : w35.cell? ⟨gb219, 4, none⟩ = some (.int .u64 a0_4) := (blk_cell BK219.out 4).trans rfl; have hcz37_5 : w35.cell? ⟨gb219, 5, none⟩ = some (.string a0_5) := (blk_cell BK219.out 5).trans rfl; have hcz37_6 : w35.cell? ⟨gb219, 6, none⟩ = some (.string a0_6) := (blk_cell BK219.out 6).trans rfl; have hcz37_7 : w35.cell? ⟨gb219, 7, none⟩ = some (.bool a0_7) := (blk_cell BK219.out 7).trans rfl; have hfz37_0 := blk_frozen BK219.out 0; have hfz37_1 := blk_frozen BK219.out 1; have hfz37_2 := blk_frozen BK219.out 2; have hfz37_3 := blk_frozen BK219.out 3; have hfz37_4 := blk_frozen BK219.out 4; have hfz37_5 := blk_frozen BK219.out 5; have hfz37_6 := blk_frozen BK219.out 6; have hfz37_7 := blk_frozen BK219.out 7) | (go_at_call 20; (with_reducible refine (span_Less.calls kj3 a1_0 a1_1 a1_2 a1_3 a1_4 a1_5 a1_6 a1_7 a0_0 a0_1 a0_2 a0_3 a0_4 a0_5 a0_6 a0_7 false _ A24.out).mono ?_); rintro e w38 ⟨rfl, hb⟩; have n0_ := Aside0.mk (blk_below (g := gb219) (o := .cells #[.int .u64 a0_0, .int .u64 a0_1, .int .u64 a0_2, .int .u64 a0_3, .int .u64 a0_4, .string a0_5, .string a0_6, .bool a0_7] 28 (0, 0)) (by (with_reducible repeat (first | refine blk_drewN ?_ _ | refine blk_drew ?_ | refine blk_alloc ?_ _)); exact BK219.out) hb); have n1_ := Aside0.mk (blk_below (g := gb220) (o := .cells #[.int .u64 a1_0, .int .u64 a1_1, .int .u64 a1_2, .int .u64 a1_3, .int .u64 a1_4, .string a1_5, .string a1_6, .bool a1_7] 28 (0, 0)) (by (with_reducible repeat (first | refine blk_drewN ?_ _ | refine blk_drew ?_ | refine blk_alloc ?_ _)); exact BK220.out) hb); have n2_ := Aside0.mk (blk_below (g := gb221) (o := .cells #[.int .u64 a2_0, .int .u64 a2_1, .int .u64 a2_2, .int .u64 a2_3, .int .u64 a2_4, .string a2_5, .string a2_6, .bool a2_7] 28 (0, 0)) (by (with_reducible repeat (first | refine blk_drewN ?_ _ | refine blk_drew ?_ | refine blk_alloc ?_ _)); exact BK221.out) hb); have n3_ := Aside0.mk (below_step (by repeat (first | (with_reducible first | exact HB.out | apply below_alloc | apply pw_below_drewN | apply below_drew1 | refine below_set ?_ GE219.out | refine below_set ?_ GE220.out | refine below_set ?_ GE221.out) | exact HB.out)) hb); clear BK219; clear BK220; clear BK221; clear HB; have BK219 := n0_; have BK220 := n1_; have BK221 := n2_; have HB := n3_; clear n0_ n1_ n2_ n3_; (try clear hb); (try clear hb2); (try clear hk); (try clear hi); have hcz39_0 : w38.cell? ⟨gb219, 0, none⟩ = some (.int .u64 a0_0) := (blk_cell BK219.out 0).trans rfl; have hcz39_1 : w38.cell? ⟨gb219, 1, none⟩ = some (.int .u64 a0_1) := (blk_cell BK219.out 1).trans rfl; have hcz39_2 : w38.cell? ⟨gb219, 2, none⟩ = some (.int .u64 a0_2) := (blk_cell BK219.out 2).trans rfl; have hcz39_3 : w38.cell? ⟨gb219, 3, none⟩ = some (.int .u64 a0_3) := (blk_cell BK219.out 3).trans rfl; have hcz39_4 : w38.cell? ⟨gb219, 4, none⟩ = some (.int .u64 a0_4) := (blk_cell BK219.out 4).trans rfl; have hcz39_5 : w38.cell? ⟨gb219, 5, none⟩ = some (.string a0_5) := (blk_cell BK219.out 5).trans rfl; have hcz39_6 : w38.cell? ⟨gb219, 6, none⟩ = some (.string a0_6) := (blk_cell BK219.out 6).trans rfl; have hcz39_7 : w38.cell? ⟨gb219, 7, none⟩ = some (.bool a0_7) := (blk_cell BK219.out 7).trans rfl; have hfz39_0 := blk_frozen BK219.out 0; have hfz39_1 := blk_frozen BK219.out 1; have hfz39_2 := blk_frozen BK219.out 2; have hfz39_3 := blk_frozen BK219.out 3; have hfz39_4 := blk_frozen BK219.out 4; have hfz39_5 := blk_frozen BK219.out 5; have hfz39_6 := blk_frozen BK219.out 6; have hfz39_7 := blk_frozen BK219.out 7; have hcz40_0 : w38.cell? ⟨gb220, 0, none⟩ = some (.int .u64 a1_0) := (blk_cell BK220.out 0).trans rfl; have hcz40_1 : w38.cell? ⟨gb220, 1, none⟩ = some (.int .u64 a1_1) := (blk_cell BK220.out 1).trans rfl; have hcz40_2 : w38.cell? ⟨gb220, 2, none⟩ = some (.int .u64 a1_2) := (blk_cell BK220.out 2).trans rfl; have hcz40_3 : w38.cell? ⟨gb220, 3, none⟩ = some (.int .u64 a1_3) := (blk_cell BK220.out 3).trans rfl; have hcz40_4 : w38.cell? ⟨gb220, 4, none⟩ = some (.int .u64 a1_4) := (blk_cell BK220.out 4).trans rfl; have hcz40_5 : w38.cell? ⟨gb220, 5, none⟩ = some (.string a1_5) := (blk_cell BK220.out 5).trans rfl; have hcz40_6 : w38.cell? ⟨gb220, 6, none⟩ = some (.string a1_6) := (blk_cell BK220.out 6).trans rfl; have hcz40_7 : w38.cell? ⟨gb220, 7, none⟩ = some (.bool a1_7) := (blk_cell BK220.out 7).trans rfl; have hfz40_0 := blk_frozen BK220.out 0; have hfz40_1 := blk_frozen BK220.out 1; have hfz40_2 := blk_frozen BK220.out 2; have hfz40_3 := blk_frozen BK220.out 3; have hfz40_4 := blk_frozen BK220.out 4; have hfz40_5 := blk_frozen BK220.out 5; have hfz40_6 := blk_frozen BK220.out 6; have hfz40_7 := blk_frozen BK220.out 7) | (go_at_call 20; (with_reducible refine (span_Less.calls kj3 a0_0 a0_1 a0_2 a0_3 a0_4 a0_5 a0_6 a0_7 a1_0 a1_1 a1_2 a1_3 a1_4 a1_5 a1_6 a1_7 true _ A26.out).mono ?_); rintro e w41 ⟨rfl, hb⟩; have n0_ := Aside0.mk (blk_below (g := gb219) (o := .cells #[.int .u64 a0_0, .int .u64 a0_1, .int .u64 a0_2, .int .u64 a0_3, .int .u64 a0_4, .string a0_5, .string a0_6, .bool a0_7] 28 (0, 0)) (by (with_reducible repeat (first | refine blk_drewN ?_ _ | refine blk_drew ?_ | refine blk_alloc ?_ _)); exact BK219.out) hb); have n1_ := Aside0.mk (blk_below (g := gb220) (o := .cells #[.int .u64 a1_0, .int .u64 a1_1, .int .u64 a1_2, .int .u64 a1_3, .int .u64 a1_4, .string a1_5, .string a1_6, .bool a1_7] 28 (0, 0)) (by (with_reducible repeat (first | refine blk_drewN ?_ _ | refine blk_drew ?_ | refine blk_alloc ?_ _)); exact BK220.out) hb); have n2_ := Aside0.mk (blk_below (g := gb221) (o := .cells #[.int .u64 a2_0, .int .u64 a2_1, .int .u64 a2_2, .int .u64 a2_3, .int .u64 a2_4, .string a2_5, .string a2_6, .bool a2_7] 28 (0, 0)) (by (with_reducible repeat (first | refine blk_drewN ?_ _ | refine blk_drew ?_ | refine blk_alloc ?_ _)); exact BK221.out) hb); have n3_ := Aside0.mk (below_step (by repeat (first | (with_reducible first | exact HB.out | apply below_alloc | apply pw_below_drewN | apply below_drew1 | refine below_set ?_ GE219.out | refine below_set ?_ GE220.out | refine below_set ?_ GE221.out) | exact HB.out)) hb); clear BK219; clear BK220; clear BK221; clear HB; have BK219 := n0_; have BK220 := n1_; have BK221 := n2_; have HB := n3_; clear n0_ n1_ n2_ n3_; (try clear hb); (try clear hb2); (try clear hk); (try clear hi)))
                go_meet
                case rel => exact ⟨_, ((x7_3 == true)), (by first | rfl | (simp; done) | (simp [*]; done)), H', ⟨by have := HJ3.out; first | omega | exact Nat.le_refl _⟩, ⟨by (with_reducible repeat (first | refine blk_drewN ?_ _ | refine blk_drew ?_ | refine blk_alloc ?_ _)); exact BK219.out⟩, ⟨by (with_reducible repeat (first | refine blk_drewN ?_ _ | refine blk_drew ?_ | refine blk_alloc ?_ _)); exact BK220.out⟩, ⟨by (with_reducible repeat (first | refine blk_drewN ?_ _ | refine blk_drew ?_ | refine blk_alloc ?_ _)); exact BK221.out⟩, ⟨by repeat (first | (with_reducible first | exact HB.out | apply below_alloc | apply pw_below_drewN | apply below_drew1 | refine below_set ?_ GE219.out | refine below_set ?_ GE220.out | refine below_set ?_ GE221.out) | exact HB.out)⟩⟩
              · replace c27 := Bool.eq_false_iff.mpr c27
                subst c27
                exact absurd (Option.some.inj (A22.out.symm.trans A26.out)) (by decide)
          · replace c23 := Bool.eq_false_iff.mpr c23
            subst c23
            have H1 : ((span_Less.f kj3 a0_0 a0_1 a0_2 a0_3 a0_4 a0_5 a0_6 a0_7 a1_0 a1_1 a1_2 a1_3 a1_4 a1_5 a1_6 a1_7).bind fun t227 => (if t227 = true then (winnowlaw03_SpanTotal.j1 kj3 (x7_3 == true) a0_0 a0_1 a0_2 a0_3 a0_4 a0_5 a0_6 a0_7 a1_0 a1_1 a1_2 a1_3 a1_4 a1_5 a1_6 a1_7 a2_0 a2_1 a2_2 a2_3 a2_4 a2_5 a2_6 a2_7) else ((span_Less.f kj3 a1_0 a1_1 a1_2 a1_3 a1_4 a1_5 a1_6 a1_7 a0_0 a0_1 a0_2 a0_3 a0_4 a0_5 a0_6 a0_7).bind fun t228 => (winnowlaw03_SpanTotal.j1 kj3 (x7_3 == t228) a0_0 a0_1 a0_2 a0_3 a0_4 a0_5 a0_6 a0_7 a1_0 a1_1 a1_2 a1_3 a1_4 a1_5 a1_6 a1_7 a2_0 a2_1 a2_2 a2_3 a2_4 a2_5 a2_6 a2_7)))) = some r := by rw [if_neg (show ¬ (false = true) by decide)] at H; exact H
            clear H
            have H := H1
            clear H1
            replace H := Option.bind_eq_some_iff.mp H
            obtain ⟨t227, A600, H⟩ := H
            replace H : (if t227 = true then (winnowlaw03_SpanTotal.j1 kj3 (x7_3 == true) a0_0 a0_1 a0_2 a0_3 a0_4 a0_5 a0_6 a0_7 a1_0 a1_1 a1_2 a1_3 a1_4 a1_5 a1_6 a1_7 a2_0 a2_1 a2_2 a2_3 a2_4 a2_5 a2_6 a2_7) else ((span_Less.f kj3 a1_0 a1_1 a1_2 a1_3 a1_4 a1_5 a1_6 a1_7 a0_0 a0_1 a0_2 a0_3 a0_4 a0_5 a0_6 a0_7).bind fun t228 => (winnowlaw03_SpanTotal.j1 kj3 (x7_3 == t228) a0_0 a0_1 a0_2 a0_3 a0_4 a0_5 a0_6 a0_7 a1_0 a1_1 a1_2 a1_3 a1_4 a1_5 a1_6 a1_7 a2_0 a2_1 a2_2 a2_3 a2_4 a2_5 a2_6 a2_7))) = some r := H
            have A60 := Aside0.mk A600
            clear A600
            by_cases c61 : t227 = true
            · subst c61
              exact absurd (Option.some.inj (A22.out.symm.trans A60.out)) (by decide)
            · replace c61 := Bool.eq_false_iff.mpr c61
              subst c61
              have H1 : ((span_Less.f kj3 a1_0 a1_1 a1_2 a1_3 a1_4 a1_5 a1_6 a1_7 a0_0 a0_1 a0_2 a0_3 a0_4 a0_5 a0_6 a0_7).bind fun t228 => (winnowlaw03_SpanTotal.j1 kj3 (x7_3 == t228) a0_0 a0_1 a0_2 a0_3 a0_4 a0_5 a0_6 a0_7 a1_0 a1_1 a1_2 a1_3 a1_4 a1_5 a1_6 a1_7 a2_0 a2_1 a2_2 a2_3 a2_4 a2_5 a2_6 a2_7)) = some r := by rw [if_neg (show ¬ (false = true) by decide)] at H; exact H
              clear H
              have H := H1
              clear H1
              replace H := Option.bind_eq_some_iff.mp H
              obtain ⟨t228, A730, H⟩ := H
              replace H : (winnowlaw03_SpanTotal.j1 kj3 (x7_3 == t228) a0_0 a0_1 a0_2 a0_3 a0_4 a0_5 a0_6 a0_7 a1_0 a1_1 a1_2 a1_3 a1_4 a1_5 a1_6 a1_7 a2_0 a2_1 a2_2 a2_3 a2_4 a2_5 a2_6 a2_7) = some r := H
              have A73 := Aside0.mk A730
              clear A730
              have H' := Aside0.mk H
              clear H
              have hnb74 := NB219_220.out
              have hnc74 := NB220_219.out
              have hnb75 := NB219_221.out
              have hnc75 := NB221_219.out
              have hcz76_0 : wc.cell? ⟨gb219, 0, none⟩ = some (.int .u64 a0_0) := (blk_cell BK219.out 0).trans rfl
              have hcz76_1 : wc.cell? ⟨gb219, 1, none⟩ = some (.int .u64 a0_1) := (blk_cell BK219.out 1).trans rfl
              have hcz76_2 : wc.cell? ⟨gb219, 2, none⟩ = some (.int .u64 a0_2) := (blk_cell BK219.out 2).trans rfl
              have hcz76_3 : wc.cell? ⟨gb219, 3, none⟩ = some (.int .u64 a0_3) := (blk_cell BK219.out 3).trans rfl
              have hcz76_4 : wc.cell? ⟨gb219, 4, none⟩ = some (.int .u64 a0_4) := (blk_cell BK219.out 4).trans rfl
              have hcz76_5 : wc.cell? ⟨gb219, 5, none⟩ = some (.string a0_5) := (blk_cell BK219.out 5).trans rfl
              have hcz76_6 : wc.cell? ⟨gb219, 6, none⟩ = some (.string a0_6) := (blk_cell BK219.out 6).trans rfl
              have hcz76_7 : wc.cell? ⟨gb219, 7, none⟩ = some (.bool a0_7) := (blk_cell BK219.out 7).trans rfl
              have hfz76_0 := blk_frozen BK219.out 0
              have hfz76_1 := blk_frozen BK219.out 1
              have hfz76_2 := blk_frozen BK219.out 2
              have hfz76_3 := blk_frozen BK219.out 3
              have hfz76_4 := blk_frozen BK219.out 4
              have hfz76_5 := blk_frozen BK219.out 5
              have hfz76_6 := blk_frozen BK219.out 6
              have hfz76_7 := blk_frozen BK219.out 7
              go_wp2_with (first | ((with_reducible refine gate_callee (f := 20) rfl ?_); refine goesL_ (some 22) rfl rfl Try.func20 (by kernel_rfl) rfl #[.agg #[.int .u64 a0_0, .int .u64 a0_1, .int .u64 a0_2, .int .u64 a0_3, .int .u64 a0_4, .string a0_5, .string a0_6, .bool a0_7], .agg #[.int .u64 a0_0, .int .u64 a0_1, .int .u64 a0_2, .int .u64 a0_3, .int .u64 a0_4, .string a0_5, .string a0_6, .bool a0_7]] rfl (by (try simp only [List.map_toArray, List.map_cons, List.map_nil]); first | done | rfl | (simp only [List.length_drop, List.length_take]; rfl)) ?_; (with_reducible refine (span_Less.calls kj3 a0_0 a0_1 a0_2 a0_3 a0_4 a0_5 a0_6 a0_7 a0_0 a0_1 a0_2 a0_3 a0_4 a0_5 a0_6 a0_7 false _ A20.out).mono ?_); rintro e w77 ⟨rfl, hb⟩; refine ⟨_, rfl, ?_⟩; have n0_ := Aside0.mk (blk_below (g := gb219) (o := .cells #[.int .u64 a0_0, .int .u64 a0_1, .int .u64 a0_2, .int .u64 a0_3, .int .u64 a0_4, .string a0_5, .string a0_6, .bool a0_7] 28 (0, 0)) (by (with_reducible repeat (first | refine blk_drewN ?_ _ | refine blk_drew ?_ | refine blk_alloc ?_ _)); exact BK219.out) hb); have n1_ := Aside0.mk (blk_below (g := gb220) (o := .cells #[.int .u64 a1_0, .int .u64 a1_1, .int .u64 a1_2, .int .u64 a1_3, .int .u64 a1_4, .string a1_5, .string a1_6, .bool a1_7] 28 (0, 0)) (by (with_reducible repeat (first | refine blk_drewN ?_ _ | refine blk_drew ?_ | refine blk_alloc ?_ _)); exact BK220.out) hb); have n2_ := Aside0.mk (blk_below (g := gb221) (o := .cells #[.int .u64 a2_0, .int .u64 a2_1, .int .u64 a2_2, .int .u64 a2_3, .int .u64 a2_4, .string a2_5, .string a2_6, .bool a2_7] 28 (0, 0)) (by (with_reducible repeat (first | refine blk_drewN ?_ _ | refine blk_drew ?_ | refine blk_alloc ?_ _)); exact BK221.out) hb); have n3_ := Aside0.mk (below_step (by repeat (first | (with_reducible first | exact HB.out | apply below_alloc | apply pw_below_drewN | apply below_drew1 | refine below_set ?_ GE219.out | refine below_set ?_ GE220.out | refine below_set ?_ GE221.out) | exact HB.out)) hb); clear BK219; clear BK220; clear BK221; clear HB; have BK219 := n0_; have BK220 := n1_; have BK221 := n2_; have HB := n3_; clear n0_ n1_ n2_ n3_; (try clear hb); (try clear hb2); (try clear hk); (try clear hi); have hcz78_0 : w77.cell? ⟨gb219, 0, none⟩ = some (.int .u64 a0_0) := (blk_cell BK219.out 0).trans rfl; have hcz78_1 : w77.cell? ⟨gb219, 1, none⟩ = some (.int .u64 a0_1) := (blk_cell BK219.out 1).trans rfl; have hcz78_2 : w77.cell? ⟨gb219, 2, none⟩ = some (.int .u64 a0_2) := (blk_cell BK219.out 2).trans rfl; have hcz78_3 : w77.cell? ⟨gb219, 3, none⟩ = some (.int .u64 a0_3) := (blk_cell BK219.out 3).trans rfl; have hcz78_4 : w77.cell? ⟨gb219, 4, none⟩ = some (.int .u64 a0_4) := (blk_cell BK219.out 4).trans rfl; have hcz78_5 : w77.cell? ⟨gb219, 5, none⟩ = some (.string a0_5) := (blk_cell BK219.out 5).trans rfl; have hcz78_6 : w77.cell? ⟨gb219, 6, none⟩ = some (.string a0_6) := (blk_cell BK219.out 6).trans rfl; have hcz78_7 : w77.cell? ⟨gb219, 7, none⟩ = some (.bool a0_7) := (blk_cell BK219.out 7).trans rfl; have hfz78_0 := blk_frozen BK219.out 0; have hfz78_1 := blk_frozen BK219.out 1; have hfz78_2 := blk_frozen BK219.out 2; have hfz78_3 := blk_frozen BK219.out 3; have hfz78_4 := blk_frozen BK219.out 4; have hfz78_5 := blk_frozen BK219.out 5; have hfz78_6 := blk_frozen BK219.out 6; have hfz78_7 := blk_frozen BK219.out 7; have hnb79 := NB220_221.out; have hnc79 := NB221_220.out; have hcz80_0 : w77.cell? ⟨gb220, 0, none⟩ = some (.int .u64 a1_0) := (blk_cell BK220.out 0).trans rfl; have hcz80_1 : w77.cell? ⟨gb220, 1, none⟩ = some (.int .u64 a1_1) := (blk_cell BK220.out 1).trans rfl; have hcz80_2 : w77.cell? ⟨gb220, 2, none⟩ = some (.int .u64 a1_2) := (blk_cell BK220.out 2).trans rfl; have hcz80_3 : w77.cell? ⟨gb220, 3, none⟩ = some (.int .u64 a1_3) := (blk_cell BK220.out 3).trans rfl; have hcz80_4 : w77.cell? ⟨gb220, 4, none⟩ = some (.int .u64 a1_4) := (blk_cell BK220.out 4).trans rfl; have hcz80_5 : w77.cell? ⟨gb220, 5, none⟩ = some (.string a1_5) := (blk_cell BK220.out 5).trans rfl; have hcz80_6 : w77.cell? ⟨gb220, 6, none⟩ = some (.string a1_6) := (blk_cell BK220.out 6).trans rfl; have hcz80_7 : w77.cell? ⟨gb220, 7, none⟩ = some (.bool a1_7) := (blk_cell BK220.out 7).trans rfl; have hfz80_0 := blk_frozen BK220.out 0; have hfz80_1 := blk_frozen BK220.out 1; have hfz80_2 := blk_frozen BK220.out 2; have hfz80_3 := blk_frozen BK220.out 3; have hfz80_4 := blk_frozen BK220.out 4; have hfz80_5 := blk_frozen BK220.out 5; have hfz80_6 := blk_frozen BK220.out 6; have hfz80_7 := blk_frozen BK220.out 7) | (go_at_call 20; (with_reducible refine (span_Less.calls kj3 a0_0 a0_1 a0_2 a0_3 a0_4 a0_5 a0_6 a0_7 a1_0 a1_1 a1_2 a1_3 a1_4 a1_5 a1_6 a1_7 false _ A22.out).mono ?_); rintro e w81 ⟨rfl, hb⟩; have n0_ := Aside0.mk (blk_below (g := gb219) (o := .cells #[.int .u64 a0_0, .int .u64 a0_1, .int .u64 a0_2, .int .u64 a0_3, .int .u64 a0_4, .string a0_5, .string a0_6, .bool a0_7] 28 (0, 0)) (by (with_reducible repeat (first | refine blk_drewN ?_ _ | refine blk_drew ?_ | refine blk_alloc ?_ _)); exact BK219.out) hb); have n1_ := Aside0.mk (blk_below (g := gb220) (o := .cells #[.int .u64 a1_0, .int .u64 a1_1, .int .u64 a1_2, .int .u64 a1_3, .int .u64 a1_4, .string a1_5, .string a1_6, .bool a1_7] 28 (0, 0)) (by (with_reducible repeat (first | refine blk_drewN ?_ _ | refine blk_drew ?_ | refine blk_alloc ?_ _)); exact BK220.out) hb); have n2_ := Aside0.mk (blk_below (g := gb221) (o := .cells #[.int .u64 a2_0, .int .u64 a2_1, .int .u64 a2_2, .int .u64 a2_3, .int .u64 a2_4, .string a2_5, .string a2_6, .bool a2_7] 28 (0, 0)) (by (with_reducible repeat (first | refine blk_drewN ?_ _ | refine blk_drew ?_ | refine blk_alloc ?_ _)); exact BK221.out) hb); have n3_ := Aside0.mk (below_step (by repeat (first | (with_reducible first | exact HB.out | apply below_alloc | apply pw_below_drewN | apply below_drew1 | refine below_set ?_ GE219.out | refine below_set ?_ GE220.out | refine below_set ?_ GE221.out) | exact HB.out)) hb); clear BK219; clear BK220; clear BK221; clear HB; have BK219 := n0_; have BK220 := n1_; have BK221 := n2_; have HB := n3_; clear n0_ n1_ n2_ n3_; (try clear hb); (try clear hb2); (try clear hk); (try clear hi); have hcz82_0 : w81.cell? ⟨gb219, 0, none⟩ = some (.int .u64 a0_0) := (blk_cell BK219.out 0).trans rfl; have hcz82_1 : w81.cell? ⟨gb219, 1, none⟩ = some (.int .u64 a0_1) := (blk_cell BK219.out 1).trans rfl; have hcz82_2 : w81.cell? ⟨gb219, 2, none⟩ = some (.int .u64 a0_2) := (blk_cell BK219.out 2).trans rfl; have hcz82_3 : w81.cell? ⟨gb219, 3, none⟩ = some (.int .u64 a0_3) := (blk_cell BK219.out 3).trans rfl; have hcz82_4 : w81.cell? ⟨gb219, 4, none⟩ = some (.int .u64 a0_4) := (blk_cell BK219.out 4).trans rfl; have hcz82_5 : w81.cell? ⟨gb219, 5, none⟩ = some (.string a0_5) := (blk_cell BK219.out 5).trans rfl; have hcz82_6 : w81.cell? ⟨gb219, 6, none⟩ = some (.string a0_6) := (blk_cell BK219.out 6).trans rfl; have hcz82_7 : w81.cell? ⟨gb219, 7, none⟩ = some (.bool a0_7) := (blk_cell BK219.out 7).trans rfl; have hfz82_0 := blk_frozen BK219.out 0; have hfz82_1 := blk_frozen BK219.out 1; have hfz82_2 := blk_frozen BK219.out 2; have hfz82_3 := blk_frozen BK219.out 3; have hfz82_4 := blk_frozen BK219.out 4; have hfz82_5 := blk_frozen BK219.out 5; have hfz82_6 := blk_frozen BK219.out 6; have hfz82_7 := blk_frozen BK219.out 7; have hcz83_0 : w81.cell? ⟨gb220, 0, none⟩ = some (.int .u64 a1_0) := (blk_cell BK220.out 0).trans rfl; have hcz83_1 : w81.cell? ⟨gb220, 1, none⟩ = some (.int .u64 a1_1) := (blk_cell BK220.out 1).trans rfl; have hcz83_2 : w81.cell? ⟨gb220, 2, none⟩ = some (.int .u64 a1_2) := (blk_cell BK220.out 2).trans rfl; have hcz83_3 : w81.cell? ⟨gb220, 3, none⟩ = some (.int .u64 a1_3) := (blk_cell BK220.out 3).trans rfl; have hcz83_4 : w81.cell? ⟨gb220, 4, none⟩ = some (.int .u64 a1_4) := (blk_cell BK220.out 4).trans rfl; have hcz83_5 : w81.cell? ⟨gb220, 5, none⟩ = some (.string a1_5) := (blk_cell BK220.out 5).trans rfl; have hcz83_6 : w81.cell? ⟨gb220, 6, none⟩ = some (.string a1_6) := (blk_cell BK220.out 6).trans rfl; have hcz83_7 : w81.cell? ⟨gb220, 7, none⟩ = some (.bool a1_7) := (blk_cell BK220.out 7).trans rfl; have hfz83_0 := blk_frozen BK220.out 0; have hfz83_1 := blk_frozen BK220.out 1; have hfz83_2 := blk_frozen BK220.out 2; have hfz83_3 := blk_frozen BK220.out 3; have hfz83_4 := blk_frozen BK220.out 4; have hfz83_5 := blk_frozen BK220.out 5; have hfz83_6 := blk_frozen BK220.out 6; have hfz83_7 := blk_frozen BK220.out 7) | (go_at_call 20; (with_reducible refine (span_Less.calls kj3 a0_0 a0_1 a0_2 a0_3 a0_4 a0_5 a0_6 a0_7 a1_0 a1_1 a1_2 a1_3 a1_4 a1_5 a1_6 a1_7 false _ A60.out).mono ?_); rintro e w84 ⟨rfl, hb⟩; have n0_ := Aside0.mk (blk_below (g := gb219) (o := .cells #[.int .u64 a0_0, .int .u64 a0_1, .int .u64 a0_2, .int .u64 a0_3, .int .u64 a0_4, .string a0_5, .string a0_6, .bool a0_7] 28 (0, 0)) (by (with_reducible repeat (first | refine blk_drewN ?_ _ | refine blk_drew ?_ | refine blk_alloc ?_ _)); exact BK219.out) hb); have n1_ := Aside0.mk (blk_below (g := gb220) (o := .cells #[.int .u64 a1_0, .int .u64 a1_1, .int .u64 a1_2, .int .u64 a1_3, .int .u64 a1_4, .string a1_5, .string a1_6, .bool a1_7] 28 (0, 0)) (by (with_reducible repeat (first | refine blk_drewN ?_ _ | refine blk_drew ?_ | refine blk_alloc ?_ _)); exact BK220.out) hb); have n2_ := Aside0.mk (blk_below (g := gb221) (o := .cells #[.int .u64 a2_0, .int .u64 a2_1, .int .u64 a2_2, .int .u64 a2_3, .int .u64 a2_4, .string a2_5, .string a2_6, .bool a2_7] 28 (0, 0)) (by (with_reducible repeat (first | refine blk_drewN ?_ _ | refine blk_drew ?_ | refine blk_alloc ?_ _)); exact BK221.out) hb); have n3_ := Aside0.mk (below_step (by repeat (first | (with_reducible first | exact HB.out | apply below_alloc | apply pw_below_drewN | apply below_drew1 | refine below_set ?_ GE219.out | refine below_set ?_ GE220.out | refine below_set ?_ GE221.out) | exact HB.out)) hb); clear BK219; clear BK220; clear BK221; clear HB; have BK219 := n0_; have BK220 := n1_; have BK221 := n2_; have HB := n3_; clear n0_ n1_ n2_ n3_; (try clear hb); (try clear hb2); (try clear hk); (try clear hi); have hcz85_0 : w84.cell? ⟨gb220, 0, none⟩ = some (.int .u64 a1_0) := (blk_cell BK220.out 0).trans rfl; have hcz85_1 : w84.cell? ⟨gb220, 1, none⟩ = some (.int .u64 a1_1) := (blk_cell BK220.out 1).trans rfl; have hcz85_2 : w84.cell? ⟨gb220, 2, none⟩ = some (.int .u64 a1_2) := (blk_cell BK220.out 2).trans rfl; have hcz85_3 : w84.cell? ⟨gb220, 3, none⟩ = some (.int .u64 a1_3) := (blk_cell BK220.out 3).trans rfl; have hcz85_4 : w84.cell? ⟨gb220, 4, none⟩ = some (.int .u64 a1_4) := (blk_cell BK220.out 4).trans rfl; have hcz85_5 : w84.cell? ⟨gb220, 5, none⟩ = some (.string a1_5) := (blk_cell BK220.out 5).trans rfl; have hcz85_6 : w84.cell? ⟨gb220, 6, none⟩ = some (.string a1_6) := (blk_cell BK220.out 6).trans rfl; have hcz85_7 : w84.cell? ⟨gb220, 7, none⟩ = some (.bool a1_7) := (blk_cell BK220.out 7).trans rfl; have hfz85_0 := blk_frozen BK220.out 0; have hfz85_1 := blk_frozen BK220.out 1; have hfz85_2 := blk_frozen BK220.out 2; have hfz85_3 := blk_frozen BK220.out 3; have hfz85_4 := blk_frozen BK220.out 4; have hfz85_5 := blk_frozen BK220.out 5; have hfz85_6 := blk_frozen BK220.out 6; have hfz85_7 := blk_frozen BK220.out 7; have hcz86_0 : w84.cell? ⟨gb219, 0, none⟩ = some (.int .u64 a0_0) := (blk_cell BK219.out 0).trans rfl; have hcz86_1 : w84.cell? ⟨gb219, 1, none⟩ = some (.int .u64 a0_1) := (blk_cell BK219.out 1).trans rfl; have hcz86_2 : w84.cell? ⟨gb219, 2, none⟩ = some (.int .u64 a0_2) := (blk_cell BK219.out 2).trans rfl; have hcz86_3 : w84.cell? ⟨gb219, 3, none⟩ = some (.int .u64 a0_3) := (blk_cell BK219.out 3).trans rfl; have hcz86_4 : w84.cell? ⟨gb219, 4, none⟩ = some (.int .u64 a0_4) := (blk_cell BK219.out 4).trans rfl; have hcz86_5 : w84.cell? ⟨gb219, 5, none⟩ = some (.string a0_5) := (blk_cell BK219.out 5).trans rfl; have hcz86_6 : w84.cell? ⟨gb219, 6, none⟩ = some (.string a0_6) := (blk_cell BK219.out 6).trans rfl; have hcz86_7 : w84.cell? ⟨gb219, 7, none⟩ = some (.bool a0_7) := (blk_cell BK219.out 7).trans rfl; have hfz86_0 := blk_frozen BK219.out 0; have hfz86_1 := blk_frozen BK219.out 1; have hfz86_2 := blk_frozen BK219.out 2; have hfz86_3 := blk_frozen BK219.out 3; have hfz86_4 := blk_frozen BK219.out 4; have hfz86_5 := blk_frozen BK219.out 5; have hfz86_6 := blk_frozen BK219.out 6; have hfz86_7 := blk_frozen BK219.out 7) | (go_at_call 20; (with_reducible refine (span_Less.calls kj3 a1_0 a1_1 a1_2 a1_3 a1_4 a1_5 a1_6 a1_7 a0_0 a0_1 a0_2 a0_3 a0_4 a0_5 a0_6 a0_7 t228 _ A73.out).mono ?_); rintro e w87 ⟨rfl, hb⟩; have n0_ := Aside0.mk (blk_below (g := gb219) (o := .cells #[.int .u64 a0_0, .int .u64 a0_1, .int .u64 a0_2, .int .u64 a0_3, .int .u64 a0_4, .string a0_5, .string a0_6, .bool a0_7] 28 (0, 0)) (by (with_reducible repeat (first | refine blk_drewN ?_ _ | refine blk_drew ?_ | refine blk_alloc ?_ _)); exact BK219.out) hb); have n1_ := Aside0.mk (blk_below (g := gb220) (o := .cells #[.int .u64 a1_0, .int .u64 a1_1, .int .u64 a1_2, .int .u64 a1_3, .int .u64 a1_4, .string a1_5, .string a1_6, .bool a1_7] 28 (0, 0)) (by (with_reducible repeat (first | refine blk_drewN ?_ _ | refine blk_drew ?_ | refine blk_alloc ?_ _)); exact BK220.out) hb); have n2_ := Aside0.mk (blk_below (g := gb221) (o := .cells #[.int .u64 a2_0, .int .u64 a2_1, .int .u64 a2_2, .int .u64 a2_3, .int .u64 a2_4, .string a2_5, .string a2_6, .bool a2_7] 28 (0, 0)) (by (with_reducible repeat (first | refine blk_drewN ?_ _ | refine blk_drew ?_ | refine blk_alloc ?_ _)); exact BK221.out) hb); have n3_ := Aside0.mk (below_step (by repeat (first | (with_reducible first | exact HB.out | apply below_alloc | apply pw_below_drewN | apply below_drew1 | refine below_set ?_ GE219.out | refine below_set ?_ GE220.out | refine below_set ?_ GE221.out) | exact HB.out)) hb); clear BK219; clear BK220; clear BK221; clear HB; have BK219 := n0_; have BK220 := n1_; have BK221 := n2_; have HB := n3_; clear n0_ n1_ n2_ n3_; (try clear hb); (try clear hb2); (try clear hk); (try clear hi)))
              go_meet
              case rel => exact ⟨_, ((x7_3 == t228)), (by first | rfl | (simp; done) | (simp [*]; done)), H', ⟨by have := HJ3.out; first | omega | exact Nat.le_refl _⟩, ⟨by (with_reducible repeat (first | refine blk_drewN ?_ _ | refine blk_drew ?_ | refine blk_alloc ?_ _)); exact BK219.out⟩, ⟨by (with_reducible repeat (first | refine blk_drewN ?_ _ | refine blk_drew ?_ | refine blk_alloc ?_ _)); exact BK220.out⟩, ⟨by (with_reducible repeat (first | refine blk_drewN ?_ _ | refine blk_drew ?_ | refine blk_alloc ?_ _)); exact BK221.out⟩, ⟨by repeat (first | (with_reducible first | exact HB.out | apply below_alloc | apply pw_below_drewN | apply below_drew1 | refine below_set ?_ GE219.out | refine below_set ?_ GE220.out | refine below_set ?_ GE221.out) | exact HB.out)⟩⟩
      case rest =>
        clear HC19
        try clear c1
        try clear c2
        try clear p2
        try clear c3
        try clear c4
        try clear c6
        try clear c7
        try clear c8
        try clear c8b0
        try clear c8b1
        try clear c9
        try clear c10
        try clear c12
        try clear c14
        try clear c15
        try clear c17
        try clear c20
        try clear c21
        try clear c23
        try clear c25
        try clear c27
        try clear c28
        try clear c29
        try clear c33
        try clear c43
        try clear c44
        try clear c48
        try clear c61
        try clear c62
        try clear c63
        try clear c67
        try clear c74
        try clear c75
        try clear c79
        try clear hcz11_0
        try clear hcz11_1
        try clear hcz11_2
        try clear hcz11_3
        try clear hcz11_4
        try clear hcz11_5
        try clear hcz11_6
        try clear hcz11_7
        try clear hcz13_0
        try clear hcz13_1
        try clear hcz13_2
        try clear hcz13_3
        try clear hcz13_4
        try clear hcz13_5
        try clear hcz13_6
        try clear hcz13_7
        try clear hcz16_0
        try clear hcz16_1
        try clear hcz16_2
        try clear hcz16_3
        try clear hcz16_4
        try clear hcz16_5
        try clear hcz16_6
        try clear hcz16_7
        try clear hcz18_0
        try clear hcz18_1
        try clear hcz18_2
        try clear hcz18_3
        try clear hcz18_4
        try clear hcz18_5
        try clear hcz18_6
        try clear hcz18_7
        try clear hcz30_0
        try clear hcz30_1
        try clear hcz30_2
        try clear hcz30_3
        try clear hcz30_4
        try clear hcz30_5
        try clear hcz30_6
        try clear hcz30_7
        try clear hcz32_0
        try clear hcz32_1
        try clear hcz32_2
        try clear hcz32_3
        try clear hcz32_4
        try clear hcz32_5
        try clear hcz32_6
        try clear hcz32_7
        try clear hcz34_0
        try clear hcz34_1
        try clear hcz34_2
        try clear hcz34_3
        try clear hcz34_4
        try clear hcz34_5
        try clear hcz34_6
        try clear hcz34_7
        try clear hcz36_0
        try clear hcz36_1
        try clear hcz36_2
        try clear hcz36_3
        try clear hcz36_4
        try clear hcz36_5
        try clear hcz36_6
        try clear hcz36_7
        try clear hcz37_0
        try clear hcz37_1
        try clear hcz37_2
        try clear hcz37_3
        try clear hcz37_4
        try clear hcz37_5
        try clear hcz37_6
        try clear hcz37_7
        try clear hcz39_0
        try clear hcz39_1
        try clear hcz39_2
        try clear hcz39_3
        try clear hcz39_4
        try clear hcz39_5
        try clear hcz39_6
        try clear hcz39_7
        try clear hcz40_0
        try clear hcz40_1
        try clear hcz40_2
        try clear hcz40_3
        try clear hcz40_4
        try clear hcz40_5
        try clear hcz40_6
        try clear hcz40_7
        try clear hcz45_0
        try clear hcz45_1
        try clear hcz45_2
        try clear hcz45_3
        try clear hcz45_4
        try clear hcz45_5
        try clear hcz45_6
        try clear hcz45_7
        try clear hcz47_0
        try clear hcz47_1
        try clear hcz47_2
        try clear hcz47_3
        try clear hcz47_4
        try clear hcz47_5
        try clear hcz47_6
        try clear hcz47_7
        try clear hcz49_0
        try clear hcz49_1
        try clear hcz49_2
        try clear hcz49_3
        try clear hcz49_4
        try clear hcz49_5
        try clear hcz49_6
        try clear hcz49_7
        try clear hcz51_0
        try clear hcz51_1
        try clear hcz51_2
        try clear hcz51_3
        try clear hcz51_4
        try clear hcz51_5
        try clear hcz51_6
        try clear hcz51_7
        try clear hcz52_0
        try clear hcz52_1
        try clear hcz52_2
        try clear hcz52_3
        try clear hcz52_4
        try clear hcz52_5
        try clear hcz52_6
        try clear hcz52_7
        try clear hcz54_0
        try clear hcz54_1
        try clear hcz54_2
        try clear hcz54_3
        try clear hcz54_4
        try clear hcz54_5
        try clear hcz54_6
        try clear hcz54_7
        try clear hcz55_0
        try clear hcz55_1
        try clear hcz55_2
        try clear hcz55_3
        try clear hcz55_4
        try clear hcz55_5
        try clear hcz55_6
        try clear hcz55_7
        try clear hcz57_0
        try clear hcz57_1
        try clear hcz57_2
        try clear hcz57_3
        try clear hcz57_4
        try clear hcz57_5
        try clear hcz57_6
        try clear hcz57_7
        try clear hcz58_0
        try clear hcz58_1
        try clear hcz58_2
        try clear hcz58_3
        try clear hcz58_4
        try clear hcz58_5
        try clear hcz58_6
        try clear hcz58_7
        try clear hcz64_0
        try clear hcz64_1
        try clear hcz64_2
        try clear hcz64_3
        try clear hcz64_4
        try clear hcz64_5
        try clear hcz64_6
        try clear hcz64_7
        try clear hcz66_0
        try clear hcz66_1
        try clear hcz66_2
        try clear hcz66_3
        try clear hcz66_4
        try clear hcz66_5
        try clear hcz66_6
        try clear hcz66_7
        try clear hcz68_0
        try clear hcz68_1
        try clear hcz68_2
        try clear hcz68_3
        try clear hcz68_4
        try clear hcz68_5
        try clear hcz68_6
        try clear hcz68_7
        try clear hcz70_0
        try clear hcz70_1
        try clear hcz70_2
        try clear hcz70_3
        try clear hcz70_4
        try clear hcz70_5
        try clear hcz70_6
        try clear hcz70_7
        try clear hcz71_0
        try clear hcz71_1
        try clear hcz71_2
        try clear hcz71_3
        try clear hcz71_4
        try clear hcz71_5
        try clear hcz71_6
        try clear hcz71_7
        try clear hcz76_0
        try clear hcz76_1
        try clear hcz76_2
        try clear hcz76_3
        try clear hcz76_4
        try clear hcz76_5
        try clear hcz76_6
        try clear hcz76_7
        try clear hcz78_0
        try clear hcz78_1
        try clear hcz78_2
        try clear hcz78_3
        try clear hcz78_4
        try clear hcz78_5
        try clear hcz78_6
        try clear hcz78_7
        try clear hcz80_0
        try clear hcz80_1
        try clear hcz80_2
        try clear hcz80_3
        try clear hcz80_4
        try clear hcz80_5
        try clear hcz80_6
        try clear hcz80_7
        try clear hcz82_0
        try clear hcz82_1
        try clear hcz82_2
        try clear hcz82_3
        try clear hcz82_4
        try clear hcz82_5
        try clear hcz82_6
        try clear hcz82_7
        try clear hcz83_0
        try clear hcz83_1
        try clear hcz83_2
        try clear hcz83_3
        try clear hcz83_4
        try clear hcz83_5
        try clear hcz83_6
        try clear hcz83_7
        try clear hcz85_0
        try clear hcz85_1
        try clear hcz85_2
        try clear hcz85_3
        try clear hcz85_4
        try clear hcz85_5
        try clear hcz85_6
        try clear hcz85_7
        try clear hcz86_0
        try clear hcz86_1
        try clear hcz86_2
        try clear hcz86_3
        try clear hcz86_4
        try clear hcz86_5
        try clear hcz86_6
        try clear hcz86_7
        try clear hfz11_0
        try clear hfz11_1
        try clear hfz11_2
        try clear hfz11_3
        try clear hfz11_4
        try clear hfz11_5
        try clear hfz11_6
        try clear hfz11_7
        try clear hfz13_0
        try clear hfz13_1
        try clear hfz13_2
        try clear hfz13_3
        try clear hfz13_4
        try clear hfz13_5
        try clear hfz13_6
        try clear hfz13_7
        try clear hfz16_0
        try clear hfz16_1
        try clear hfz16_2
        try clear hfz16_3
        try clear hfz16_4
        try clear hfz16_5
        try clear hfz16_6
        try clear hfz16_7
        try clear hfz18_0
        try clear hfz18_1
        try clear hfz18_2
        try clear hfz18_3
        try clear hfz18_4
        try clear hfz18_5
        try clear hfz18_6
        try clear hfz18_7
        try clear hfz30_0
        try clear hfz30_1
        try clear hfz30_2
        try clear hfz30_3
        try clear hfz30_4
        try clear hfz30_5
        try clear hfz30_6
        try clear hfz30_7
        try clear hfz32_0
        try clear hfz32_1
        try clear hfz32_2
        try clear hfz32_3
        try clear hfz32_4
        try clear hfz32_5
        try clear hfz32_6
        try clear hfz32_7
        try clear hfz34_0
        try clear hfz34_1
        try clear hfz34_2
        try clear hfz34_3
        try clear hfz34_4
        try clear hfz34_5
        try clear hfz34_6
        try clear hfz34_7
        try clear hfz36_0
        try clear hfz36_1
        try clear hfz36_2
        try clear hfz36_3
        try clear hfz36_4
        try clear hfz36_5
        try clear hfz36_6
        try clear hfz36_7
        try clear hfz37_0
        try clear hfz37_1
        try clear hfz37_2
        try clear hfz37_3
        try clear hfz37_4
        try clear hfz37_5
        try clear hfz37_6
        try clear hfz37_7
        try clear hfz39_0
        try clear hfz39_1
        try clear hfz39_2
        try clear hfz39_3
        try clear hfz39_4
        try clear hfz39_5
        try clear hfz39_6
        try clear hfz39_7
        try clear hfz40_0
        try clear hfz40_1
        try clear hfz40_2
        try clear hfz40_3
        try clear hfz40_4
        try clear hfz40_5
        try clear hfz40_6
        try clear hfz40_7
        try clear hfz45_0
        try clear hfz45_1
        try clear hfz45_2
        try clear hfz45_3
        try clear hfz45_4
        try clear hfz45_5
        try clear hfz45_6
        try clear hfz45_7
        try clear hfz47_0
        try clear hfz47_1
        try clear hfz47_2
        try clear hfz47_3
        try clear hfz47_4
        try clear hfz47_5
        try clear hfz47_6
        try clear hfz47_7
        try clear hfz49_0
        try clear hfz49_1
        try clear hfz49_2
        try clear hfz49_3
        try clear hfz49_4
        try clear hfz49_5
        try clear hfz49_6
        try clear hfz49_7
        try clear hfz51_0
        try clear hfz51_1
        try clear hfz51_2
        try clear hfz51_3
        try clear hfz51_4
        try clear hfz51_5
        try clear hfz51_6
        try clear hfz51_7
        try clear hfz52_0
        try clear hfz52_1
        try clear hfz52_2
        try clear hfz52_3
        try clear hfz52_4
        try clear hfz52_5
        try clear hfz52_6
        try clear hfz52_7
        try clear hfz54_0
        try clear hfz54_1
        try clear hfz54_2
        try clear hfz54_3
        try clear hfz54_4
        try clear hfz54_5
        try clear hfz54_6
        try clear hfz54_7
        try clear hfz55_0
        try clear hfz55_1
        try clear hfz55_2
        try clear hfz55_3
        try clear hfz55_4
        try clear hfz55_5
        try clear hfz55_6
        try clear hfz55_7
        try clear hfz57_0
        try clear hfz57_1
        try clear hfz57_2
        try clear hfz57_3
        try clear hfz57_4
        try clear hfz57_5
        try clear hfz57_6
        try clear hfz57_7
        try clear hfz58_0
        try clear hfz58_1
        try clear hfz58_2
        try clear hfz58_3
        try clear hfz58_4
        try clear hfz58_5
        try clear hfz58_6
        try clear hfz58_7
        try clear hfz64_0
        try clear hfz64_1
        try clear hfz64_2
        try clear hfz64_3
        try clear hfz64_4
        try clear hfz64_5
        try clear hfz64_6
        try clear hfz64_7
        try clear hfz66_0
        try clear hfz66_1
        try clear hfz66_2
        try clear hfz66_3
        try clear hfz66_4
        try clear hfz66_5
        try clear hfz66_6
        try clear hfz66_7
        try clear hfz68_0
        try clear hfz68_1
        try clear hfz68_2
        try clear hfz68_3
        try clear hfz68_4
        try clear hfz68_5
        try clear hfz68_6
        try clear hfz68_7
        try clear hfz70_0
        try clear hfz70_1
        try clear hfz70_2
        try clear hfz70_3
        try clear hfz70_4
        try clear hfz70_5
        try clear hfz70_6
        try clear hfz70_7
        try clear hfz71_0
        try clear hfz71_1
        try clear hfz71_2
        try clear hfz71_3
        try clear hfz71_4
        try clear hfz71_5
        try clear hfz71_6
        try clear hfz71_7
        try clear hfz76_0
        try clear hfz76_1
        try clear hfz76_2
        try clear hfz76_3
        try clear hfz76_4
        try clear hfz76_5
        try clear hfz76_6
        try clear hfz76_7
        try clear hfz78_0
        try clear hfz78_1
        try clear hfz78_2
        try clear hfz78_3
        try clear hfz78_4
        try clear hfz78_5
        try clear hfz78_6
        try clear hfz78_7
        try clear hfz80_0
        try clear hfz80_1
        try clear hfz80_2
        try clear hfz80_3
        try clear hfz80_4
        try clear hfz80_5
        try clear hfz80_6
        try clear hfz80_7
        try clear hfz82_0
        try clear hfz82_1
        try clear hfz82_2
        try clear hfz82_3
        try clear hfz82_4
        try clear hfz82_5
        try clear hfz82_6
        try clear hfz82_7
        try clear hfz83_0
        try clear hfz83_1
        try clear hfz83_2
        try clear hfz83_3
        try clear hfz83_4
        try clear hfz83_5
        try clear hfz83_6
        try clear hfz83_7
        try clear hfz85_0
        try clear hfz85_1
        try clear hfz85_2
        try clear hfz85_3
        try clear hfz85_4
        try clear hfz85_5
        try clear hfz85_6
        try clear hfz85_7
        try clear hfz86_0
        try clear hfz86_1
        try clear hfz86_2
        try clear hfz86_3
        try clear hfz86_4
        try clear hfz86_5
        try clear hfz86_6
        try clear hfz86_7
        try clear p2
        obtain ⟨kq, x44_18, rfl, HA, HJ18, BK219, BK220, BK221, HB⟩ := hcut
        cases kq with
        | zero => exact absurd HA.out (by simp [winnowlaw03_SpanTotal.j1])
        | succ kj18 =>
          have H := HA.out
          clear HA
          simp only [winnowlaw03_SpanTotal.j1] at H
          by_cases c88 : x44_18 = true
          · subst c88
            have H1 : (some false) = some r := by rw [if_pos rfl] at H; exact H
            clear H
            have H := H1
            clear H1
            exact absurd ((Option.some.inj H).trans HRT_.out) (by decide)
          · replace c88 := Bool.eq_false_iff.mpr c88
            subst c88
            have H1 : ((span_Less.f kj18 a0_0 a0_1 a0_2 a0_3 a0_4 a0_5 a0_6 a0_7 a1_0 a1_1 a1_2 a1_3 a1_4 a1_5 a1_6 a1_7).bind fun t229 => (if t229 = true then ((span_Less.f kj18 a1_0 a1_1 a1_2 a1_3 a1_4 a1_5 a1_6 a1_7 a2_0 a2_1 a2_2 a2_3 a2_4 a2_5 a2_6 a2_7).bind fun t230 => (if t230 = true then ((span_Less.f kj18 a0_0 a0_1 a0_2 a0_3 a0_4 a0_5 a0_6 a0_7 a2_0 a2_1 a2_2 a2_3 a2_4 a2_5 a2_6 a2_7).bind fun t231 => (if t231 = true then ((winnowlaw03_alive.f).bind fun t232 => (some t232)) else (some false))) else ((winnowlaw03_alive.f).bind fun t233 => (some t233)))) else ((winnowlaw03_alive.f).bind fun t234 => (some t234)))) = some r := by rw [if_neg (show ¬ (false = true) by decide)] at H; exact H
            clear H
            have H := H1
            clear H1
            replace H := Option.bind_eq_some_iff.mp H
            obtain ⟨t229, A890, H⟩ := H
            replace H : (if t229 = true then ((span_Less.f kj18 a1_0 a1_1 a1_2 a1_3 a1_4 a1_5 a1_6 a1_7 a2_0 a2_1 a2_2 a2_3 a2_4 a2_5 a2_6 a2_7).bind fun t230 => (if t230 = true then ((span_Less.f kj18 a0_0 a0_1 a0_2 a0_3 a0_4 a0_5 a0_6 a0_7 a2_0 a2_1 a2_2 a2_3 a2_4 a2_5 a2_6 a2_7).bind fun t231 => (if t231 = true then ((winnowlaw03_alive.f).bind fun t232 => (some t232)) else (some false))) else ((winnowlaw03_alive.f).bind fun t233 => (some t233)))) else ((winnowlaw03_alive.f).bind fun t234 => (some t234))) = some r := H
            have A89 := Aside0.mk A890
            clear A890
            by_cases c90 : t229 = true
            · subst c90
              have H1 : ((span_Less.f kj18 a1_0 a1_1 a1_2 a1_3 a1_4 a1_5 a1_6 a1_7 a2_0 a2_1 a2_2 a2_3 a2_4 a2_5 a2_6 a2_7).bind fun t230 => (if t230 = true then ((span_Less.f kj18 a0_0 a0_1 a0_2 a0_3 a0_4 a0_5 a0_6 a0_7 a2_0 a2_1 a2_2 a2_3 a2_4 a2_5 a2_6 a2_7).bind fun t231 => (if t231 = true then ((winnowlaw03_alive.f).bind fun t232 => (some t232)) else (some false))) else ((winnowlaw03_alive.f).bind fun t233 => (some t233)))) = some r := by rw [if_pos rfl] at H; exact H
              clear H
              have H := H1
              clear H1
              replace H := Option.bind_eq_some_iff.mp H
              obtain ⟨t230, A910, H⟩ := H
              replace H : (if t230 = true then ((span_Less.f kj18 a0_0 a0_1 a0_2 a0_3 a0_4 a0_5 a0_6 a0_7 a2_0 a2_1 a2_2 a2_3 a2_4 a2_5 a2_6 a2_7).bind fun t231 => (if t231 = true then ((winnowlaw03_alive.f).bind fun t232 => (some t232)) else (some false))) else ((winnowlaw03_alive.f).bind fun t233 => (some t233))) = some r := H
              have A91 := Aside0.mk A910
              clear A910
              by_cases c92 : t230 = true
              · subst c92
                have H1 : ((span_Less.f kj18 a0_0 a0_1 a0_2 a0_3 a0_4 a0_5 a0_6 a0_7 a2_0 a2_1 a2_2 a2_3 a2_4 a2_5 a2_6 a2_7).bind fun t231 => (if t231 = true then ((winnowlaw03_alive.f).bind fun t232 => (some t232)) else (some false))) = some r := by rw [if_pos rfl] at H; exact H
                clear H
                have H := H1
                clear H1
                replace H := Option.bind_eq_some_iff.mp H
                obtain ⟨t231, A930, H⟩ := H
                replace H : (if t231 = true then ((winnowlaw03_alive.f).bind fun t232 => (some t232)) else (some false)) = some r := H
                have A93 := Aside0.mk A930
                clear A930
                by_cases c94 : t231 = true
                · subst c94
                  have H1 : ((winnowlaw03_alive.f).bind fun t232 => (some t232)) = some r := by rw [if_pos rfl] at H; exact H
                  clear H
                  have H := H1
                  clear H1
                  replace H := Option.bind_eq_some_iff.mp H
                  obtain ⟨t232, A950, H⟩ := H
                  replace H : (some t232) = some r := H
                  have A95 := Aside0.mk A950
                  clear A950
                  obtain rfl := Option.some.inj H
                  have hnb96 := NB219_220.out
                  have hnc96 := NB220_219.out
                  have hnb97 := NB219_221.out
                  have hnc97 := NB221_219.out
                  have hcz98_0 : wc.cell? ⟨gb219, 0, none⟩ = some (.int .u64 a0_0) := (blk_cell BK219.out 0).trans rfl
                  have hcz98_1 : wc.cell? ⟨gb219, 1, none⟩ = some (.int .u64 a0_1) := (blk_cell BK219.out 1).trans rfl
                  have hcz98_2 : wc.cell? ⟨gb219, 2, none⟩ = some (.int .u64 a0_2) := (blk_cell BK219.out 2).trans rfl
                  have hcz98_3 : wc.cell? ⟨gb219, 3, none⟩ = some (.int .u64 a0_3) := (blk_cell BK219.out 3).trans rfl
                  have hcz98_4 : wc.cell? ⟨gb219, 4, none⟩ = some (.int .u64 a0_4) := (blk_cell BK219.out 4).trans rfl
                  have hcz98_5 : wc.cell? ⟨gb219, 5, none⟩ = some (.string a0_5) := (blk_cell BK219.out 5).trans rfl
                  have hcz98_6 : wc.cell? ⟨gb219, 6, none⟩ = some (.string a0_6) := (blk_cell BK219.out 6).trans rfl
                  have hcz98_7 : wc.cell? ⟨gb219, 7, none⟩ = some (.bool a0_7) := (blk_cell BK219.out 7).trans rfl
                  have hfz98_0 := blk_frozen BK219.out 0
                  have hfz98_1 := blk_frozen BK219.out 1
                  have hfz98_2 := blk_frozen BK219.out 2
                  have hfz98_3 := blk_frozen BK219.out 3
                  have hfz98_4 := blk_frozen BK219.out 4
                  have hfz98_5 := blk_frozen BK219.out 5
                  have hfz98_6 := blk_frozen BK219.out 6
                  have hfz98_7 := blk_frozen BK219.out 7
                  have hnb99 := NB220_221.out
                  have hnc99 := NB221_220.out
                  have hcz100_0 : wc.cell? ⟨gb220, 0, none⟩ = some (.int .u64 a1_0) := (blk_cell BK220.out 0).trans rfl
                  have hcz100_1 : wc.cell? ⟨gb220, 1, none⟩ = some (.int .u64 a1_1) := (blk_cell BK220.out 1).trans rfl
                  have hcz100_2 : wc.cell? ⟨gb220, 2, none⟩ = some (.int .u64 a1_2) := (blk_cell BK220.out 2).trans rfl
                  have hcz100_3 : wc.cell? ⟨gb220, 3, none⟩ = some (.int .u64 a1_3) := (blk_cell BK220.out 3).trans rfl
                  have hcz100_4 : wc.cell? ⟨gb220, 4, none⟩ = some (.int .u64 a1_4) := (blk_cell BK220.out 4).trans rfl
                  have hcz100_5 : wc.cell? ⟨gb220, 5, none⟩ = some (.string a1_5) := (blk_cell BK220.out 5).trans rfl
                  have hcz100_6 : wc.cell? ⟨gb220, 6, none⟩ = some (.string a1_6) := (blk_cell BK220.out 6).trans rfl
                  have hcz100_7 : wc.cell? ⟨gb220, 7, none⟩ = some (.bool a1_7) := (blk_cell BK220.out 7).trans rfl
                  have hfz100_0 := blk_frozen BK220.out 0
                  have hfz100_1 := blk_frozen BK220.out 1
                  have hfz100_2 := blk_frozen BK220.out 2
                  have hfz100_3 := blk_frozen BK220.out 3
                  have hfz100_4 := blk_frozen BK220.out 4
                  have hfz100_5 := blk_frozen BK220.out 5
                  have hfz100_6 := blk_frozen BK220.out 6
                  have hfz100_7 := blk_frozen BK220.out 7
                  go_wp2_with (first | ((with_reducible refine gate_callee (f := 20) rfl ?_); refine goesL_ (some 47) rfl rfl Try.func20 (by kernel_rfl) rfl #[.agg #[.int .u64 a0_0, .int .u64 a0_1, .int .u64 a0_2, .int .u64 a0_3, .int .u64 a0_4, .string a0_5, .string a0_6, .bool a0_7], .agg #[.int .u64 a1_0, .int .u64 a1_1, .int .u64 a1_2, .int .u64 a1_3, .int .u64 a1_4, .string a1_5, .string a1_6, .bool a1_7]] rfl (by (try simp only [List.map_toArray, List.map_cons, List.map_nil]); first | done | rfl | (simp only [List.length_drop, List.length_take]; rfl)) ?_; (with_reducible refine (span_Less.calls kj18 a0_0 a0_1 a0_2 a0_3 a0_4 a0_5 a0_6 a0_7 a1_0 a1_1 a1_2 a1_3 a1_4 a1_5 a1_6 a1_7 true _ A89.out).mono ?_); rintro e w101 ⟨rfl, hb⟩; refine ⟨_, rfl, ?_⟩; have n0_ := Aside0.mk (blk_below (g := gb219) (o := .cells #[.int .u64 a0_0, .int .u64 a0_1, .int .u64 a0_2, .int .u64 a0_3, .int .u64 a0_4, .string a0_5, .string a0_6, .bool a0_7] 28 (0, 0)) (by (with_reducible repeat (first | refine blk_drewN ?_ _ | refine blk_drew ?_ | refine blk_alloc ?_ _)); exact BK219.out) hb); have n1_ := Aside0.mk (blk_below (g := gb220) (o := .cells #[.int .u64 a1_0, .int .u64 a1_1, .int .u64 a1_2, .int .u64 a1_3, .int .u64 a1_4, .string a1_5, .string a1_6, .bool a1_7] 28 (0, 0)) (by (with_reducible repeat (first | refine blk_drewN ?_ _ | refine blk_drew ?_ | refine blk_alloc ?_ _)); exact BK220.out) hb); have n2_ := Aside0.mk (blk_below (g := gb221) (o := .cells #[.int .u64 a2_0, .int .u64 a2_1, .int .u64 a2_2, .int .u64 a2_3, .int .u64 a2_4, .string a2_5, .string a2_6, .bool a2_7] 28 (0, 0)) (by (with_reducible repeat (first | refine blk_drewN ?_ _ | refine blk_drew ?_ | refine blk_alloc ?_ _)); exact BK221.out) hb); have n3_ := Aside0.mk (below_step (by repeat (first | (with_reducible first | exact HB.out | apply below_alloc | apply pw_below_drewN | apply below_drew1 | refine below_set ?_ GE219.out | refine below_set ?_ GE220.out | refine below_set ?_ GE221.out) | exact HB.out)) hb); clear BK219; clear BK220; clear BK221; clear HB; have BK219 := n0_; have BK220 := n1_; have BK221 := n2_; have HB := n3_; clear n0_ n1_ n2_ n3_; (try clear hb); (try clear hb2); (try clear hk); (try clear hi); have hcz102_0 : w101.cell? ⟨gb220, 0, none⟩ = some (.int .u64 a1_0) := (blk_cell BK220.out 0).trans rfl; have hcz102_1 : w101.cell? ⟨gb220, 1, none⟩ = some (.int .u64 a1_1) := (blk_cell BK220.out 1).trans rfl; have hcz102_2 : w101.cell? ⟨gb220, 2, none⟩ = some (.int .u64 a1_2) := (blk_cell BK220.out 2).trans rfl; have hcz102_3 : w101.cell? ⟨gb220, 3, none⟩ = some (.int .u64 a1_3) := (blk_cell BK220.out 3).trans rfl; have hcz102_4 : w101.cell? ⟨gb220, 4, none⟩ = some (.int .u64 a1_4) := (blk_cell BK220.out 4).trans rfl; have hcz102_5 : w101.cell? ⟨gb220, 5, none⟩ = some (.string a1_5) := (blk_cell BK220.out 5).trans rfl; have hcz102_6 : w101.cell? ⟨gb220, 6, none⟩ = some (.string a1_6) := (blk_cell BK220.out 6).trans rfl; have hcz102_7 : w101.cell? ⟨gb220, 7, none⟩ = some (.bool a1_7) := (blk_cell BK220.out 7).trans rfl; have hfz102_0 := blk_frozen BK220.out 0; have hfz102_1 := blk_frozen BK220.out 1; have hfz102_2 := blk_frozen BK220.out 2; have hfz102_3 := blk_frozen BK220.out 3; have hfz102_4 := blk_frozen BK220.out 4; have hfz102_5 := blk_frozen BK220.out 5; have hfz102_6 := blk_frozen BK220.out 6; have hfz102_7 := blk_frozen BK220.out 7; have hcz103_0 : w101.cell? ⟨gb221, 0, none⟩ = some (.int .u64 a2_0) := (blk_cell BK221.out 0).trans rfl; have hcz103_1 : w101.cell? ⟨gb221, 1, none⟩ = some (.int .u64 a2_1) := (blk_cell BK221.out 1).trans rfl; have hcz103_2 : w101.cell? ⟨gb221, 2, none⟩ = some (.int .u64 a2_2) := (blk_cell BK221.out 2).trans rfl; have hcz103_3 : w101.cell? ⟨gb221, 3, none⟩ = some (.int .u64 a2_3) := (blk_cell BK221.out 3).trans rfl; have hcz103_4 : w101.cell? ⟨gb221, 4, none⟩ = some (.int .u64 a2_4) := (blk_cell BK221.out 4).trans rfl; have hcz103_5 : w101.cell? ⟨gb221, 5, none⟩ = some (.string a2_5) := (blk_cell BK221.out 5).trans rfl; have hcz103_6 : w101.cell? ⟨gb221, 6, none⟩ = some (.string a2_6) := (blk_cell BK221.out 6).trans rfl; have hcz103_7 : w101.cell? ⟨gb221, 7, none⟩ = some (.bool a2_7) := (blk_cell BK221.out 7).trans rfl; have hfz103_0 := blk_frozen BK221.out 0; have hfz103_1 := blk_frozen BK221.out 1; have hfz103_2 := blk_frozen BK221.out 2; have hfz103_3 := blk_frozen BK221.out 3; have hfz103_4 := blk_frozen BK221.out 4; have hfz103_5 := blk_frozen BK221.out 5; have hfz103_6 := blk_frozen BK221.out 6; have hfz103_7 := blk_frozen BK221.out 7) | (go_at_call 20; (with_reducible refine (span_Less.calls kj18 a1_0 a1_1 a1_2 a1_3 a1_4 a1_5 a1_6 a1_7 a2_0 a2_1 a2_2 a2_3 a2_4 a2_5 a2_6 a2_7 true _ A91.out).mono ?_); rintro e w104 ⟨rfl, hb⟩; have n0_ := Aside0.mk (blk_below (g := gb219) (o := .cells #[.int .u64 a0_0, .int .u64 a0_1, .int .u64 a0_2, .int .u64 a0_3, .int .u64 a0_4, .string a0_5, .string a0_6, .bool a0_7] 28 (0, 0)) (by (with_reducible repeat (first | refine blk_drewN ?_ _ | refine blk_drew ?_ | refine blk_alloc ?_ _)); exact BK219.out) hb); have n1_ := Aside0.mk (blk_below (g := gb220) (o := .cells #[.int .u64 a1_0, .int .u64 a1_1, .int .u64 a1_2, .int .u64 a1_3, .int .u64 a1_4, .string a1_5, .string a1_6, .bool a1_7] 28 (0, 0)) (by (with_reducible repeat (first | refine blk_drewN ?_ _ | refine blk_drew ?_ | refine blk_alloc ?_ _)); exact BK220.out) hb); have n2_ := Aside0.mk (blk_below (g := gb221) (o := .cells #[.int .u64 a2_0, .int .u64 a2_1, .int .u64 a2_2, .int .u64 a2_3, .int .u64 a2_4, .string a2_5, .string a2_6, .bool a2_7] 28 (0, 0)) (by (with_reducible repeat (first | refine blk_drewN ?_ _ | refine blk_drew ?_ | refine blk_alloc ?_ _)); exact BK221.out) hb); have n3_ := Aside0.mk (below_step (by repeat (first | (with_reducible first | exact HB.out | apply below_alloc | apply pw_below_drewN | apply below_drew1 | refine below_set ?_ GE219.out | refine below_set ?_ GE220.out | refine below_set ?_ GE221.out) | exact HB.out)) hb); clear BK219; clear BK220; clear BK221; clear HB; have BK219 := n0_; have BK220 := n1_; have BK221 := n2_; have HB := n3_; clear n0_ n1_ n2_ n3_; (try clear hb); (try clear hb2); (try clear hk); (try clear hi); have hcz105_0 : w104.cell? ⟨gb219, 0, none⟩ = some (.int .u64 a0_0) := (blk_cell BK219.out 0).trans rfl; have hcz105_1 : w104.cell? ⟨gb219, 1, none⟩ = some (.int .u64 a0_1) := (blk_cell BK219.out 1).trans rfl; have hcz105_2 : w104.cell? ⟨gb219, 2, none⟩ = some (.int .u64 a0_2) := (blk_cell BK219.out 2).trans rfl; have hcz105_3 : w104.cell? ⟨gb219, 3, none⟩ = some (.int .u64 a0_3) := (blk_cell BK219.out 3).trans rfl; have hcz105_4 : w104.cell? ⟨gb219, 4, none⟩ = some (.int .u64 a0_4) := (blk_cell BK219.out 4).trans rfl; have hcz105_5 : w104.cell? ⟨gb219, 5, none⟩ = some (.string a0_5) := (blk_cell BK219.out 5).trans rfl; have hcz105_6 : w104.cell? ⟨gb219, 6, none⟩ = some (.string a0_6) := (blk_cell BK219.out 6).trans rfl; have hcz105_7 : w104.cell? ⟨gb219, 7, none⟩ = some (.bool a0_7) := (blk_cell BK219.out 7).trans rfl; have hfz105_0 := blk_frozen BK219.out 0; have hfz105_1 := blk_frozen BK219.out 1; have hfz105_2 := blk_frozen BK219.out 2; have hfz105_3 := blk_frozen BK219.out 3; have hfz105_4 := blk_frozen BK219.out 4; have hfz105_5 := blk_frozen BK219.out 5; have hfz105_6 := blk_frozen BK219.out 6; have hfz105_7 := blk_frozen BK219.out 7; have hcz106_0 : w104.cell? ⟨gb221, 0, none⟩ = some (.int .u64 a2_0) := (blk_cell BK221.out 0).trans rfl; have hcz106_1 : w104.cell? ⟨gb221, 1, none⟩ = some (.int .u64 a2_1) := (blk_cell BK221.out 1).trans rfl; have hcz106_2 : w104.cell? ⟨gb221, 2, none⟩ = some (.int .u64 a2_2) := (blk_cell BK221.out 2).trans rfl; have hcz106_3 : w104.cell? ⟨gb221, 3, none⟩ = some (.int .u64 a2_3) := (blk_cell BK221.out 3).trans rfl; have hcz106_4 : w104.cell? ⟨gb221, 4, none⟩ = some (.int .u64 a2_4) := (blk_cell BK221.out 4).trans rfl; have hcz106_5 : w104.cell? ⟨gb221, 5, none⟩ = some (.string a2_5) := (blk_cell BK221.out 5).trans rfl; have hcz106_6 : w104.cell? ⟨gb221, 6, none⟩ = some (.string a2_6) := (blk_cell BK221.out 6).trans rfl; have hcz106_7 : w104.cell? ⟨gb221, 7, none⟩ = some (.bool a2_7) := (blk_cell BK221.out 7).trans rfl; have hfz106_0 := blk_frozen BK221.out 0; have hfz106_1 := blk_frozen BK221.out 1; have hfz106_2 := blk_frozen BK221.out 2; have hfz106_3 := blk_frozen BK221.out 3; have hfz106_4 := blk_frozen BK221.out 4; have hfz106_5 := blk_frozen BK221.out 5; have hfz106_6 := blk_frozen BK221.out 6; have hfz106_7 := blk_frozen BK221.out 7) | (go_at_call 20; (with_reducible refine (span_Less.calls kj18 a0_0 a0_1 a0_2 a0_3 a0_4 a0_5 a0_6 a0_7 a2_0 a2_1 a2_2 a2_3 a2_4 a2_5 a2_6 a2_7 true _ A93.out).mono ?_); rintro e w107 ⟨rfl, hb⟩; have n0_ := Aside0.mk (blk_below (g := gb219) (o := .cells #[.int .u64 a0_0, .int .u64 a0_1, .int .u64 a0_2, .int .u64 a0_3, .int .u64 a0_4, .string a0_5, .string a0_6, .bool a0_7] 28 (0, 0)) (by (with_reducible repeat (first | refine blk_drewN ?_ _ | refine blk_drew ?_ | refine blk_alloc ?_ _)); exact BK219.out) hb); have n1_ := Aside0.mk (blk_below (g := gb220) (o := .cells #[.int .u64 a1_0, .int .u64 a1_1, .int .u64 a1_2, .int .u64 a1_3, .int .u64 a1_4, .string a1_5, .string a1_6, .bool a1_7] 28 (0, 0)) (by (with_reducible repeat (first | refine blk_drewN ?_ _ | refine blk_drew ?_ | refine blk_alloc ?_ _)); exact BK220.out) hb); have n2_ := Aside0.mk (blk_below (g := gb221) (o := .cells #[.int .u64 a2_0, .int .u64 a2_1, .int .u64 a2_2, .int .u64 a2_3, .int .u64 a2_4, .string a2_5, .string a2_6, .bool a2_7] 28 (0, 0)) (by (with_reducible repeat (first | refine blk_drewN ?_ _ | refine blk_drew ?_ | refine blk_alloc ?_ _)); exact BK221.out) hb); have n3_ := Aside0.mk (below_step (by repeat (first | (with_reducible first | exact HB.out | apply below_alloc | apply pw_below_drewN | apply below_drew1 | refine below_set ?_ GE219.out | refine below_set ?_ GE220.out | refine below_set ?_ GE221.out) | exact HB.out)) hb); clear BK219; clear BK220; clear BK221; clear HB; have BK219 := n0_; have BK220 := n1_; have BK221 := n2_; have HB := n3_; clear n0_ n1_ n2_ n3_; (try clear hb); (try clear hb2); (try clear hk); (try clear hi)) | (go_at_call 14; (with_reducible refine (winnowlaw03_alive.calls  t232 _ A95.out).mono ?_); rintro e w108 ⟨rfl, hb⟩; have n0_ := Aside0.mk (blk_below (g := gb219) (o := .cells #[.int .u64 a0_0, .int .u64 a0_1, .int .u64 a0_2, .int .u64 a0_3, .int .u64 a0_4, .string a0_5, .string a0_6, .bool a0_7] 28 (0, 0)) (by (with_reducible repeat (first | refine blk_drewN ?_ _ | refine blk_drew ?_ | refine blk_alloc ?_ _)); exact BK219.out) hb); have n1_ := Aside0.mk (blk_below (g := gb220) (o := .cells #[.int .u64 a1_0, .int .u64 a1_1, .int .u64 a1_2, .int .u64 a1_3, .int .u64 a1_4, .string a1_5, .string a1_6, .bool a1_7] 28 (0, 0)) (by (with_reducible repeat (first | refine blk_drewN ?_ _ | refine blk_drew ?_ | refine blk_alloc ?_ _)); exact BK220.out) hb); have n2_ := Aside0.mk (blk_below (g := gb221) (o := .cells #[.int .u64 a2_0, .int .u64 a2_1, .int .u64 a2_2, .int .u64 a2_3, .int .u64 a2_4, .string a2_5, .string a2_6, .bool a2_7] 28 (0, 0)) (by (with_reducible repeat (first | refine blk_drewN ?_ _ | refine blk_drew ?_ | refine blk_alloc ?_ _)); exact BK221.out) hb); have n3_ := Aside0.mk (below_step (by repeat (first | (with_reducible first | exact HB.out | apply below_alloc | apply pw_below_drewN | apply below_drew1 | refine below_set ?_ GE219.out | refine below_set ?_ GE220.out | refine below_set ?_ GE221.out) | exact HB.out)) hb); clear BK219; clear BK220; clear BK221; clear HB; have BK219 := n0_; have BK220 := n1_; have BK221 := n2_; have HB := n3_; clear n0_ n1_ n2_ n3_; (try clear hb); (try clear hb2); (try clear hk); (try clear hi)))
                  go_ret
                  exact ⟨by first | rfl | (simp [errW_none, errW_some] <;> rfl) | (simp [*, errW_none, errW_some] <;> rfl), by repeat (first | (with_reducible first | exact HB.out | apply below_alloc | apply pw_below_drewN | apply below_drew1 | refine below_set ?_ GE219.out | refine below_set ?_ GE220.out | refine below_set ?_ GE221.out) | exact HB.out)⟩
                · replace c94 := Bool.eq_false_iff.mpr c94
                  subst c94
                  have H1 : (some false) = some r := by rw [if_neg (show ¬ (false = true) by decide)] at H; exact H
                  clear H
                  have H := H1
                  clear H1
                  exact absurd ((Option.some.inj H).trans HRT_.out) (by decide)
              · replace c92 := Bool.eq_false_iff.mpr c92
                subst c92
                have H1 : ((winnowlaw03_alive.f).bind fun t233 => (some t233)) = some r := by rw [if_neg (show ¬ (false = true) by decide)] at H; exact H
                clear H
                have H := H1
                clear H1
                replace H := Option.bind_eq_some_iff.mp H
                obtain ⟨t233, A1090, H⟩ := H
                replace H : (some t233) = some r := H
                have A109 := Aside0.mk A1090
                clear A1090
                obtain rfl := Option.some.inj H
                have hnb110 := NB219_220.out
                have hnc110 := NB220_219.out
                have hnb111 := NB219_221.out
                have hnc111 := NB221_219.out
                have hcz112_0 : wc.cell? ⟨gb219, 0, none⟩ = some (.int .u64 a0_0) := (blk_cell BK219.out 0).trans rfl
                have hcz112_1 : wc.cell? ⟨gb219, 1, none⟩ = some (.int .u64 a0_1) := (blk_cell BK219.out 1).trans rfl
                have hcz112_2 : wc.cell? ⟨gb219, 2, none⟩ = some (.int .u64 a0_2) := (blk_cell BK219.out 2).trans rfl
                have hcz112_3 : wc.cell? ⟨gb219, 3, none⟩ = some (.int .u64 a0_3) := (blk_cell BK219.out 3).trans rfl
                have hcz112_4 : wc.cell? ⟨gb219, 4, none⟩ = some (.int .u64 a0_4) := (blk_cell BK219.out 4).trans rfl
                have hcz112_5 : wc.cell? ⟨gb219, 5, none⟩ = some (.string a0_5) := (blk_cell BK219.out 5).trans rfl
                have hcz112_6 : wc.cell? ⟨gb219, 6, none⟩ = some (.string a0_6) := (blk_cell BK219.out 6).trans rfl
                have hcz112_7 : wc.cell? ⟨gb219, 7, none⟩ = some (.bool a0_7) := (blk_cell BK219.out 7).trans rfl
                have hfz112_0 := blk_frozen BK219.out 0
                have hfz112_1 := blk_frozen BK219.out 1
                have hfz112_2 := blk_frozen BK219.out 2
                have hfz112_3 := blk_frozen BK219.out 3
                have hfz112_4 := blk_frozen BK219.out 4
                have hfz112_5 := blk_frozen BK219.out 5
                have hfz112_6 := blk_frozen BK219.out 6
                have hfz112_7 := blk_frozen BK219.out 7
                have hnb113 := NB220_221.out
                have hnc113 := NB221_220.out
                have hcz114_0 : wc.cell? ⟨gb220, 0, none⟩ = some (.int .u64 a1_0) := (blk_cell BK220.out 0).trans rfl
                have hcz114_1 : wc.cell? ⟨gb220, 1, none⟩ = some (.int .u64 a1_1) := (blk_cell BK220.out 1).trans rfl
                have hcz114_2 : wc.cell? ⟨gb220, 2, none⟩ = some (.int .u64 a1_2) := (blk_cell BK220.out 2).trans rfl
                have hcz114_3 : wc.cell? ⟨gb220, 3, none⟩ = some (.int .u64 a1_3) := (blk_cell BK220.out 3).trans rfl
                have hcz114_4 : wc.cell? ⟨gb220, 4, none⟩ = some (.int .u64 a1_4) := (blk_cell BK220.out 4).trans rfl
                have hcz114_5 : wc.cell? ⟨gb220, 5, none⟩ = some (.string a1_5) := (blk_cell BK220.out 5).trans rfl
                have hcz114_6 : wc.cell? ⟨gb220, 6, none⟩ = some (.string a1_6) := (blk_cell BK220.out 6).trans rfl
                have hcz114_7 : wc.cell? ⟨gb220, 7, none⟩ = some (.bool a1_7) := (blk_cell BK220.out 7).trans rfl
                have hfz114_0 := blk_frozen BK220.out 0
                have hfz114_1 := blk_frozen BK220.out 1
                have hfz114_2 := blk_frozen BK220.out 2
                have hfz114_3 := blk_frozen BK220.out 3
                have hfz114_4 := blk_frozen BK220.out 4
                have hfz114_5 := blk_frozen BK220.out 5
                have hfz114_6 := blk_frozen BK220.out 6
                have hfz114_7 := blk_frozen BK220.out 7
                go_wp2_with (first | ((with_reducible refine gate_callee (f := 20) rfl ?_); refine goesL_ (some 47) rfl rfl Try.func20 (by kernel_rfl) rfl #[.agg #[.int .u64 a0_0, .int .u64 a0_1, .int .u64 a0_2, .int .u64 a0_3, .int .u64 a0_4, .string a0_5, .string a0_6, .bool a0_7], .agg #[.int .u64 a1_0, .int .u64 a1_1, .int .u64 a1_2, .int .u64 a1_3, .int .u64 a1_4, .string a1_5, .string a1_6, .bool a1_7]] rfl (by (try simp only [List.map_toArray, List.map_cons, List.map_nil]); first | done | rfl | (simp only [List.length_drop, List.length_take]; rfl)) ?_; (with_reducible refine (span_Less.calls kj18 a0_0 a0_1 a0_2 a0_3 a0_4 a0_5 a0_6 a0_7 a1_0 a1_1 a1_2 a1_3 a1_4 a1_5 a1_6 a1_7 true _ A89.out).mono ?_); rintro e w115 ⟨rfl, hb⟩; refine ⟨_, rfl, ?_⟩; have n0_ := Aside0.mk (blk_below (g := gb219) (o := .cells #[.int .u64 a0_0, .int .u64 a0_1, .int .u64 a0_2, .int .u64 a0_3, .int .u64 a0_4, .string a0_5, .string a0_6, .bool a0_7] 28 (0, 0)) (by (with_reducible repeat (first | refine blk_drewN ?_ _ | refine blk_drew ?_ | refine blk_alloc ?_ _)); exact BK219.out) hb); have n1_ := Aside0.mk (blk_below (g := gb220) (o := .cells #[.int .u64 a1_0, .int .u64 a1_1, .int .u64 a1_2, .int .u64 a1_3, .int .u64 a1_4, .string a1_5, .string a1_6, .bool a1_7] 28 (0, 0)) (by (with_reducible repeat (first | refine blk_drewN ?_ _ | refine blk_drew ?_ | refine blk_alloc ?_ _)); exact BK220.out) hb); have n2_ := Aside0.mk (blk_below (g := gb221) (o := .cells #[.int .u64 a2_0, .int .u64 a2_1, .int .u64 a2_2, .int .u64 a2_3, .int .u64 a2_4, .string a2_5, .string a2_6, .bool a2_7] 28 (0, 0)) (by (with_reducible repeat (first | refine blk_drewN ?_ _ | refine blk_drew ?_ | refine blk_alloc ?_ _)); exact BK221.out) hb); have n3_ := Aside0.mk (below_step (by repeat (first | (with_reducible first | exact HB.out | apply below_alloc | apply pw_below_drewN | apply below_drew1 | refine below_set ?_ GE219.out | refine below_set ?_ GE220.out | refine below_set ?_ GE221.out) | exact HB.out)) hb); clear BK219; clear BK220; clear BK221; clear HB; have BK219 := n0_; have BK220 := n1_; have BK221 := n2_; have HB := n3_; clear n0_ n1_ n2_ n3_; (try clear hb); (try clear hb2); (try clear hk); (try clear hi); have hcz116_0 : w115.cell? ⟨gb220, 0, none⟩ = some (.int .u64 a1_0) := (blk_cell BK220.out 0).trans rfl; have hcz116_1 : w115.cell? ⟨gb220, 1, none⟩ = some (.int .u64 a1_1) := (blk_cell BK220.out 1).trans rfl; have hcz116_2 : w115.cell? ⟨gb220, 2, none⟩ = some (.int .u64 a1_2) := (blk_cell BK220.out 2).trans rfl; have hcz116_3 : w115.cell? ⟨gb220, 3, none⟩ = some (.int .u64 a1_3) := (blk_cell BK220.out 3).trans rfl; have hcz116_4 : w115.cell? ⟨gb220, 4, none⟩ = some (.int .u64 a1_4) := (blk_cell BK220.out 4).trans rfl; have hcz116_5 : w115.cell? ⟨gb220, 5, none⟩ = some (.string a1_5) := (blk_cell BK220.out 5).trans rfl; have hcz116_6 : w115.cell? ⟨gb220, 6, none⟩ = some (.string a1_6) := (blk_cell BK220.out 6).trans rfl; have hcz116_7 : w115.cell? ⟨gb220, 7, none⟩ = some (.bool a1_7) := (blk_cell BK220.out 7).trans rfl; have hfz116_0 := blk_frozen BK220.out 0; have hfz116_1 := blk_frozen BK220.out 1; have hfz116_2 := blk_frozen BK220.out 2; have hfz116_3 := blk_frozen BK220.out 3; have hfz116_4 := blk_frozen BK220.out 4; have hfz116_5 := blk_frozen BK220.out 5; have hfz116_6 := blk_frozen BK220.out 6; have hfz116_7 := blk_frozen BK220.out 7; have hcz117_0 : w115.cell? ⟨gb221, 0, none⟩ = some (.int .u64 a2_0) := (blk_cell BK221.out 0).trans rfl; have hcz117_1 : w115.cell? ⟨gb221, 1, none⟩ = some (.int .u64 a2_1) := (blk_cell BK221.out 1).trans rfl; have hcz117_2 : w115.cell? ⟨gb221, 2, none⟩ = some (.int .u64 a2_2) := (blk_cell BK221.out 2).trans rfl; have hcz117_3 : w115.cell? ⟨gb221, 3, none⟩ = some (.int .u64 a2_3) := (blk_cell BK221.out 3).trans rfl; have hcz117_4 : w115.cell? ⟨gb221, 4, none⟩ = some (.int .u64 a2_4) := (blk_cell BK221.out 4).trans rfl; have hcz117_5 : w115.cell? ⟨gb221, 5, none⟩ = some (.string a2_5) := (blk_cell BK221.out 5).trans rfl; have hcz117_6 : w115.cell? ⟨gb221, 6, none⟩ = some (.string a2_6) := (blk_cell BK221.out 6).trans rfl; have hcz117_7 : w115.cell? ⟨gb221, 7, none⟩ = some (.bool a2_7) := (blk_cell BK221.out 7).trans rfl; have hfz117_0 := blk_frozen BK221.out 0; have hfz117_1 := blk_frozen BK221.out 1; have hfz117_2 := blk_frozen BK221.out 2; have hfz117_3 := blk_frozen BK221.out 3; have hfz117_4 := blk_frozen BK221.out 4; have hfz117_5 := blk_frozen BK221.out 5; have hfz117_6 := blk_frozen BK221.out 6; have hfz117_7 := blk_frozen BK221.out 7) | (go_at_call 20; (with_reducible refine (span_Less.calls kj18 a1_0 a1_1 a1_2 a1_3 a1_4 a1_5 a1_6 a1_7 a2_0 a2_1 a2_2 a2_3 a2_4 a2_5 a2_6 a2_7 false _ A91.out).mono ?_); rintro e w118 ⟨rfl, hb⟩; have n0_ := Aside0.mk (blk_below (g := gb219) (o := .cells #[.int .u64 a0_0, .int .u64 a0_1, .int .u64 a0_2, .int .u64 a0_3, .int .u64 a0_4, .string a0_5, .string a0_6, .bool a0_7] 28 (0, 0)) (by (with_reducible repeat (first | refine blk_drewN ?_ _ | refine blk_drew ?_ | refine blk_alloc ?_ _)); exact BK219.out) hb); have n1_ := Aside0.mk (blk_below (g := gb220) (o := .cells #[.int .u64 a1_0, .int .u64 a1_1, .int .u64 a1_2, .int .u64 a1_3, .int .u64 a1_4, .string a1_5, .string a1_6, .bool a1_7] 28 (0, 0)) (by (with_reducible repeat (first | refine blk_drewN ?_ _ | refine blk_drew ?_ | refine blk_alloc ?_ _)); exact BK220.out) hb); have n2_ := Aside0.mk (blk_below (g := gb221) (o := .cells #[.int .u64 a2_0, .int .u64 a2_1, .int .u64 a2_2, .int .u64 a2_3, .int .u64 a2_4, .string a2_5, .string a2_6, .bool a2_7] 28 (0, 0)) (by (with_reducible repeat (first | refine blk_drewN ?_ _ | refine blk_drew ?_ | refine blk_alloc ?_ _)); exact BK221.out) hb); have n3_ := Aside0.mk (below_step (by repeat (first | (with_reducible first | exact HB.out | apply below_alloc | apply pw_below_drewN | apply below_drew1 | refine below_set ?_ GE219.out | refine below_set ?_ GE220.out | refine below_set ?_ GE221.out) | exact HB.out)) hb); clear BK219; clear BK220; clear BK221; clear HB; have BK219 := n0_; have BK220 := n1_; have BK221 := n2_; have HB := n3_; clear n0_ n1_ n2_ n3_; (try clear hb); (try clear hb2); (try clear hk); (try clear hi)) | (go_at_call 14; (with_reducible refine (winnowlaw03_alive.calls  t233 _ A109.out).mono ?_); rintro e w119 ⟨rfl, hb⟩; have n0_ := Aside0.mk (blk_below (g := gb219) (o := .cells #[.int .u64 a0_0, .int .u64 a0_1, .int .u64 a0_2, .int .u64 a0_3, .int .u64 a0_4, .string a0_5, .string a0_6, .bool a0_7] 28 (0, 0)) (by (with_reducible repeat (first | refine blk_drewN ?_ _ | refine blk_drew ?_ | refine blk_alloc ?_ _)); exact BK219.out) hb); have n1_ := Aside0.mk (blk_below (g := gb220) (o := .cells #[.int .u64 a1_0, .int .u64 a1_1, .int .u64 a1_2, .int .u64 a1_3, .int .u64 a1_4, .string a1_5, .string a1_6, .bool a1_7] 28 (0, 0)) (by (with_reducible repeat (first | refine blk_drewN ?_ _ | refine blk_drew ?_ | refine blk_alloc ?_ _)); exact BK220.out) hb); have n2_ := Aside0.mk (blk_below (g := gb221) (o := .cells #[.int .u64 a2_0, .int .u64 a2_1, .int .u64 a2_2, .int .u64 a2_3, .int .u64 a2_4, .string a2_5, .string a2_6, .bool a2_7] 28 (0, 0)) (by (with_reducible repeat (first | refine blk_drewN ?_ _ | refine blk_drew ?_ | refine blk_alloc ?_ _)); exact BK221.out) hb); have n3_ := Aside0.mk (below_step (by repeat (first | (with_reducible first | exact HB.out | apply below_alloc | apply pw_below_drewN | apply below_drew1 | refine below_set ?_ GE219.out | refine below_set ?_ GE220.out | refine below_set ?_ GE221.out) | exact HB.out)) hb); clear BK219; clear BK220; clear BK221; clear HB; have BK219 := n0_; have BK220 := n1_; have BK221 := n2_; have HB := n3_; clear n0_ n1_ n2_ n3_; (try clear hb); (try clear hb2); (try clear hk); (try clear hi)))
                go_ret
                exact ⟨by first | rfl | (simp [errW_none, errW_some] <;> rfl) | (simp [*, errW_none, errW_some] <;> rfl), by repeat (first | (with_reducible first | exact HB.out | apply below_alloc | apply pw_below_drewN | apply below_drew1 | refine below_set ?_ GE219.out | refine below_set ?_ GE220.out | refine below_set ?_ GE221.out) | exact HB.out)⟩
            · replace c90 := Bool.eq_false_iff.mpr c90
              subst c90
              have H1 : ((winnowlaw03_alive.f).bind fun t234 => (some t234)) = some r := by rw [if_neg (show ¬ (false = true) by decide)] at H; exact H
              clear H
              have H := H1
              clear H1
              replace H := Option.bind_eq_some_iff.mp H
              obtain ⟨t234, A1200, H⟩ := H
              replace H : (some t234) = some r := H
              have A120 := Aside0.mk A1200
              clear A1200
              obtain rfl := Option.some.inj H
              have hnb121 := NB219_220.out
              have hnc121 := NB220_219.out
              have hnb122 := NB219_221.out
              have hnc122 := NB221_219.out
              have hcz123_0 : wc.cell? ⟨gb219, 0, none⟩ = some (.int .u64 a0_0) := (blk_cell BK219.out 0).trans rfl
              have hcz123_1 : wc.cell? ⟨gb219, 1, none⟩ = some (.int .u64 a0_1) := (blk_cell BK219.out 1).trans rfl
              have hcz123_2 : wc.cell? ⟨gb219, 2, none⟩ = some (.int .u64 a0_2) := (blk_cell BK219.out 2).trans rfl
              have hcz123_3 : wc.cell? ⟨gb219, 3, none⟩ = some (.int .u64 a0_3) := (blk_cell BK219.out 3).trans rfl
              have hcz123_4 : wc.cell? ⟨gb219, 4, none⟩ = some (.int .u64 a0_4) := (blk_cell BK219.out 4).trans rfl
              have hcz123_5 : wc.cell? ⟨gb219, 5, none⟩ = some (.string a0_5) := (blk_cell BK219.out 5).trans rfl
              have hcz123_6 : wc.cell? ⟨gb219, 6, none⟩ = some (.string a0_6) := (blk_cell BK219.out 6).trans rfl
              have hcz123_7 : wc.cell? ⟨gb219, 7, none⟩ = some (.bool a0_7) := (blk_cell BK219.out 7).trans rfl
              have hfz123_0 := blk_frozen BK219.out 0
              have hfz123_1 := blk_frozen BK219.out 1
              have hfz123_2 := blk_frozen BK219.out 2
              have hfz123_3 := blk_frozen BK219.out 3
              have hfz123_4 := blk_frozen BK219.out 4
              have hfz123_5 := blk_frozen BK219.out 5
              have hfz123_6 := blk_frozen BK219.out 6
              have hfz123_7 := blk_frozen BK219.out 7
              have hnb124 := NB220_221.out
              have hnc124 := NB221_220.out
              have hcz125_0 : wc.cell? ⟨gb220, 0, none⟩ = some (.int .u64 a1_0) := (blk_cell BK220.out 0).trans rfl
              have hcz125_1 : wc.cell? ⟨gb220, 1, none⟩ = some (.int .u64 a1_1) := (blk_cell BK220.out 1).trans rfl
              have hcz125_2 : wc.cell? ⟨gb220, 2, none⟩ = some (.int .u64 a1_2) := (blk_cell BK220.out 2).trans rfl
              have hcz125_3 : wc.cell? ⟨gb220, 3, none⟩ = some (.int .u64 a1_3) := (blk_cell BK220.out 3).trans rfl
              have hcz125_4 : wc.cell? ⟨gb220, 4, none⟩ = some (.int .u64 a1_4) := (blk_cell BK220.out 4).trans rfl
              have hcz125_5 : wc.cell? ⟨gb220, 5, none⟩ = some (.string a1_5) := (blk_cell BK220.out 5).trans rfl
              have hcz125_6 : wc.cell? ⟨gb220, 6, none⟩ = some (.string a1_6) := (blk_cell BK220.out 6).trans rfl
              have hcz125_7 : wc.cell? ⟨gb220, 7, none⟩ = some (.bool a1_7) := (blk_cell BK220.out 7).trans rfl
              have hfz125_0 := blk_frozen BK220.out 0
              have hfz125_1 := blk_frozen BK220.out 1
              have hfz125_2 := blk_frozen BK220.out 2
              have hfz125_3 := blk_frozen BK220.out 3
              have hfz125_4 := blk_frozen BK220.out 4
              have hfz125_5 := blk_frozen BK220.out 5
              have hfz125_6 := blk_frozen BK220.out 6
              have hfz125_7 := blk_frozen BK220.out 7
              go_wp2_with (first | ((with_reducible refine gate_callee (f := 20) rfl ?_); refine goesL_ (some 47) rfl rfl Try.func20 (by kernel_rfl) rfl #[.agg #[.int .u64 a0_0, .int .u64 a0_1, .int .u64 a0_2, .int .u64 a0_3, .int .u64 a0_4, .string a0_5, .string a0_6, .bool a0_7], .agg #[.int .u64 a1_0, .int .u64 a1_1, .int .u64 a1_2, .int .u64 a1_3, .int .u64 a1_4, .string a1_5, .string a1_6, .bool a1_7]] rfl (by (try simp only [List.map_toArray, List.map_cons, List.map_nil]); first | done | rfl | (simp only [List.length_drop, List.length_take]; rfl)) ?_; (with_reducible refine (span_Less.calls kj18 a0_0 a0_1 a0_2 a0_3 a0_4 a0_5 a0_6 a0_7 a1_0 a1_1 a1_2 a1_3 a1_4 a1_5 a1_6 a1_7 false _ A89.out).mono ?_); rintro e w126 ⟨rfl, hb⟩; refine ⟨_, rfl, ?_⟩; have n0_ := Aside0.mk (blk_below (g := gb219) (o := .cells #[.int .u64 a0_0, .int .u64 a0_1, .int .u64 a0_2, .int .u64 a0_3, .int .u64 a0_4, .string a0_5, .string a0_6, .bool a0_7] 28 (0, 0)) (by (with_reducible repeat (first | refine blk_drewN ?_ _ | refine blk_drew ?_ | refine blk_alloc ?_ _)); exact BK219.out) hb); have n1_ := Aside0.mk (blk_below (g := gb220) (o := .cells #[.int .u64 a1_0, .int .u64 a1_1, .int .u64 a1_2, .int .u64 a1_3, .int .u64 a1_4, .string a1_5, .string a1_6, .bool a1_7] 28 (0, 0)) (by (with_reducible repeat (first | refine blk_drewN ?_ _ | refine blk_drew ?_ | refine blk_alloc ?_ _)); exact BK220.out) hb); have n2_ := Aside0.mk (blk_below (g := gb221) (o := .cells #[.int .u64 a2_0, .int .u64 a2_1, .int .u64 a2_2, .int .u64 a2_3, .int .u64 a2_4, .string a2_5, .string a2_6, .bool a2_7] 28 (0, 0)) (by (with_reducible repeat (first | refine blk_drewN ?_ _ | refine blk_drew ?_ | refine blk_alloc ?_ _)); exact BK221.out) hb); have n3_ := Aside0.mk (below_step (by repeat (first | (with_reducible first | exact HB.out | apply below_alloc | apply pw_below_drewN | apply below_drew1 | refine below_set ?_ GE219.out | refine below_set ?_ GE220.out | refine below_set ?_ GE221.out) | exact HB.out)) hb); clear BK219; clear BK220; clear BK221; clear HB; have BK219 := n0_; have BK220 := n1_; have BK221 := n2_; have HB := n3_; clear n0_ n1_ n2_ n3_; (try clear hb); (try clear hb2); (try clear hk); (try clear hi)) | (go_at_call 14; (with_reducible refine (winnowlaw03_alive.calls  t234 _ A120.out).mono ?_); rintro e w127 ⟨rfl, hb⟩; have n0_ := Aside0.mk (blk_below (g := gb219) (o := .cells #[.int .u64 a0_0, .int .u64 a0_1, .int .u64 a0_2, .int .u64 a0_3, .int .u64 a0_4, .string a0_5, .string a0_6, .bool a0_7] 28 (0, 0)) (by (with_reducible repeat (first | refine blk_drewN ?_ _ | refine blk_drew ?_ | refine blk_alloc ?_ _)); exact BK219.out) hb); have n1_ := Aside0.mk (blk_below (g := gb220) (o := .cells #[.int .u64 a1_0, .int .u64 a1_1, .int .u64 a1_2, .int .u64 a1_3, .int .u64 a1_4, .string a1_5, .string a1_6, .bool a1_7] 28 (0, 0)) (by (with_reducible repeat (first | refine blk_drewN ?_ _ | refine blk_drew ?_ | refine blk_alloc ?_ _)); exact BK220.out) hb); have n2_ := Aside0.mk (blk_below (g := gb221) (o := .cells #[.int .u64 a2_0, .int .u64 a2_1, .int .u64 a2_2, .int .u64 a2_3, .int .u64 a2_4, .string a2_5, .string a2_6, .bool a2_7] 28 (0, 0)) (by (with_reducible repeat (first | refine blk_drewN ?_ _ | refine blk_drew ?_ | refine blk_alloc ?_ _)); exact BK221.out) hb); have n3_ := Aside0.mk (below_step (by repeat (first | (with_reducible first | exact HB.out | apply below_alloc | apply pw_below_drewN | apply below_drew1 | refine below_set ?_ GE219.out | refine below_set ?_ GE220.out | refine below_set ?_ GE221.out) | exact HB.out)) hb); clear BK219; clear BK220; clear BK221; clear HB; have BK219 := n0_; have BK220 := n1_; have BK221 := n2_; have HB := n3_; clear n0_ n1_ n2_ n3_; (try clear hb); (try clear hb2); (try clear hk); (try clear hi)))
              go_ret
              exact ⟨by first | rfl | (simp [errW_none, errW_some] <;> rfl) | (simp [*, errW_none, errW_some] <;> rfl), by repeat (first | (with_reducible first | exact HB.out | apply below_alloc | apply pw_below_drewN | apply below_drew1 | refine below_set ?_ GE219.out | refine below_set ?_ GE220.out | refine below_set ?_ GE221.out) | exact HB.out)⟩

end Go.Proofs.Ytigcdbeaachkoaa.PAll
