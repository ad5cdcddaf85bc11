-- Laid by the kit's print.py, called for several functions at once (our call).
import Derived.Test.YtjnhmdmcmmffeaaPAllx0
import Derived.Test.YtjnhmdmcmmffeaaPAllx1
import Derived.Test.YtjnhmdmcmmffeaaPAllx4
import Derived.Test.YtjnhmdmcmmffeaaPAllx19
namespace Go.Proofs.Ytjnhmdmcmmffeaa.PAll
open Go.RowKit Go.Proofs.YtjnhmdmcmmffeaaW.PrintWords Go.Proofs.YtjnhmdmcmmffeaaW.PrintLast Go.Proofs.YtjnhmdmcmmffeaaW.PrintMore
attribute [local go_sem] max2_int min2_int max_two min_two max_three min_three max_four min_four   -- for this text's walks alone
set_option linter.unusedVariables false
set_option linter.unusedSimpArgs false

attribute [local go_sem high] eqA24 eqA80
/-! ### winnowref05_Same: function 29 -/
mutual
def winnowref05_Same.j0 : Nat → Bool → Int → Int → Int → Int → Int → Int → Int → Bool → List (S88) → List (S80) → List Int → Int → Int → Int → Int → Int → Int → Int → Bool → List (S88) → List (S80) → List Int → Option (Bool)
  | 0, _, _, _, _, _, _, _, _, _, _, _, _, _, _, _, _, _, _, _, _, _, _, _ => none
  | k + 1, x30, x319000, x319001, x319002, x319003, x319004, x319005, x319006, x319007, x319008, x319009, x319010, x320000, x320001, x320002, x320003, x320004, x320005, x320006, x320007, x320008, x320009, x320010 => if x30 = true then (some false) else (winnowref05_Same.l0 k 0 x319000 x319001 x319002 x319003 x319004 x319005 x319006 x319007 x319008 x319009 x319010 x320000 x320001 x320002 x320003 x320004 x320005 x320006 x320007 x320008 x320009 x320010)
def winnowref05_Same.l0 : Nat → Int → Int → Int → Int → Int → Int → Int → Int → Bool → List (S88) → List (S80) → List Int → Int → Int → Int → Int → Int → Int → Int → Bool → List (S88) → List (S80) → List Int → Option (Bool)
  | 0, _, _, _, _, _, _, _, _, _, _, _, _, _, _, _, _, _, _, _, _, _, _, _ => none
  | k + 1, x5, x319000, x319001, x319002, x319003, x319004, x319005, x319006, x319007, x319008, x319009, x319010, x320000, x320001, x320002, x320003, x320004, x320005, x320006, x320007, x320008, x320009, x320010 => if x5 < (x319009.length : Int) then (if 0 ≤ x5 then (if x5 < (x320009.length : Int) then (if (!(((rd_T80 x319009 x5).f0) == ((rd_T80 x320009 x5).f0)) || (!(((rd_T80 x319009 x5).f1) == ((rd_T80 x320009 x5).f1)) || (!(((rd_T80 x319009 x5).f2) == ((rd_T80 x320009 x5).f2))))) = true then (some false) else (winnowref05_Same.l0 k (wrap64 (x5 + 1)) x319000 x319001 x319002 x319003 x319004 x319005 x319006 x319007 x319008 x319009 x319010 x320000 x320001 x320002 x320003 x320004 x320005 x320006 x320007 x320008 x320009 x320010)) else (none)) else (none)) else (winnowref05_Same.l1 k 0 x319000 x319001 x319002 x319003 x319004 x319005 x319006 x319007 x319008 x319009 x319010 x320000 x320001 x320002 x320003 x320004 x320005 x320006 x320007 x320008 x320009 x320010)
def winnowref05_Same.l1 : Nat → Int → Int → Int → Int → Int → Int → Int → Int → Bool → List (S88) → List (S80) → List Int → Int → Int → Int → Int → Int → Int → Int → Bool → List (S88) → List (S80) → List Int → Option (Bool)
  | 0, _, _, _, _, _, _, _, _, _, _, _, _, _, _, _, _, _, _, _, _, _, _, _ => none
  | k + 1, x6, x319000, x319001, x319002, x319003, x319004, x319005, x319006, x319007, x319008, x319009, x319010, x320000, x320001, x320002, x320003, x320004, x320005, x320006, x320007, x320008, x320009, x320010 => if x6 < (x319010.length : Int) then (if 0 ≤ x6 then (if x6 < (x320010.length : Int) then (if (rd x319010 x6) = (rd x320010 x6) then (winnowref05_Same.l1 k (wrap64 (x6 + 1)) x319000 x319001 x319002 x319003 x319004 x319005 x319006 x319007 x319008 x319009 x319010 x320000 x320001 x320002 x320003 x320004 x320005 x320006 x320007 x320008 x320009 x320010) else (some false)) else (none)) else (none)) else (if x319000 = x320000 then (if x319001 = x320001 then (if (x319002 == x320002 && (x319003 == x320003)) = true then (if (x319004 == x320004 && (x319005 == x320005)) = true then (if x319006 = x320006 then (some (x319007 == x320007)) else (some false)) else (some false)) else (some false)) else (some false)) else (some false))
end
def winnowref05_Same.f (k : Nat) (a0_0 : Int) (a0_1 : Int) (a0_2 : Int) (a0_3 : Int) (a0_4 : Int) (a0_5 : Int) (a0_6 : Int) (a0_7 : Bool) (l0_8 : List (S88)) (l0_9 : List (S80)) (l0_10 : List Int) (a1_0 : Int) (a1_1 : Int) (a1_2 : Int) (a1_3 : Int) (a1_4 : Int) (a1_5 : Int) (a1_6 : Int) (a1_7 : Bool) (l1_8 : List (S88)) (l1_9 : List (S80)) (l1_10 : List Int) : Option (Bool) := if (l0_9.length : Int) = (l1_9.length : Int) then (if (l0_10.length : Int) = (l1_10.length : Int) then ((winnowref03_Spans.f k l0_8 l1_8).bind fun t320 => (winnowref05_Same.j0 k (!t320) a0_0 a0_1 a0_2 a0_3 a0_4 a0_5 a0_6 a0_7 l0_8 l0_9 l0_10 a1_0 a1_1 a1_2 a1_3 a1_4 a1_5 a1_6 a1_7 l1_8 l1_9 l1_10)) else (winnowref05_Same.j0 k true a0_0 a0_1 a0_2 a0_3 a0_4 a0_5 a0_6 a0_7 l0_8 l0_9 l0_10 a1_0 a1_1 a1_2 a1_3 a1_4 a1_5 a1_6 a1_7 l1_8 l1_9 l1_10)) else (winnowref05_Same.j0 k true a0_0 a0_1 a0_2 a0_3 a0_4 a0_5 a0_6 a0_7 l0_8 l0_9 l0_10 a1_0 a1_1 a1_2 a1_3 a1_4 a1_5 a1_6 a1_7 l1_8 l1_9 l1_10)
theorem winnowref05_Same.mono_l : ∀ k, (∀ y0 y1 y2 y3 y4 y5 y6 y7 y8 y9 y10 y11 y12 y13 y14 y15 y16 y17 y18 y19 y20 y21 y22, LeO (winnowref05_Same.j0 k y0 y1 y2 y3 y4 y5 y6 y7 y8 y9 y10 y11 y12 y13 y14 y15 y16 y17 y18 y19 y20 y21 y22) (winnowref05_Same.j0 (k + 1) y0 y1 y2 y3 y4 y5 y6 y7 y8 y9 y10 y11 y12 y13 y14 y15 y16 y17 y18 y19 y20 y21 y22)) ∧ (∀ y0 y1 y2 y3 y4 y5 y6 y7 y8 y9 y10 y11 y12 y13 y14 y15 y16 y17 y18 y19 y20 y21 y22, LeO (winnowref05_Same.l0 k y0 y1 y2 y3 y4 y5 y6 y7 y8 y9 y10 y11 y12 y13 y14 y15 y16 y17 y18 y19 y20 y21 y22) (winnowref05_Same.l0 (k + 1) y0 y1 y2 y3 y4 y5 y6 y7 y8 y9 y10 y11 y12 y13 y14 y15 y16 y17 y18 y19 y20 y21 y22)) ∧ (∀ y0 y1 y2 y3 y4 y5 y6 y7 y8 y9 y10 y11 y12 y13 y14 y15 y16 y17 y18 y19 y20 y21 y22, LeO (winnowref05_Same.l1 k y0 y1 y2 y3 y4 y5 y6 y7 y8 y9 y10 y11 y12 y13 y14 y15 y16 y17 y18 y19 y20 y21 y22) (winnowref05_Same.l1 (k + 1) y0 y1 y2 y3 y4 y5 y6 y7 y8 y9 y10 y11 y12 y13 y14 y15 y16 y17 y18 y19 y20 y21 y22))
  | 0 => ⟨fun _ _ _ _ _ _ _ _ _ _ _ _ _ _ _ _ _ _ _ _ _ _ _ r h => by simp [winnowref05_Same.j0] at h, fun _ _ _ _ _ _ _ _ _ _ _ _ _ _ _ _ _ _ _ _ _ _ _ r h => by simp [winnowref05_Same.l0] at h, fun _ _ _ _ _ _ _ _ _ _ _ _ _ _ _ _ _ _ _ _ _ _ _ r h => by simp [winnowref05_Same.l1] at h⟩
  | k + 1 => by
    obtain ⟨ih0, ih1, ih2⟩ := winnowref05_Same.mono_l k
    refine ⟨?_, ?_, ?_⟩
    · intro y0 y1 y2 y3 y4 y5 y6 y7 y8 y9 y10 y11 y12 y13 y14 y15 y16 y17 y18 y19 y20 y21 y22
      unfold winnowref05_Same.j0
      repeat' first
      | (with_reducible exact ih0 _ _ _ _ _ _ _ _ _ _ _ _ _ _ _ _ _ _ _ _ _ _ _)
      | (with_reducible exact ih1 _ _ _ _ _ _ _ _ _ _ _ _ _ _ _ _ _ _ _ _ _ _ _)
      | (with_reducible exact ih2 _ _ _ _ _ _ _ _ _ _ _ _ _ _ _ _ _ _ _ _ _ _ _)
      | (with_reducible exact winnowref03_Spans.mono _ _ _)
      | (with_reducible exact LeO.refl _)
      | (with_reducible exact LeO.none _)
      | (with_reducible refine LeO.ite ?_ ?_)
      | (with_reducible refine LeO.bind ?_ (fun _ => ?_))
      | exact ih0 _ _ _ _ _ _ _ _ _ _ _ _ _ _ _ _ _ _ _ _ _ _ _
      | exact ih1 _ _ _ _ _ _ _ _ _ _ _ _ _ _ _ _ _ _ _ _ _ _ _
      | exact ih2 _ _ _ _ _ _ _ _ _ _ _ _ _ _ _ _ _ _ _ _ _ _ _
      | exact winnowref03_Spans.mono _ _ _
      | exact LeO.none _
      | refine LeO.ite ?_ ?_
      | refine LeO.bind ?_ (fun _ => ?_)
    · intro y0 y1 y2 y3 y4 y5 y6 y7 y8 y9 y10 y11 y12 y13 y14 y15 y16 y17 y18 y19 y20 y21 y22
      unfold winnowref05_Same.l0
      repeat' first
      | (with_reducible exact ih0 _ _ _ _ _ _ _ _ _ _ _ _ _ _ _ _ _ _ _ _ _ _ _)
      | (with_reducible exact ih1 _ _ _ _ _ _ _ _ _ _ _ _ _ _ _ _ _ _ _ _ _ _ _)
      | (with_reducible exact ih2 _ _ _ _ _ _ _ _ _ _ _ _ _ _ _ _ _ _ _ _ _ _ _)
      | (with_reducible exact winnowref03_Spans.mono _ _ _)
      | (with_reducible exact LeO.refl _)
      | (with_reducible exact LeO.none _)
      | (with_reducible refine LeO.ite ?_ ?_)
      | (with_reducible refine LeO.bind ?_ (fun _ => ?_))
      | exact ih0 _ _ _ _ _ _ _ _ _ _ _ _ _ _ _ _ _ _ _ _ _ _ _
      | exact ih1 _ _ _ _ _ _ _ _ _ _ _ _ _ _ _ _ _ _ _ _ _ _ _
      | exact ih2 _ _ _ _ _ _ _ _ _ _ _ _ _ _ _ _ _ _ _ _ _ _ _
      | exact winnowref03_Spans.mono _ _ _
      | exact LeO.none _
      | refine LeO.ite ?_ ?_
      | refine LeO.bind ?_ (fun _ => ?_)
    · intro y0 y1 y2 y3 y4 y5 y6 y7 y8 y9 y10 y11 y12 y13 y14 y15 y16 y17 y18 y19 y20 y21 y22
      unfold winnowref05_Same.l1
      repeat' first
      | (with_reducible exact ih0 _ _ _ _ _ _ _ _ _ _ _ _ _ _ _ _ _ _ _ _ _ _ _)
      | (with_reducible exact ih1 _ _ _ _ _ _ _ _ _ _ _ _ _ _ _ _ _ _ _ _ _ _ _)
      | (with_reducible exact ih2 _ _ _ _ _ _ _ _ _ _ _ _ _ _ _ _ _ _ _ _ _ _ _)
      | (with_reducible exact winnowref03_Spans.mono _ _ _)
      | (with_reducible exact LeO.refl _)
      | (with_reducible exact LeO.none _)
      | (with_reducible refine LeO.ite ?_ ?_)
      | (with_reducible refine LeO.bind ?_ (fun _ => ?_))
      | exact ih0 _ _ _ _ _ _ _ _ _ _ _ _ _ _ _ _ _ _ _ _ _ _ _
      | exact ih1 _ _ _ _ _ _ _ _ _ _ _ _ _ _ _ _ _ _ _ _ _ _ _
      | exact ih2 _ _ _ _ _ _ _ _ _ _ _ _ _ _ _ _ _ _ _ _ _ _ _
      | exact winnowref03_Spans.mono _ _ _
      | exact LeO.none _
      | refine LeO.ite ?_ ?_
      | refine LeO.bind ?_ (fun _ => ?_)
theorem winnowref05_Same.mono : ∀ a0 a1 a2 a3 a4 a5 a6 a7 a8 a9 a10 a11 a12 a13 a14 a15 a16 a17 a18 a19 a20 a21 k, LeO (winnowref05_Same.f k a0 a1 a2 a3 a4 a5 a6 a7 a8 a9 a10 a11 a12 a13 a14 a15 a16 a17 a18 a19 a20 a21) (winnowref05_Same.f (k + 1) a0 a1 a2 a3 a4 a5 a6 a7 a8 a9 a10 a11 a12 a13 a14 a15 a16 a17 a18 a19 a20 a21) := by
  intro a0 a1 a2 a3 a4 a5 a6 a7 a8 a9 a10 a11 a12 a13 a14 a15 a16 a17 a18 a19 a20 a21 k
  obtain ⟨ih0, ih1, ih2⟩ := winnowref05_Same.mono_l k
  unfold winnowref05_Same.f
  repeat' first
      | (with_reducible exact ih0 _ _ _ _ _ _ _ _ _ _ _ _ _ _ _ _ _ _ _ _ _ _ _)
      | (with_reducible exact ih1 _ _ _ _ _ _ _ _ _ _ _ _ _ _ _ _ _ _ _ _ _ _ _)
      | (with_reducible exact ih2 _ _ _ _ _ _ _ _ _ _ _ _ _ _ _ _ _ _ _ _ _ _ _)
      | (with_reducible exact winnowref03_Spans.mono _ _ _)
      | (with_reducible exact LeO.refl _)
      | (with_reducible exact LeO.none _)
      | (with_reducible refine LeO.ite ?_ ?_)
      | (with_reducible refine LeO.bind ?_ (fun _ => ?_))
      | exact ih0 _ _ _ _ _ _ _ _ _ _ _ _ _ _ _ _ _ _ _ _ _ _ _
      | exact ih1 _ _ _ _ _ _ _ _ _ _ _ _ _ _ _ _ _ _ _ _ _ _ _
      | exact ih2 _ _ _ _ _ _ _ _ _ _ _ _ _ _ _ _ _ _ _ _ _ _ _
      | exact winnowref03_Spans.mono _ _ _
      | exact LeO.none _
      | refine LeO.ite ?_ ?_
      | refine LeO.bind ?_ (fun _ => ?_)
set_option maxHeartbeats 8000000 in
set_option maxRecDepth 100000 in
theorem winnowref05_Same.calls (k : Nat) (a0_0 : Int) (a0_1 : Int) (a0_2 : Int) (a0_3 : Int) (a0_4 : Int) (a0_5 : Int) (a0_6 : Int) (a0_7 : Bool) (A0_8 : Option Addr) (c0_8 : Nat) (l0_8 : List (S88)) (A0_9 : Option Addr) (c0_9 : Nat) (l0_9 : List (S80)) (A0_10 : Option Addr) (c0_10 : Nat) (l0_10 : List Int) (a1_0 : Int) (a1_1 : Int) (a1_2 : Int) (a1_3 : Int) (a1_4 : Int) (a1_5 : Int) (a1_6 : Int) (a1_7 : Bool) (A1_8 : Option Addr) (c1_8 : Nat) (l1_8 : List (S88)) (A1_9 : Option Addr) (c1_9 : Nat) (l1_9 : List (S80)) (A1_10 : Option Addr) (c1_10 : Nat) (l1_10 : List Int) (r : Bool) (w : World) (hr0_8 : Kd.C k88 w A0_8 l0_8.length l0_8) (hc0_8 : l0_8.length ≤ c0_8) (hr0_9 : Kd.C k80 w A0_9 l0_9.length l0_9) (hc0_9 : l0_9.length ≤ c0_9) (hr0_10 : Kd.C (Kd.int .u64) w A0_10 l0_10.length l0_10) (hc0_10 : l0_10.length ≤ c0_10) (hr1_8 : Kd.C k88 w A1_8 l1_8.length l1_8) (hc1_8 : l1_8.length ≤ c1_8) (hr1_9 : Kd.C k80 w A1_9 l1_9.length l1_9) (hc1_9 : l1_9.length ≤ c1_9) (hr1_10 : Kd.C (Kd.int .u64) w A1_10 l1_10.length l1_10) (hc1_10 : l1_10.length ≤ c1_10) (h : winnowref05_Same.f k a0_0 a0_1 a0_2 a0_3 a0_4 a0_5 a0_6 a0_7 l0_8 l0_9 l0_10 a1_0 a1_1 a1_2 a1_3 a1_4 a1_5 a1_6 a1_7 l1_8 l1_9 l1_10 = some r) :
    Calls Try.prog 29 #[.agg #[.int .i64 a0_0, .int .u64 a0_1, .int .u64 a0_2, .int .u64 a0_3, .int .u64 a0_4, .int .u64 a0_5, .int .i64 a0_6, .bool a0_7, .slice A0_8 l0_8.length c0_8, .slice A0_9 l0_9.length c0_9, .slice A0_10 l0_10.length c0_10], .agg #[.int .i64 a1_0, .int .u64 a1_1, .int .u64 a1_2, .int .u64 a1_3, .int .u64 a1_4, .int .u64 a1_5, .int .i64 a1_6, .bool a1_7, .slice A1_8 l1_8.length c1_8, .slice A1_9 l1_9.length c1_9, .slice A1_10 l1_10.length c1_10]] w fun e w' => e = .returned (.bool r) ∧ Below w.heap.size w w' := by
  have hu58 := Try.underlying58
  have hu80 := Try.underlying80
  have hu24 := Try.underlying24
  have HR0_8 := Aside0.mk hr0_8
  have HC0_8 := Aside0.mk hc0_8
  clear hr0_8 hc0_8
  have HR0_9 := Aside0.mk hr0_9
  have HC0_9 := Aside0.mk hc0_9
  clear hr0_9 hc0_9
  have HR0_10 := Aside0.mk hr0_10
  have HC0_10 := Aside0.mk hc0_10
  clear hr0_10 hc0_10
  have HR1_8 := Aside0.mk hr1_8
  have HC1_8 := Aside0.mk hc1_8
  clear hr1_8 hc1_8
  have HR1_9 := Aside0.mk hr1_9
  have HC1_9 := Aside0.mk hc1_9
  clear hr1_9 hc1_9
  have HR1_10 := Aside0.mk hr1_10
  have HC1_10 := Aside0.mk hc1_10
  clear hr1_10 hc1_10
  have HB := Aside0.mk (Below.refl w.heap.size w)
  have H : (if (l0_9.length : Int) = (l1_9.length : Int) then (if (l0_10.length : Int) = (l1_10.length : Int) then ((winnowref03_Spans.f k l0_8 l1_8).bind fun t320 => (winnowref05_Same.j0 k (!t320) a0_0 a0_1 a0_2 a0_3 a0_4 a0_5 a0_6 a0_7 l0_8 l0_9 l0_10 a1_0 a1_1 a1_2 a1_3 a1_4 a1_5 a1_6 a1_7 l1_8 l1_9 l1_10)) else (winnowref05_Same.j0 k true a0_0 a0_1 a0_2 a0_3 a0_4 a0_5 a0_6 a0_7 l0_8 l0_9 l0_10 a1_0 a1_1 a1_2 a1_3 a1_4 a1_5 a1_6 a1_7 l1_8 l1_9 l1_10)) else (winnowref05_Same.j0 k true a0_0 a0_1 a0_2 a0_3 a0_4 a0_5 a0_6 a0_7 l0_8 l0_9 l0_10 a1_0 a1_1 a1_2 a1_3 a1_4 a1_5 a1_6 a1_7 l1_8 l1_9 l1_10)) = some r := h
  clear h
  have HC3 := Aside0.mk H
  clear H
  go_enter Try.func29, Try.ntmps29
  go_upto_region 1 with (first | ((with_reducible refine gate_dst (N := 2) rfl ?_); (try (refine gate_guard (by rfl) ?_; dsimp only)); refine box_event ?hg (N := 2) ?hd (cs := #[.int .i64 a0_0, .int .u64 a0_1, .int .u64 a0_2, .int .u64 a0_3, .int .u64 a0_4, .int .u64 a0_5, .int .i64 a0_6, .bool a0_7, .slice A0_8 l0_8.length c0_8, .slice A0_9 l0_9.length c0_9, .slice A0_10 l0_10.length c0_10]) (t := 58) ?hr ?_; (case hd => rfl); (case hg => rfl); (case hr => first | (go_simp; done) | (go_simp; rfl)); intro gb318 hg w4 hbox hb; have n0_ := Aside0.mk (below_step (by repeat (first | (with_reducible first | exact HB.out | apply below_alloc | apply pw_below_drewN | apply below_drew1) | exact HB.out)) hb); have n1_ := Aside0.mk (hbox); have n2_ := Aside0.mk ((by rw [hg]; exact (below_size (by repeat (first | (with_reducible first | exact HB.out | apply below_alloc | apply pw_below_drewN | apply below_drew1) | exact HB.out))) : w.heap.size ≤ gb318)); have n3_ := n2_; clear HB; have HB := n0_; have BK318 := n1_; have GW318 := n2_; have GE318 := n3_; clear n0_ n1_ n2_ n3_; clear hb hbox hg) | ((with_reducible refine gate_dst (N := 3) rfl ?_); (try (refine gate_guard (by rfl) ?_; dsimp only)); refine box_event ?hg (N := 3) ?hd (cs := #[.int .i64 a1_0, .int .u64 a1_1, .int .u64 a1_2, .int .u64 a1_3, .int .u64 a1_4, .int .u64 a1_5, .int .i64 a1_6, .bool a1_7, .slice A1_8 l1_8.length c1_8, .slice A1_9 l1_9.length c1_9, .slice A1_10 l1_10.length c1_10]) (t := 58) ?hr ?_; (case hd => rfl); (case hg => rfl); (case hr => first | (go_simp; done) | (go_simp; rfl)); intro gb319 hg w5 hbox hb; have n0_ := Aside0.mk (blk_below (g := gb318) (o := .cells #[.int .i64 a0_0, .int .u64 a0_1, .int .u64 a0_2, .int .u64 a0_3, .int .u64 a0_4, .int .u64 a0_5, .int .i64 a0_6, .bool a0_7, .slice A0_8 l0_8.length c0_8, .slice A0_9 l0_9.length c0_9, .slice A0_10 l0_10.length c0_10] 58 (0, 0)) (by exact BK318.out) hb); have n1_ := Aside0.mk (below_step (by repeat (first | (with_reducible first | exact HB.out | apply below_alloc | apply pw_below_drewN | apply below_drew1 | refine below_set ?_ GE318.out) | exact HB.out)) hb); have n2_ := Aside0.mk (hbox); have n3_ := Aside0.mk ((by rw [hg]; exact (below_size (by repeat (first | (with_reducible first | exact HB.out | apply below_alloc | apply pw_below_drewN | apply below_drew1 | refine below_set ?_ GE318.out) | exact HB.out))) : w.heap.size ≤ gb319)); have n4_ := n3_; have n5_ := Aside0.mk ((by rw [hg]; exact Nat.ne_of_lt (blk_lt (g := gb318) (o := .cells #[.int .i64 a0_0, .int .u64 a0_1, .int .u64 a0_2, .int .u64 a0_3, .int .u64 a0_4, .int .u64 a0_5, .int .i64 a0_6, .bool a0_7, .slice A0_8 l0_8.length c0_8, .slice A0_9 l0_9.length c0_9, .slice A0_10 l0_10.length c0_10] 58 (0, 0)) (by exact BK318.out)) : gb318 ≠ gb319)); have n6_ := Aside0.mk ((by rw [hg]; exact Nat.ne_of_gt (blk_lt (g := gb318) (o := .cells #[.int .i64 a0_0, .int .u64 a0_1, .int .u64 a0_2, .int .u64 a0_3, .int .u64 a0_4, .int .u64 a0_5, .int .i64 a0_6, .bool a0_7, .slice A0_8 l0_8.length c0_8, .slice A0_9 l0_9.length c0_9, .slice A0_10 l0_10.length c0_10] 58 (0, 0)) (by exact BK318.out)) : gb319 ≠ gb318)); clear BK318; clear HB; have BK318 := n0_; have HB := n1_; have BK319 := n2_; have GW319 := n3_; have GE319 := n4_; have NB318_319 := n5_; have NB319_318 := n6_; clear n0_ n1_ n2_ n3_ n4_ n5_ n6_; clear hb hbox hg))
  repeat (go_quiet (first | ((with_reducible refine gate_dst (N := 2) rfl ?_); (try (refine gate_guard (by rfl) ?_; dsimp only)); refine box_event ?hg (N := 2) ?hd (cs := #[.int .i64 a0_0, .int .u64 a0_1, .int .u64 a0_2, .int .u64 a0_3, .int .u64 a0_4, .int .u64 a0_5, .int .i64 a0_6, .bool a0_7, .slice A0_8 l0_8.length c0_8, .slice A0_9 l0_9.length c0_9, .slice A0_10 l0_10.length c0_10]) (t := 58) ?hr ?_; (case hd => rfl); (case hg => rfl); (case hr => first | (go_simp; done) | (go_simp; rfl)); intro gb318 hg w4 hbox hb; have n0_ := Aside0.mk (below_step (by repeat (first | (with_reducible first | exact HB.out | apply below_alloc | apply pw_below_drewN | apply below_drew1) | exact HB.out)) hb); have n1_ := Aside0.mk (hbox); have n2_ := Aside0.mk ((by rw [hg]; exact (below_size (by repeat (first | (with_reducible first | exact HB.out | apply below_alloc | apply pw_below_drewN | apply below_drew1) | exact HB.out))) : w.heap.size ≤ gb318)); have n3_ := n2_; clear HB; have HB := n0_; have BK318 := n1_; have GW318 := n2_; have GE318 := n3_; clear n0_ n1_ n2_ n3_; clear hb hbox hg) | ((with_reducible refine gate_dst (N := 3) rfl ?_); (try (refine gate_guard (by rfl) ?_; dsimp only)); refine box_event ?hg (N := 3) ?hd (cs := #[.int .i64 a1_0, .int .u64 a1_1, .int .u64 a1_2, .int .u64 a1_3, .int .u64 a1_4, .int .u64 a1_5, .int .i64 a1_6, .bool a1_7, .slice A1_8 l1_8.length c1_8, .slice A1_9 l1_9.length c1_9, .slice A1_10 l1_10.length c1_10]) (t := 58) ?hr ?_; (case hd => rfl); (case hg => rfl); (case hr => first | (go_simp; done) | (go_simp; rfl)); intro gb319 hg w5 hbox hb; have n0_ := Aside0.mk (blk_below (g := gb318) (o := .cells #[.int .i64 a0_0, .int .u64 a0_1, .int .u64 a0_2, .int .u64 a0_3, .int .u64 a0_4, .int .u64 a0_5, .int .i64 a0_6, .bool a0_7, .slice A0_8 l0_8.length c0_8, .slice A0_9 l0_9.length c0_9, .slice A0_10 l0_10.length c0_10] 58 (0, 0)) (by exact BK318.out) hb); have n1_ := Aside0.mk (below_step (by repeat (first | (with_reducible first | exact HB.out | apply below_alloc | apply pw_below_drewN | apply below_drew1 | refine below_set ?_ GE318.out) | exact HB.out)) hb); have n2_ := Aside0.mk (hbox); have n3_ := Aside0.mk ((by rw [hg]; exact (below_size (by repeat (first | (with_reducible first | exact HB.out | apply below_alloc | apply pw_below_drewN | apply below_drew1 | refine below_set ?_ GE318.out) | exact HB.out))) : w.heap.size ≤ gb319)); have n4_ := n3_; have n5_ := Aside0.mk ((by rw [hg]; exact Nat.ne_of_lt (blk_lt (g := gb318) (o := .cells #[.int .i64 a0_0, .int .u64 a0_1, .int .u64 a0_2, .int .u64 a0_3, .int .u64 a0_4, .int .u64 a0_5, .int .i64 a0_6, .bool a0_7, .slice A0_8 l0_8.length c0_8, .slice A0_9 l0_9.length c0_9, .slice A0_10 l0_10.length c0_10] 58 (0, 0)) (by exact BK318.out)) : gb318 ≠ gb319)); have n6_ := Aside0.mk ((by rw [hg]; exact Nat.ne_of_gt (blk_lt (g := gb318) (o := .cells #[.int .i64 a0_0, .int .u64 a0_1, .int .u64 a0_2, .int .u64 a0_3, .int .u64 a0_4, .int .u64 a0_5, .int .i64 a0_6, .bool a0_7, .slice A0_8 l0_8.length c0_8, .slice A0_9 l0_9.length c0_9, .slice A0_10 l0_10.length c0_10] 58 (0, 0)) (by exact BK318.out)) : gb319 ≠ gb318)); clear BK318; clear HB; have BK318 := n0_; have HB := n1_; have BK319 := n2_; have GW319 := n3_; have GE319 := n4_; have NB318_319 := n5_; have NB319_318 := n6_; clear n0_ n1_ n2_ n3_ n4_ n5_ n6_; clear hb hbox hg)); go_upto_region 1 with (first | ((with_reducible refine gate_dst (N := 2) rfl ?_); (try (refine gate_guard (by rfl) ?_; dsimp only)); refine box_event ?hg (N := 2) ?hd (cs := #[.int .i64 a0_0, .int .u64 a0_1, .int .u64 a0_2, .int .u64 a0_3, .int .u64 a0_4, .int .u64 a0_5, .int .i64 a0_6, .bool a0_7, .slice A0_8 l0_8.length c0_8, .slice A0_9 l0_9.length c0_9, .slice A0_10 l0_10.length c0_10]) (t := 58) ?hr ?_; (case hd => rfl); (case hg => rfl); (case hr => first | (go_simp; done) | (go_simp; rfl)); intro gb318 hg w4 hbox hb; have n0_ := Aside0.mk (below_step (by repeat (first | (with_reducible first | exact HB.out | apply below_alloc | apply pw_below_drewN | apply below_drew1) | exact HB.out)) hb); have n1_ := Aside0.mk (hbox); have n2_ := Aside0.mk ((by rw [hg]; exact (below_size (by repeat (first | (with_reducible first | exact HB.out | apply below_alloc | apply pw_below_drewN | apply below_drew1) | exact HB.out))) : w.heap.size ≤ gb318)); have n3_ := n2_; clear HB; have HB := n0_; have BK318 := n1_; have GW318 := n2_; have GE318 := n3_; clear n0_ n1_ n2_ n3_; clear hb hbox hg) | ((with_reducible refine gate_dst (N := 3) rfl ?_); (try (refine gate_guard (by rfl) ?_; dsimp only)); refine box_event ?hg (N := 3) ?hd (cs := #[.int .i64 a1_0, .int .u64 a1_1, .int .u64 a1_2, .int .u64 a1_3, .int .u64 a1_4, .int .u64 a1_5, .int .i64 a1_6, .bool a1_7, .slice A1_8 l1_8.length c1_8, .slice A1_9 l1_9.length c1_9, .slice A1_10 l1_10.length c1_10]) (t := 58) ?hr ?_; (case hd => rfl); (case hg => rfl); (case hr => first | (go_simp; done) | (go_simp; rfl)); intro gb319 hg w5 hbox hb; have n0_ := Aside0.mk (blk_below (g := gb318) (o := .cells #[.int .i64 a0_0, .int .u64 a0_1, .int .u64 a0_2, .int .u64 a0_3, .int .u64 a0_4, .int .u64 a0_5, .int .i64 a0_6, .bool a0_7, .slice A0_8 l0_8.length c0_8, .slice A0_9 l0_9.length c0_9, .slice A0_10 l0_10.length c0_10] 58 (0, 0)) (by exact BK318.out) hb); have n1_ := Aside0.mk (below_step (by repeat (first | (with_reducible first | exact HB.out | apply below_alloc | apply pw_below_drewN | apply below_drew1 | refine below_set ?_ GE318.out) | exact HB.out)) hb); have n2_ := Aside0.mk (hbox); have n3_ := Aside0.mk ((by rw [hg]; exact (below_size (by repeat (first | (with_reducible first | exact HB.out | apply below_alloc | apply pw_below_drewN | apply below_drew1 | refine below_set ?_ GE318.out) | exact HB.out))) : w.heap.size ≤ gb319)); have n4_ := n3_; have n5_ := Aside0.mk ((by rw [hg]; exact Nat.ne_of_lt (blk_lt (g := gb318) (o := .cells #[.int .i64 a0_0, .int .u64 a0_1, .int .u64 a0_2, .int .u64 a0_3, .int .u64 a0_4, .int .u64 a0_5, .int .i64 a0_6, .bool a0_7, .slice A0_8 l0_8.length c0_8, .slice A0_9 l0_9.length c0_9, .slice A0_10 l0_10.length c0_10] 58 (0, 0)) (by exact BK318.out)) : gb318 ≠ gb319)); have n6_ := Aside0.mk ((by rw [hg]; exact Nat.ne_of_gt (blk_lt (g := gb318) (o := .cells #[.int .i64 a0_0, .int .u64 a0_1, .int .u64 a0_2, .int .u64 a0_3, .int .u64 a0_4, .int .u64 a0_5, .int .i64 a0_6, .bool a0_7, .slice A0_8 l0_8.length c0_8, .slice A0_9 l0_9.length c0_9, .slice A0_10 l0_10.length c0_10] 58 (0, 0)) (by exact BK318.out)) : gb319 ≠ gb318)); clear BK318; clear HB; have BK318 := n0_; have HB := n1_; have BK319 := n2_; have GW319 := n3_; have GE319 := n4_; have NB318_319 := n5_; have NB319_318 := n6_; clear n0_ n1_ n2_ n3_ n4_ n5_ n6_; clear hb hbox hg)))
  (try simp only [Act.put, List.setIfInBounds_toArray, List.set_cons_zero, List.set_cons_succ])
  go_cut [30] (fun v30 wc => ∃ (kq : Nat) (x30_2 : Bool), v30 = .bool x30_2 ∧ Aside0 (winnowref05_Same.j0 kq x30_2 a0_0 a0_1 a0_2 a0_3 a0_4 a0_5 a0_6 a0_7 l0_8 l0_9 l0_10 a1_0 a1_1 a1_2 a1_3 a1_4 a1_5 a1_6 a1_7 l1_8 l1_9 l1_10 = some r) ∧ Aside0 (kq ≤ k) ∧ Aside0 (wc.heap[gb318]? = some (.cells #[.int .i64 a0_0, .int .u64 a0_1, .int .u64 a0_2, .int .u64 a0_3, .int .u64 a0_4, .int .u64 a0_5, .int .i64 a0_6, .bool a0_7, (.slice A0_8 l0_8.length c0_8), (.slice A0_9 l0_9.length c0_9), (.slice A0_10 l0_10.length c0_10)] 58 (0, 0))) ∧ Aside0 (wc.heap[gb319]? = some (.cells #[.int .i64 a1_0, .int .u64 a1_1, .int .u64 a1_2, .int .u64 a1_3, .int .u64 a1_4, .int .u64 a1_5, .int .i64 a1_6, .bool a1_7, (.slice A1_8 l1_8.length c1_8), (.slice A1_9 l1_9.length c1_9), (.slice A1_10 l1_10.length c1_10)] 58 (0, 0))) ∧ Aside0 (Below w.heap.size w wc))
  case first =>
    have H := HC3.out
    clear HC3
    by_cases c6 : (l0_9.length : Int) = (l1_9.length : Int)
    · rw [if_pos c6] at H
      have c6b0 : ((l0_9.length : Int) == (l1_9.length : Int)) = true := beq_iff_eq.mpr c6
      have c6b1 : ((l0_9.length : Int) != (l1_9.length : Int)) = false := bne_eq_false_iff_eq.mpr c6
      have c6b2 : (l0_9.length == l1_9.length) = true := by first | simpa using c6 | (simp at c6 ⊢; omega)
      clear c6
      (first | rw [c6b0] | (simp only [i64_w, i32_w]; rw [c6b0]) | skip)
      by_cases c7 : (l0_10.length : Int) = (l1_10.length : Int)
      · rw [if_pos c7] at H
        have c7b0 : ((l0_10.length : Int) == (l1_10.length : Int)) = true := beq_iff_eq.mpr c7
        have c7b1 : ((l0_10.length : Int) != (l1_10.length : Int)) = false := bne_eq_false_iff_eq.mpr c7
        have c7b2 : (l0_10.length == l1_10.length) = true := by first | simpa using c7 | (simp at c7 ⊢; omega)
        clear c7
        replace H := Option.bind_eq_some_iff.mp H
        obtain ⟨t320, A80, H⟩ := H
        replace H : (winnowref05_Same.j0 k (!t320) a0_0 a0_1 a0_2 a0_3 a0_4 a0_5 a0_6 a0_7 l0_8 l0_9 l0_10 a1_0 a1_1 a1_2 a1_3 a1_4 a1_5 a1_6 a1_7 l1_8 l1_9 l1_10) = some r := H
        have A8 := Aside0.mk A80
        clear A80
        have H' := Aside0.mk H
        clear H
        have hnb9 := NB318_319.out
        have hnc9 := NB319_318.out
        have hcz10_0 : w5.cell? ⟨gb318, 0, none⟩ = some (.int .i64 a0_0) := (blk_cell BK318.out 0).trans rfl
        have hcz10_1 : w5.cell? ⟨gb318, 1, none⟩ = some (.int .u64 a0_1) := (blk_cell BK318.out 1).trans rfl
        have hcz10_2 : w5.cell? ⟨gb318, 2, none⟩ = some (.int .u64 a0_2) := (blk_cell BK318.out 2).trans rfl
        have hcz10_3 : w5.cell? ⟨gb318, 3, none⟩ = some (.int .u64 a0_3) := (blk_cell BK318.out 3).trans rfl
        have hcz10_4 : w5.cell? ⟨gb318, 4, none⟩ = some (.int .u64 a0_4) := (blk_cell BK318.out 4).trans rfl
        have hcz10_5 : w5.cell? ⟨gb318, 5, none⟩ = some (.int .u64 a0_5) := (blk_cell BK318.out 5).trans rfl
        have hcz10_6 : w5.cell? ⟨gb318, 6, none⟩ = some (.int .i64 a0_6) := (blk_cell BK318.out 6).trans rfl
        have hcz10_7 : w5.cell? ⟨gb318, 7, none⟩ = some (.bool a0_7) := (blk_cell BK318.out 7).trans rfl
        have hcz10_8 : w5.cell? ⟨gb318, 8, none⟩ = some (.slice A0_8 l0_8.length c0_8) := (blk_cell BK318.out 8).trans rfl
        have hcz10_9 : w5.cell? ⟨gb318, 9, none⟩ = some (.slice A0_9 l0_9.length c0_9) := (blk_cell BK318.out 9).trans rfl
        have hcz10_10 : w5.cell? ⟨gb318, 10, none⟩ = some (.slice A0_10 l0_10.length c0_10) := (blk_cell BK318.out 10).trans rfl
        have hfz10_0 := blk_frozen BK318.out 0
        have hfz10_1 := blk_frozen BK318.out 1
        have hfz10_2 := blk_frozen BK318.out 2
        have hfz10_3 := blk_frozen BK318.out 3
        have hfz10_4 := blk_frozen BK318.out 4
        have hfz10_5 := blk_frozen BK318.out 5
        have hfz10_6 := blk_frozen BK318.out 6
        have hfz10_7 := blk_frozen BK318.out 7
        have hfz10_8 := blk_frozen BK318.out 8
        have hfz10_9 := blk_frozen BK318.out 9
        have hfz10_10 := blk_frozen BK318.out 10
        have hcz11_0 : w5.cell? ⟨gb319, 0, none⟩ = some (.int .i64 a1_0) := (blk_cell BK319.out 0).trans rfl
        have hcz11_1 : w5.cell? ⟨gb319, 1, none⟩ = some (.int .u64 a1_1) := (blk_cell BK319.out 1).trans rfl
        have hcz11_2 : w5.cell? ⟨gb319, 2, none⟩ = some (.int .u64 a1_2) := (blk_cell BK319.out 2).trans rfl
        have hcz11_3 : w5.cell? ⟨gb319, 3, none⟩ = some (.int .u64 a1_3) := (blk_cell BK319.out 3).trans rfl
        have hcz11_4 : w5.cell? ⟨gb319, 4, none⟩ = some (.int .u64 a1_4) := (blk_cell BK319.out 4).trans rfl
        have hcz11_5 : w5.cell? ⟨gb319, 5, none⟩ = some (.int .u64 a1_5) := (blk_cell BK319.out 5).trans rfl
        have hcz11_6 : w5.cell? ⟨gb319, 6, none⟩ = some (.int .i64 a1_6) := (blk_cell BK319.out 6).trans rfl
        have hcz11_7 : w5.cell? ⟨gb319, 7, none⟩ = some (.bool a1_7) := (blk_cell BK319.out 7).trans rfl
        have hcz11_8 : w5.cell? ⟨gb319, 8, none⟩ = some (.slice A1_8 l1_8.length c1_8) := (blk_cell BK319.out 8).trans rfl
        have hcz11_9 : w5.cell? ⟨gb319, 9, none⟩ = some (.slice A1_9 l1_9.length c1_9) := (blk_cell BK319.out 9).trans rfl
        have hcz11_10 : w5.cell? ⟨gb319, 10, none⟩ = some (.slice A1_10 l1_10.length c1_10) := (blk_cell BK319.out 10).trans rfl
        have hfz11_0 := blk_frozen BK319.out 0
        have hfz11_1 := blk_frozen BK319.out 1
        have hfz11_2 := blk_frozen BK319.out 2
        have hfz11_3 := blk_frozen BK319.out 3
        have hfz11_4 := blk_frozen BK319.out 4
        have hfz11_5 := blk_frozen BK319.out 5
        have hfz11_6 := blk_frozen BK319.out 6
        have hfz11_7 := blk_frozen BK319.out 7
        have hfz11_8 := blk_frozen BK319.out 8
        have hfz11_9 := blk_frozen BK319.out 9
        have hfz11_10 := blk_frozen BK319.out 10
        go_wp2_with (first | (go_at_call 40; (with_reducible refine (winnowref03_Spans.calls k _ _ l0_8 _ _ l1_8 t320 _ ?side1 ?side2 ?side3 ?side4 A8.out).mono ?_); (case side1 => repeat (first | exact (Kd.C_below HR0_8.out HB.out) | (with_reducible refine Kd.C_alloc ?_ _) | (with_reducible refine Kd.C_drewN ?_ _) | (with_reducible refine Kd.C_drew ?_))); (case side2 => exact HC0_8.out); (case side3 => repeat (first | exact (Kd.C_below HR1_8.out HB.out) | (with_reducible refine Kd.C_alloc ?_ _) | (with_reducible refine Kd.C_drewN ?_ _) | (with_reducible refine Kd.C_drew ?_))); (case side4 => exact HC1_8.out); rintro e w' ⟨rfl, ⟨nd, rfl⟩⟩; (try first | exact ⟨rfl, _, World.drewN_drewN _ _ _⟩ | exact ⟨rfl, _, Eq.trans (World.drewN_drewN _ _ _) (congrArg (World.drewN _) (Nat.add_assoc _ _ _))⟩)))
        repeat (go_quiet (first | (go_at_call 40; (with_reducible refine (winnowref03_Spans.calls k _ _ l0_8 _ _ l1_8 t320 _ ?side1 ?side2 ?side3 ?side4 A8.out).mono ?_); (case side1 => repeat (first | exact (Kd.C_below HR0_8.out HB.out) | (with_reducible refine Kd.C_alloc ?_ _) | (with_reducible refine Kd.C_drewN ?_ _) | (with_reducible refine Kd.C_drew ?_))); (case side2 => exact HC0_8.out); (case side3 => repeat (first | exact (Kd.C_below HR1_8.out HB.out) | (with_reducible refine Kd.C_alloc ?_ _) | (with_reducible refine Kd.C_drewN ?_ _) | (with_reducible refine Kd.C_drew ?_))); (case side4 => exact HC1_8.out); rintro e w' ⟨rfl, ⟨nd, rfl⟩⟩; (try first | exact ⟨rfl, _, World.drewN_drewN _ _ _⟩ | exact ⟨rfl, _, Eq.trans (World.drewN_drewN _ _ _) (congrArg (World.drewN _) (Nat.add_assoc _ _ _))⟩))); try go_wp2_with (first | (go_at_call 40; (with_reducible refine (winnowref03_Spans.calls k _ _ l0_8 _ _ l1_8 t320 _ ?side1 ?side2 ?side3 ?side4 A8.out).mono ?_); (case side1 => repeat (first | exact (Kd.C_below HR0_8.out HB.out) | (with_reducible refine Kd.C_alloc ?_ _) | (with_reducible refine Kd.C_drewN ?_ _) | (with_reducible refine Kd.C_drew ?_))); (case side2 => exact HC0_8.out); (case side3 => repeat (first | exact (Kd.C_below HR1_8.out HB.out) | (with_reducible refine Kd.C_alloc ?_ _) | (with_reducible refine Kd.C_drewN ?_ _) | (with_reducible refine Kd.C_drew ?_))); (case side4 => exact HC1_8.out); rintro e w' ⟨rfl, ⟨nd, rfl⟩⟩; (try first | exact ⟨rfl, _, World.drewN_drewN _ _ _⟩ | exact ⟨rfl, _, Eq.trans (World.drewN_drewN _ _ _) (congrArg (World.drewN _) (Nat.add_assoc _ _ _))⟩))))
        go_meet
        case rel => exact ⟨_, (!t320), (by first | rfl | (simp; done) | (simp [*]; done)), H', ⟨by first | omega | exact Nat.le_refl _⟩, ⟨by exact BK318.out⟩, ⟨by exact BK319.out⟩, ⟨by repeat (first | (with_reducible first | exact HB.out | apply below_alloc | apply pw_below_drewN | apply below_drew1 | refine below_set ?_ GE318.out | refine below_set ?_ GE319.out) | exact HB.out)⟩⟩
      · rw [if_neg c7] at H
        have c7b0 : ((l0_10.length : Int) == (l1_10.length : Int)) = false := beq_eq_false_iff_ne.mpr c7
        have c7b1 : ((l0_10.length : Int) != (l1_10.length : Int)) = true := bne_iff_ne.mpr c7
        have c7b2 : (l0_10.length == l1_10.length) = false := by first | simpa using c7 | (simp at c7 ⊢; omega)
        have H' := Aside0.mk H
        clear H
        have hnb12 := NB318_319.out
        have hnc12 := NB319_318.out
        have hcz13_0 : w5.cell? ⟨gb318, 0, none⟩ = some (.int .i64 a0_0) := (blk_cell BK318.out 0).trans rfl
        have hcz13_1 : w5.cell? ⟨gb318, 1, none⟩ = some (.int .u64 a0_1) := (blk_cell BK318.out 1).trans rfl
        have hcz13_2 : w5.cell? ⟨gb318, 2, none⟩ = some (.int .u64 a0_2) := (blk_cell BK318.out 2).trans rfl
        have hcz13_3 : w5.cell? ⟨gb318, 3, none⟩ = some (.int .u64 a0_3) := (blk_cell BK318.out 3).trans rfl
        have hcz13_4 : w5.cell? ⟨gb318, 4, none⟩ = some (.int .u64 a0_4) := (blk_cell BK318.out 4).trans rfl
        have hcz13_5 : w5.cell? ⟨gb318, 5, none⟩ = some (.int .u64 a0_5) := (blk_cell BK318.out 5).trans rfl
        have hcz13_6 : w5.cell? ⟨gb318, 6, none⟩ = some (.int .i64 a0_6) := (blk_cell BK318.out 6).trans rfl
        have hcz13_7 : w5.cell? ⟨gb318, 7, none⟩ = some (.bool a0_7) := (blk_cell BK318.out 7).trans rfl
        have hcz13_8 : w5.cell? ⟨gb318, 8, none⟩ = some (.slice A0_8 l0_8.length c0_8) := (blk_cell BK318.out 8).trans rfl
        have hcz13_9 : w5.cell? ⟨gb318, 9, none⟩ = some (.slice A0_9 l0_9.length c0_9) := (blk_cell BK318.out 9).trans rfl
        have hcz13_10 : w5.cell? ⟨gb318, 10, none⟩ = some (.slice A0_10 l0_10.length c0_10) := (blk_cell BK318.out 10).trans rfl
        have hfz13_0 := blk_frozen BK318.out 0
        have hfz13_1 := blk_frozen BK318.out 1
        have hfz13_2 := blk_frozen BK318.out 2
        have hfz13_3 := blk_frozen BK318.out 3
        have hfz13_4 := blk_frozen BK318.out 4
        have hfz13_5 := blk_frozen BK318.out 5
        have hfz13_6 := blk_frozen BK318.out 6
        have hfz13_7 := blk_frozen BK318.out 7
        have hfz13_8 := blk_frozen BK318.out 8
        have hfz13_9 := blk_frozen BK318.out 9
        have hfz13_10 := blk_frozen BK318.out 10
        have hcz14_0 : w5.cell? ⟨gb319, 0, none⟩ = some (.int .i64 a1_0) := (blk_cell BK319.out 0).trans rfl
        have hcz14_1 : w5.cell? ⟨gb319, 1, none⟩ = some (.int .u64 a1_1) := (blk_cell BK319.out 1).trans rfl
        have hcz14_2 : w5.cell? ⟨gb319, 2, none⟩ = some (.int .u64 a1_2) := (blk_cell BK319.out 2).trans rfl
        have hcz14_3 : w5.cell? ⟨gb319, 3, none⟩ = some (.int .u64 a1_3) := (blk_cell BK319.out 3).trans rfl
        have hcz14_4 : w5.cell? ⟨gb319, 4, none⟩ = some (.int .u64 a1_4) := (blk_cell BK319.out 4).trans rfl
        have hcz14_5 : w5.cell? ⟨gb319, 5, none⟩ = some (.int .u64 a1_5) := (blk_cell BK319.out 5).trans rfl
        have hcz14_6 : w5.cell? ⟨gb319, 6, none⟩ = some (.int .i64 a1_6) := (blk_cell BK319.out 6).trans rfl
        have hcz14_7 : w5.cell? ⟨gb319, 7, none⟩ = some (.bool a1_7) := (blk_cell BK319.out 7).trans rfl
        have hcz14_8 : w5.cell? ⟨gb319, 8, none⟩ = some (.slice A1_8 l1_8.length c1_8) := (blk_cell BK319.out 8).trans rfl
        have hcz14_9 : w5.cell? ⟨gb319, 9, none⟩ = some (.slice A1_9 l1_9.length c1_9) := (blk_cell BK319.out 9).trans rfl
        have hcz14_10 : w5.cell? ⟨gb319, 10, none⟩ = some (.slice A1_10 l1_10.length c1_10) := (blk_cell BK319.out 10).trans rfl
        have hfz14_0 := blk_frozen BK319.out 0
        have hfz14_1 := blk_frozen BK319.out 1
        have hfz14_2 := blk_frozen BK319.out 2
        have hfz14_3 := blk_frozen BK319.out 3
        have hfz14_4 := blk_frozen BK319.out 4
        have hfz14_5 := blk_frozen BK319.out 5
        have hfz14_6 := blk_frozen BK319.out 6
        have hfz14_7 := blk_frozen BK319.out 7
        have hfz14_8 := blk_frozen BK319.out 8
        have hfz14_9 := blk_frozen BK319.out 9
        have hfz14_10 := blk_frozen BK319.out 10
        go_wp2
        repeat (go_quiet (fail); try go_wp2)
        go_meet
        case rel => exact ⟨_, (true), (by first | rfl | (simp; done) | (simp [*]; done)), H', ⟨by first | omega | exact Nat.le_refl _⟩, ⟨by exact BK318.out⟩, ⟨by exact BK319.out⟩, ⟨by repeat (first | (with_reducible first | exact HB.out | apply below_alloc | apply pw_below_drewN | apply below_drew1 | refine below_set ?_ GE318.out | refine below_set ?_ GE319.out) | exact HB.out)⟩⟩
    · rw [if_neg c6] at H
      have c6b0 : ((l0_9.length : Int) == (l1_9.length : Int)) = false := beq_eq_false_iff_ne.mpr c6
      have c6b1 : ((l0_9.length : Int) != (l1_9.length : Int)) = true := bne_iff_ne.mpr c6
      have c6b2 : (l0_9.length == l1_9.length) = false := by first | simpa using c6 | (simp at c6 ⊢; omega)
      (first | rw [c6b0] | (simp only [i64_w, i32_w]; rw [c6b0]) | skip)
      have H' := Aside0.mk H
      clear H
      have hnb15 := NB318_319.out
      have hnc15 := NB319_318.out
      have hcz16_0 : w5.cell? ⟨gb318, 0, none⟩ = some (.int .i64 a0_0) := (blk_cell BK318.out 0).trans rfl
      have hcz16_1 : w5.cell? ⟨gb318, 1, none⟩ = some (.int .u64 a0_1) := (blk_cell BK318.out 1).trans rfl
      have hcz16_2 : w5.cell? ⟨gb318, 2, none⟩ = some (.int .u64 a0_2) := (blk_cell BK318.out 2).trans rfl
      have hcz16_3 : w5.cell? ⟨gb318, 3, none⟩ = some (.int .u64 a0_3) := (blk_cell BK318.out 3).trans rfl
      have hcz16_4 : w5.cell? ⟨gb318, 4, none⟩ = some (.int .u64 a0_4) := (blk_cell BK318.out 4).trans rfl
      have hcz16_5 : w5.cell? ⟨gb318, 5, none⟩ = some (.int .u64 a0_5) := (blk_cell BK318.out 5).trans rfl
      have hcz16_6 : w5.cell? ⟨gb318, 6, none⟩ = some (.int .i64 a0_6) := (blk_cell BK318.out 6).trans rfl
      have hcz16_7 : w5.cell? ⟨gb318, 7, none⟩ = some (.bool a0_7) := (blk_cell BK318.out 7).trans rfl
      have hcz16_8 : w5.cell? ⟨gb318, 8, none⟩ = some (.slice A0_8 l0_8.length c0_8) := (blk_cell BK318.out 8).trans rfl
      have hcz16_9 : w5.cell? ⟨gb318, 9, none⟩ = some (.slice A0_9 l0_9.length c0_9) := (blk_cell BK318.out 9).trans rfl
      have hcz16_10 : w5.cell? ⟨gb318, 10, none⟩ = some (.slice A0_10 l0_10.length c0_10) := (blk_cell BK318.out 10).trans rfl
      have hfz16_0 := blk_frozen BK318.out 0
      have hfz16_1 := blk_frozen BK318.out 1
      have hfz16_2 := blk_frozen BK318.out 2
      have hfz16_3 := blk_frozen BK318.out 3
      have hfz16_4 := blk_frozen BK318.out 4
      have hfz16_5 := blk_frozen BK318.out 5
      have hfz16_6 := blk_frozen BK318.out 6
      have hfz16_7 := blk_frozen BK318.out 7
      have hfz16_8 := blk_frozen BK318.out 8
      have hfz16_9 := blk_frozen BK318.out 9
      have hfz16_10 := blk_frozen BK318.out 10
      have hcz17_0 : w5.cell? ⟨gb319, 0, none⟩ = some (.int .i64 a1_0) := (blk_cell BK319.out 0).trans rfl
      have hcz17_1 : w5.cell? ⟨gb319, 1, none⟩ = some (.int .u64 a1_1) := (blk_cell BK319.out 1).trans rfl
      have hcz17_2 : w5.cell? ⟨gb319, 2, none⟩ = some (.int .u64 a1_2) := (blk_cell BK319.out 2).trans rfl
      have hcz17_3 : w5.cell? ⟨gb319, 3, none⟩ = some (.int .u64 a1_3) := (blk_cell BK319.out 3).trans rfl
      have hcz17_4 : w5.cell? ⟨gb319, 4, none⟩ = some (.int .u64 a1_4) := (blk_cell BK319.out 4).trans rfl
      have hcz17_5 : w5.cell? ⟨gb319, 5, none⟩ = some (.int .u64 a1_5) := (blk_cell BK319.out 5).trans rfl
      have hcz17_6 : w5.cell? ⟨gb319, 6, none⟩ = some (.int .i64 a1_6) := (blk_cell BK319.out 6).trans rfl
      have hcz17_7 : w5.cell? ⟨gb319, 7, none⟩ = some (.bool a1_7) := (blk_cell BK319.out 7).trans rfl
      have hcz17_8 : w5.cell? ⟨gb319, 8, none⟩ = some (.slice A1_8 l1_8.length c1_8) := (blk_cell BK319.out 8).trans rfl
      have hcz17_9 : w5.cell? ⟨gb319, 9, none⟩ = some (.slice A1_9 l1_9.length c1_9) := (blk_cell BK319.out 9).trans rfl
      have hcz17_10 : w5.cell? ⟨gb319, 10, none⟩ = some (.slice A1_10 l1_10.length c1_10) := (blk_cell BK319.out 10).trans rfl
      have hfz17_0 := blk_frozen BK319.out 0
      have hfz17_1 := blk_frozen BK319.out 1
      have hfz17_2 := blk_frozen BK319.out 2
      have hfz17_3 := blk_frozen BK319.out 3
      have hfz17_4 := blk_frozen BK319.out 4
      have hfz17_5 := blk_frozen BK319.out 5
      have hfz17_6 := blk_frozen BK319.out 6
      have hfz17_7 := blk_frozen BK319.out 7
      have hfz17_8 := blk_frozen BK319.out 8
      have hfz17_9 := blk_frozen BK319.out 9
      have hfz17_10 := blk_frozen BK319.out 10
      go_wp2
      repeat (go_quiet (fail); try go_wp2)
      go_meet
      case rel => exact ⟨_, (true), (by first | rfl | (simp; done) | (simp [*]; done)), H', ⟨by first | omega | exact Nat.le_refl _⟩, ⟨by exact BK318.out⟩, ⟨by exact BK319.out⟩, ⟨by repeat (first | (with_reducible first | exact HB.out | apply below_alloc | apply pw_below_drewN | apply below_drew1 | refine below_set ?_ GE318.out | refine below_set ?_ GE319.out) | exact HB.out)⟩⟩
  case rest =>
    clear HC3
    try clear c1
    try clear c2
    try clear p2
    try clear c6
    try clear c6b0
    try clear c6b1
    try clear c6b2
    try clear c7
    try clear c7b0
    try clear c7b1
    try clear c7b2
    try clear c9
    try clear c12
    try clear c15
    try clear hcz10_0
    try clear hcz10_1
    try clear hcz10_10
    try clear hcz10_2
    try clear hcz10_3
    try clear hcz10_4
    try clear hcz10_5
    try clear hcz10_6
    try clear hcz10_7
    try clear hcz10_8
    try clear hcz10_9
    try clear hcz11_0
    try clear hcz11_1
    try clear hcz11_10
    try clear hcz11_2
    try clear hcz11_3
    try clear hcz11_4
    try clear hcz11_5
    try clear hcz11_6
    try clear hcz11_7
    try clear hcz11_8
    try clear hcz11_9
    try clear hcz13_0
    try clear hcz13_1
    try clear hcz13_10
    try clear hcz13_2
    try clear hcz13_3
    try clear hcz13_4
    try clear hcz13_5
    try clear hcz13_6
    try clear hcz13_7
    try clear hcz13_8
    try clear hcz13_9
    try clear hcz14_0
    try clear hcz14_1
    try clear hcz14_10
    try clear hcz14_2
    try clear hcz14_3
    try clear hcz14_4
    try clear hcz14_5
    try clear hcz14_6
    try clear hcz14_7
    try clear hcz14_8
    try clear hcz14_9
    try clear hcz16_0
    try clear hcz16_1
    try clear hcz16_10
    try clear hcz16_2
    try clear hcz16_3
    try clear hcz16_4
    try clear hcz16_5
    try clear hcz16_6
    try clear hcz16_7
    try clear hcz16_8
    try clear hcz16_9
    try clear hcz17_0
    try clear hcz17_1
    try clear hcz17_10
    try clear hcz17_2
    try clear hcz17_3
    try clear hcz17_4
    try clear hcz17_5
    try clear hcz17_6
    try clear hcz17_7
    try clear hcz17_8
    try clear hcz17_9
    try clear hfz10_0
    try clear hfz10_1
    try clear hfz10_10
    try clear hfz10_2
    try clear hfz10_3
    try clear hfz10_4
    try clear hfz10_5
    try clear hfz10_6
    try clear hfz10_7
    try clear hfz10_8
    try clear hfz10_9
    try clear hfz11_0
    try clear hfz11_1
    try clear hfz11_10
    try clear hfz11_2
    try clear hfz11_3
    try clear hfz11_4
    try clear hfz11_5
    try clear hfz11_6
    try clear hfz11_7
    try clear hfz11_8
    try clear hfz11_9
    try clear hfz13_0
    try clear hfz13_1
    try clear hfz13_10
    try clear hfz13_2
    try clear hfz13_3
    try clear hfz13_4
    try clear hfz13_5
    try clear hfz13_6
    try clear hfz13_7
    try clear hfz13_8
    try clear hfz13_9
    try clear hfz14_0
    try clear hfz14_1
    try clear hfz14_10
    try clear hfz14_2
    try clear hfz14_3
    try clear hfz14_4
    try clear hfz14_5
    try clear hfz14_6
    try clear hfz14_7
    try clear hfz14_8
    try clear hfz14_9
    try clear hfz16_0
    try clear hfz16_1
    try clear hfz16_10
    try clear hfz16_2
    try clear hfz16_3
    try clear hfz16_4
    try clear hfz16_5
    try clear hfz16_6
    try clear hfz16_7
    try clear hfz16_8
    try clear hfz16_9
    try clear hfz17_0
    try clear hfz17_1
    try clear hfz17_10
    try clear hfz17_2
    try clear hfz17_3
    try clear hfz17_4
    try clear hfz17_5
    try clear hfz17_6
    try clear hfz17_7
    try clear hfz17_8
    try clear hfz17_9
    obtain ⟨kq, x30_2, rfl, HA, HJ2, BK318, BK319, HB⟩ := hcut
    cases kq with
    | zero => exact absurd HA.out (by simp [winnowref05_Same.j0])
    | succ kj2 =>
      have H := HA.out
      clear HA
      simp only [winnowref05_Same.j0] at H
      by_cases c18 : x30_2 = true
      · subst c18
        have H1 : (some false) = some r := by rw [if_pos rfl] at H; exact H
        clear H
        have H := H1
        clear H1
        obtain rfl := Option.some.inj H
        go_wp2
        repeat (go_quiet (fail); try go_wp2)
        go_ret
        exact ⟨by first | rfl | (simp [errW_none, errW_some] <;> rfl) | (simp [*, errW_none, errW_some] <;> rfl), by repeat (first | (with_reducible first | exact HB.out | apply below_alloc | apply pw_below_drewN | apply below_drew1 | refine below_set ?_ GE318.out | refine below_set ?_ GE319.out) | exact HB.out)⟩
      · replace c18 := Bool.eq_false_iff.mpr c18
        subst c18
        have H1 : (winnowref05_Same.l0 kj2 0 a0_0 a0_1 a0_2 a0_3 a0_4 a0_5 a0_6 a0_7 l0_8 l0_9 l0_10 a1_0 a1_1 a1_2 a1_3 a1_4 a1_5 a1_6 a1_7 l1_8 l1_9 l1_10) = some r := by rw [if_neg (show ¬ (false = true) by decide)] at H; exact H
        clear H
        have H := H1
        clear H1
        have H' := Aside0.mk H
        clear H
        go_wp2
        repeat (go_quiet (fail); try go_wp2)
        go_loopg [5] kj2 (fun kq v5 w' => ∃ (x5_2 : Int), v5 = .int .i64 x5_2 ∧ Aside0 (winnowref05_Same.l0 kq x5_2 a0_0 a0_1 a0_2 a0_3 a0_4 a0_5 a0_6 a0_7 l0_8 l0_9 l0_10 a1_0 a1_1 a1_2 a1_3 a1_4 a1_5 a1_6 a1_7 l1_8 l1_9 l1_10 = some r) ∧ Aside0 (kq ≤ kj2) ∧ Aside0 (w'.heap[gb318]? = some (.cells #[.int .i64 a0_0, .int .u64 a0_1, .int .u64 a0_2, .int .u64 a0_3, .int .u64 a0_4, .int .u64 a0_5, .int .i64 a0_6, .bool a0_7, (.slice A0_8 l0_8.length c0_8), (.slice A0_9 l0_9.length c0_9), (.slice A0_10 l0_10.length c0_10)] 58 (0, 0))) ∧ Aside0 (w'.heap[gb319]? = some (.cells #[.int .i64 a1_0, .int .u64 a1_1, .int .u64 a1_2, .int .u64 a1_3, .int .u64 a1_4, .int .u64 a1_5, .int .i64 a1_6, .bool a1_7, (.slice A1_8 l1_8.length c1_8), (.slice A1_9 l1_9.length c1_9), (.slice A1_10 l1_10.length c1_10)] 58 (0, 0))) ∧ Aside0 (Below w.heap.size w w'))
        case atStart => exact ⟨(0), (by first | rfl | (simp; done) | (simp [*]; done)), H', ⟨Nat.le_refl _⟩, ⟨by exact BK318.out⟩, ⟨by exact BK319.out⟩, ⟨by repeat (first | (with_reducible first | exact HB.out | apply below_alloc | apply pw_below_drewN | apply below_drew1 | refine below_set ?_ GE318.out | refine below_set ?_ GE319.out) | exact HB.out)⟩⟩
        case round =>
          clear H'
          try clear c1
          try clear c2
          try clear p2
          try clear c6
          try clear c6b0
          try clear c6b1
          try clear c6b2
          try clear c7
          try clear c7b0
          try clear c7b1
          try clear c7b2
          try clear c9
          try clear c12
          try clear c15
          try clear c18
          try clear hcz10_0
          try clear hcz10_1
          try clear hcz10_10
          try clear hcz10_2
          try clear hcz10_3
          try clear hcz10_4
          try clear hcz10_5
          try clear hcz10_6
          try clear hcz10_7
          try clear hcz10_8
          try clear hcz10_9
          try clear hcz11_0
          try clear hcz11_1
          try clear hcz11_10
          try clear hcz11_2
          try clear hcz11_3
          try clear hcz11_4
          try clear hcz11_5
          try clear hcz11_6
          try clear hcz11_7
          try clear hcz11_8
          try clear hcz11_9
          try clear hcz13_0
          try clear hcz13_1
          try clear hcz13_10
          try clear hcz13_2
          try clear hcz13_3
          try clear hcz13_4
          try clear hcz13_5
          try clear hcz13_6
          try clear hcz13_7
          try clear hcz13_8
          try clear hcz13_9
          try clear hcz14_0
          try clear hcz14_1
          try clear hcz14_10
          try clear hcz14_2
          try clear hcz14_3
          try clear hcz14_4
          try clear hcz14_5
          try clear hcz14_6
          try clear hcz14_7
          try clear hcz14_8
          try clear hcz14_9
          try clear hcz16_0
          try clear hcz16_1
          try clear hcz16_10
          try clear hcz16_2
          try clear hcz16_3
          try clear hcz16_4
          try clear hcz16_5
          try clear hcz16_6
          try clear hcz16_7
          try clear hcz16_8
          try clear hcz16_9
          try clear hcz17_0
          try clear hcz17_1
          try clear hcz17_10
          try clear hcz17_2
          try clear hcz17_3
          try clear hcz17_4
          try clear hcz17_5
          try clear hcz17_6
          try clear hcz17_7
          try clear hcz17_8
          try clear hcz17_9
          try clear hfz10_0
          try clear hfz10_1
          try clear hfz10_10
          try clear hfz10_2
          try clear hfz10_3
          try clear hfz10_4
          try clear hfz10_5
          try clear hfz10_6
          try clear hfz10_7
          try clear hfz10_8
          try clear hfz10_9
          try clear hfz11_0
          try clear hfz11_1
          try clear hfz11_10
          try clear hfz11_2
          try clear hfz11_3
          try clear hfz11_4
          try clear hfz11_5
          try clear hfz11_6
          try clear hfz11_7
          try clear hfz11_8
          try clear hfz11_9
          try clear hfz13_0
          try clear hfz13_1
          try clear hfz13_10
          try clear hfz13_2
          try clear hfz13_3
          try clear hfz13_4
          try clear hfz13_5
          try clear hfz13_6
          try clear hfz13_7
          try clear hfz13_8
          try clear hfz13_9
          try clear hfz14_0
          try clear hfz14_1
          try clear hfz14_10
          try clear hfz14_2
          try clear hfz14_3
          try clear hfz14_4
          try clear hfz14_5
          try clear hfz14_6
          try clear hfz14_7
          try clear hfz14_8
          try clear hfz14_9
          try clear hfz16_0
          try clear hfz16_1
          try clear hfz16_10
          try clear hfz16_2
          try clear hfz16_3
          try clear hfz16_4
          try clear hfz16_5
          try clear hfz16_6
          try clear hfz16_7
          try clear hfz16_8
          try clear hfz16_9
          try clear hfz17_0
          try clear hfz17_1
          try clear hfz17_10
          try clear hfz17_2
          try clear hfz17_3
          try clear hfz17_4
          try clear hfz17_5
          try clear hfz17_6
          try clear hfz17_7
          try clear hfz17_8
          try clear hfz17_9
          try clear p2
          obtain ⟨x5_2, rfl, HA, HK2, BK318, BK319, HB⟩ := hrel
          cases gk with
          | zero => exact absurd HA.out (by simp [winnowref05_Same.l0])
          | succ k2 =>
            have H := HA.out
            clear HA
            simp only [winnowref05_Same.l0] at H
            by_cases c19 : x5_2 < (l0_9.length : Int)
            · rw [if_pos c19] at H
              have c19b0 : decide (x5_2 < (l0_9.length : Int)) = true := decide_eq_true c19
              clear c19
              by_cases c20 : 0 ≤ x5_2
              · rw [if_pos c20] at H
                have c20b0 : decide (0 ≤ x5_2) = true := decide_eq_true c20
                clear c20
                by_cases c21 : x5_2 < (l1_9.length : Int)
                · rw [if_pos c21] at H
                  have c21b0 : decide (x5_2 < (l1_9.length : Int)) = true := decide_eq_true c21
                  clear c21
                  by_cases c22 : (!(((rd_T80 l0_9 x5_2).f0) == ((rd_T80 l1_9 x5_2).f0)) || (!(((rd_T80 l0_9 x5_2).f1) == ((rd_T80 l1_9 x5_2).f1)) || (!(((rd_T80 l0_9 x5_2).f2) == ((rd_T80 l1_9 x5_2).f2))))) = true
                  · rw [if_pos c22] at H
                    have c22b0 : (!(((rd_T80 l0_9 x5_2).f0) == ((rd_T80 l1_9 x5_2).f0)) || (!(((rd_T80 l0_9 x5_2).f1) == ((rd_T80 l1_9 x5_2).f1)) || (!(((rd_T80 l0_9 x5_2).f2) == ((rd_T80 l1_9 x5_2).f2))))) = true := c22
                    clear c22
                    obtain rfl := Option.some.inj H
                    have hnb23 := NB318_319.out
                    have hnc23 := NB319_318.out
                    have hcz24_0 : wr.cell? ⟨gb318, 0, none⟩ = some (.int .i64 a0_0) := (blk_cell BK318.out 0).trans rfl
                    have hcz24_1 : wr.cell? ⟨gb318, 1, none⟩ = some (.int .u64 a0_1) := (blk_cell BK318.out 1).trans rfl
                    have hcz24_2 : wr.cell? ⟨gb318, 2, none⟩ = some (.int .u64 a0_2) := (blk_cell BK318.out 2).trans rfl
                    have hcz24_3 : wr.cell? ⟨gb318, 3, none⟩ = some (.int .u64 a0_3) := (blk_cell BK318.out 3).trans rfl
                    have hcz24_4 : wr.cell? ⟨gb318, 4, none⟩ = some (.int .u64 a0_4) := (blk_cell BK318.out 4).trans rfl
                    have hcz24_5 : wr.cell? ⟨gb318, 5, none⟩ = some (.int .u64 a0_5) := (blk_cell BK318.out 5).trans rfl
                    have hcz24_6 : wr.cell? ⟨gb318, 6, none⟩ = some (.int .i64 a0_6) := (blk_cell BK318.out 6).trans rfl
                    have hcz24_7 : wr.cell? ⟨gb318, 7, none⟩ = some (.bool a0_7) := (blk_cell BK318.out 7).trans rfl
                    have hcz24_8 : wr.cell? ⟨gb318, 8, none⟩ = some (.slice A0_8 l0_8.length c0_8) := (blk_cell BK318.out 8).trans rfl
                    have hcz24_9 : wr.cell? ⟨gb318, 9, none⟩ = some (.slice A0_9 l0_9.length c0_9) := (blk_cell BK318.out 9).trans rfl
                    have hcz24_10 : wr.cell? ⟨gb318, 10, none⟩ = some (.slice A0_10 l0_10.length c0_10) := (blk_cell BK318.out 10).trans rfl
                    have hfz24_0 := blk_frozen BK318.out 0
                    have hfz24_1 := blk_frozen BK318.out 1
                    have hfz24_2 := blk_frozen BK318.out 2
                    have hfz24_3 := blk_frozen BK318.out 3
                    have hfz24_4 := blk_frozen BK318.out 4
                    have hfz24_5 := blk_frozen BK318.out 5
                    have hfz24_6 := blk_frozen BK318.out 6
                    have hfz24_7 := blk_frozen BK318.out 7
                    have hfz24_8 := blk_frozen BK318.out 8
                    have hfz24_9 := blk_frozen BK318.out 9
                    have hfz24_10 := blk_frozen BK318.out 10
                    have p321 : 0 ≤ (x5_2 : Int) := of_decide_eq_true (by first | (with_reducible assumption) | assumption)
                    have q321 : x5_2 < (l0_9.length : Int) := of_decide_eq_true (by first | (with_reducible assumption) | assumption)
                    obtain ⟨ad321, e321, hx321_0, hx321_1, hx321_2⟩ := at_T80 HR0_9.out x5_2 p321 q321
                    cases e321
                    replace hx321_0 := (HB.out.cell (World.block_lt_of_cell? w _ hx321_0)).trans hx321_0
                    replace hx321_1 := (HB.out.cell (World.block_lt_of_cell? w _ hx321_1)).trans hx321_1
                    replace hx321_2 := (HB.out.cell (World.block_lt_of_cell? w _ hx321_2)).trans hx321_2
                    replace p321 := eq_true p321
                    replace q321 := eq_true q321
                    have hcz25_0 : wr.cell? ⟨gb319, 0, none⟩ = some (.int .i64 a1_0) := (blk_cell BK319.out 0).trans rfl
                    have hcz25_1 : wr.cell? ⟨gb319, 1, none⟩ = some (.int .u64 a1_1) := (blk_cell BK319.out 1).trans rfl
                    have hcz25_2 : wr.cell? ⟨gb319, 2, none⟩ = some (.int .u64 a1_2) := (blk_cell BK319.out 2).trans rfl
                    have hcz25_3 : wr.cell? ⟨gb319, 3, none⟩ = some (.int .u64 a1_3) := (blk_cell BK319.out 3).trans rfl
                    have hcz25_4 : wr.cell? ⟨gb319, 4, none⟩ = some (.int .u64 a1_4) := (blk_cell BK319.out 4).trans rfl
                    have hcz25_5 : wr.cell? ⟨gb319, 5, none⟩ = some (.int .u64 a1_5) := (blk_cell BK319.out 5).trans rfl
                    have hcz25_6 : wr.cell? ⟨gb319, 6, none⟩ = some (.int .i64 a1_6) := (blk_cell BK319.out 6).trans rfl
                    have hcz25_7 : wr.cell? ⟨gb319, 7, none⟩ = some (.bool a1_7) := (blk_cell BK319.out 7).trans rfl
                    have hcz25_8 : wr.cell? ⟨gb319, 8, none⟩ = some (.slice A1_8 l1_8.length c1_8) := (blk_cell BK319.out 8).trans rfl
                    have hcz25_9 : wr.cell? ⟨gb319, 9, none⟩ = some (.slice A1_9 l1_9.length c1_9) := (blk_cell BK319.out 9).trans rfl
                    have hcz25_10 : wr.cell? ⟨gb319, 10, none⟩ = some (.slice A1_10 l1_10.length c1_10) := (blk_cell BK319.out 10).trans rfl
                    have hfz25_0 := blk_frozen BK319.out 0
                    have hfz25_1 := blk_frozen BK319.out 1
                    have hfz25_2 := blk_frozen BK319.out 2
                    have hfz25_3 := blk_frozen BK319.out 3
                    have hfz25_4 := blk_frozen BK319.out 4
                    have hfz25_5 := blk_frozen BK319.out 5
                    have hfz25_6 := blk_frozen BK319.out 6
                    have hfz25_7 := blk_frozen BK319.out 7
                    have hfz25_8 := blk_frozen BK319.out 8
                    have hfz25_9 := blk_frozen BK319.out 9
                    have hfz25_10 := blk_frozen BK319.out 10
                    have p322 : 0 ≤ (x5_2 : Int) := of_decide_eq_true (by first | (with_reducible assumption) | assumption)
                    have q322 : x5_2 < (l1_9.length : Int) := of_decide_eq_true (by first | (with_reducible assumption) | assumption)
                    obtain ⟨ad322, e322, hx322_0, hx322_1, hx322_2⟩ := at_T80 HR1_9.out x5_2 p322 q322
                    cases e322
                    replace hx322_0 := (HB.out.cell (World.block_lt_of_cell? w _ hx322_0)).trans hx322_0
                    replace hx322_1 := (HB.out.cell (World.block_lt_of_cell? w _ hx322_1)).trans hx322_1
                    replace hx322_2 := (HB.out.cell (World.block_lt_of_cell? w _ hx322_2)).trans hx322_2
                    replace p322 := eq_true p322
                    replace q322 := eq_true q322
                    go_wp2
                    repeat (go_quiet (fail); try go_wp2)
                    go_ret
                    exact ⟨by first | rfl | (simp [errW_none, errW_some] <;> rfl) | (simp [*, errW_none, errW_some] <;> rfl), by repeat (first | (with_reducible first | exact HB.out | apply below_alloc | apply pw_below_drewN | apply below_drew1 | refine below_set ?_ GE318.out | refine below_set ?_ GE319.out) | exact HB.out)⟩
                  · rw [if_neg c22] at H
                    have c22b0 : (!(((rd_T80 l0_9 x5_2).f0) == ((rd_T80 l1_9 x5_2).f0)) || (!(((rd_T80 l0_9 x5_2).f1) == ((rd_T80 l1_9 x5_2).f1)) || (!(((rd_T80 l0_9 x5_2).f2) == ((rd_T80 l1_9 x5_2).f2))))) = false := by simpa using c22
                    clear c22
                    have H' := Aside0.mk H
                    clear H
                    have hnb26 := NB318_319.out
                    have hnc26 := NB319_318.out
                    have hcz27_0 : wr.cell? ⟨gb318, 0, none⟩ = some (.int .i64 a0_0) := (blk_cell BK318.out 0).trans rfl
                    have hcz27_1 : wr.cell? ⟨gb318, 1, none⟩ = some (.int .u64 a0_1) := (blk_cell BK318.out 1).trans rfl
                    have hcz27_2 : wr.cell? ⟨gb318, 2, none⟩ = some (.int .u64 a0_2) := (blk_cell BK318.out 2).trans rfl
                    have hcz27_3 : wr.cell? ⟨gb318, 3, none⟩ = some (.int .u64 a0_3) := (blk_cell BK318.out 3).trans rfl
                    have hcz27_4 : wr.cell? ⟨gb318, 4, none⟩ = some (.int .u64 a0_4) := (blk_cell BK318.out 4).trans rfl
                    have hcz27_5 : wr.cell? ⟨gb318, 5, none⟩ = some (.int .u64 a0_5) := (blk_cell BK318.out 5).trans rfl
                    have hcz27_6 : wr.cell? ⟨gb318, 6, none⟩ = some (.int .i64 a0_6) := (blk_cell BK318.out 6).trans rfl
                    have hcz27_7 : wr.cell? ⟨gb318, 7, none⟩ = some (.bool a0_7) := (blk_cell BK318.out 7).trans rfl
                    have hcz27_8 : wr.cell? ⟨gb318, 8, none⟩ = some (.slice A0_8 l0_8.length c0_8) := (blk_cell BK318.out 8).trans rfl
                    have hcz27_9 : wr.cell? ⟨gb318, 9, none⟩ = some (.slice A0_9 l0_9.length c0_9) := (blk_cell BK318.out 9).trans rfl
                    have hcz27_10 : wr.cell? ⟨gb318, 10, none⟩ = some (.slice A0_10 l0_10.length c0_10) := (blk_cell BK318.out 10).trans rfl
                    have hfz27_0 := blk_frozen BK318.out 0
                    have hfz27_1 := blk_frozen BK318.out 1
                    have hfz27_2 := blk_frozen BK318.out 2
                    have hfz27_3 := blk_frozen BK318.out 3
                    have hfz27_4 := blk_frozen BK318.out 4
                    have hfz27_5 := blk_frozen BK318.out 5
                    have hfz27_6 := blk_frozen BK318.out 6
                    have hfz27_7 := blk_frozen BK318.out 7
                    have hfz27_8 := blk_frozen BK318.out 8
                    have hfz27_9 := blk_frozen BK318.out 9
                    have hfz27_10 := blk_frozen BK318.out 10
                    have p321 : 0 ≤ (x5_2 : Int) := of_decide_eq_true (by first | (with_reducible assumption) | assumption)
                    have q321 : x5_2 < (l0_9.length : Int) := of_decide_eq_true (by first | (with_reducible assumption) | assumption)
                    obtain ⟨ad321, e321, hx321_0, hx321_1, hx321_2⟩ := at_T80 HR0_9.out x5_2 p321 q321
                    cases e321
                    replace hx321_0 := (HB.out.cell (World.block_lt_of_cell? w _ hx321_0)).trans hx321_0
                    replace hx321_1 := (HB.out.cell (World.block_lt_of_cell? w _ hx321_1)).trans hx321_1
                    replace hx321_2 := (HB.out.cell (World.block_lt_of_cell? w _ hx321_2)).trans hx321_2
                    replace p321 := eq_true p321
                    replace q321 := eq_true q321
                    have hcz28_0 : wr.cell? ⟨gb319, 0, none⟩ = some (.int .i64 a1_0) := (blk_cell BK319.out 0).trans rfl
                    have hcz28_1 : wr.cell? ⟨gb319, 1, none⟩ = some (.int .u64 a1_1) := (blk_cell BK319.out 1).trans rfl
                    have hcz28_2 : wr.cell? ⟨gb319, 2, none⟩ = some (.int .u64 a1_2) := (blk_cell BK319.out 2).trans rfl
                    have hcz28_3 : wr.cell? ⟨gb319, 3, none⟩ = some (.int .u64 a1_3) := (blk_cell BK319.out 3).trans rfl
                    have hcz28_4 : wr.cell? ⟨gb319, 4, none⟩ = some (.int .u64 a1_4) := (blk_cell BK319.out 4).trans rfl
                    have hcz28_5 : wr.cell? ⟨gb319, 5, none⟩ = some (.int .u64 a1_5) := (blk_cell BK319.out 5).trans rfl
                    have hcz28_6 : wr.cell? ⟨gb319, 6, none⟩ = some (.int .i64 a1_6) := (blk_cell BK319.out 6).trans rfl
                    have hcz28_7 : wr.cell? ⟨gb319, 7, none⟩ = some (.bool a1_7) := (blk_cell BK319.out 7).trans rfl
                    have hcz28_8 : wr.cell? ⟨gb319, 8, none⟩ = some (.slice A1_8 l1_8.length c1_8) := (blk_cell BK319.out 8).trans rfl
                    have hcz28_9 : wr.cell? ⟨gb319, 9, none⟩ = some (.slice A1_9 l1_9.length c1_9) := (blk_cell BK319.out 9).trans rfl
                    have hcz28_10 : wr.cell? ⟨gb319, 10, none⟩ = some (.slice A1_10 l1_10.length c1_10) := (blk_cell BK319.out 10).trans rfl
                    have hfz28_0 := blk_frozen BK319.out 0
                    have hfz28_1 := blk_frozen BK319.out 1
                    have hfz28_2 := blk_frozen BK319.out 2
                    have hfz28_3 := blk_frozen BK319.out 3
                    have hfz28_4 := blk_frozen BK319.out 4
                    have hfz28_5 := blk_frozen BK319.out 5
                    have hfz28_6 := blk_frozen BK319.out 6
                    have hfz28_7 := blk_frozen BK319.out 7
                    have hfz28_8 := blk_frozen BK319.out 8
                    have hfz28_9 := blk_frozen BK319.out 9
                    have hfz28_10 := blk_frozen BK319.out 10
                    have p322 : 0 ≤ (x5_2 : Int) := of_decide_eq_true (by first | (with_reducible assumption) | assumption)
                    have q322 : x5_2 < (l1_9.length : Int) := of_decide_eq_true (by first | (with_reducible assumption) | assumption)
                    obtain ⟨ad322, e322, hx322_0, hx322_1, hx322_2⟩ := at_T80 HR1_9.out x5_2 p322 q322
                    cases e322
                    replace hx322_0 := (HB.out.cell (World.block_lt_of_cell? w _ hx322_0)).trans hx322_0
                    replace hx322_1 := (HB.out.cell (World.block_lt_of_cell? w _ hx322_1)).trans hx322_1
                    replace hx322_2 := (HB.out.cell (World.block_lt_of_cell? w _ hx322_2)).trans hx322_2
                    replace p322 := eq_true p322
                    replace q322 := eq_true q322
                    go_wp2
                    repeat (go_quiet (fail); try go_wp2)
                    go_roundg k2
                    case measure => have := HJ2.out; have := HK2.out; omega
                    case rel => exact ⟨(wrap64 (x5_2 + 1)), (by first | rfl | (simp; done) | (simp [*]; done)), H', ⟨by have := HJ2.out; have := HK2.out; omega⟩, ⟨by exact BK318.out⟩, ⟨by exact BK319.out⟩, ⟨by repeat (first | (with_reducible first | exact HB.out | apply below_alloc | apply pw_below_drewN | apply below_drew1 | refine below_set ?_ GE318.out | refine below_set ?_ GE319.out) | exact HB.out)⟩⟩
                · rw [if_neg c21] at H
                  exact absurd H (by simp)
              · rw [if_neg c20] at H
                exact absurd H (by simp)
            · rw [if_neg c19] at H
              have c19b0 : decide (x5_2 < (l0_9.length : Int)) = false := decide_eq_false c19
              clear c19
              have H' := Aside0.mk H
              clear H
              have hnb29 := NB318_319.out
              have hnc29 := NB319_318.out
              have hcz30_0 : wr.cell? ⟨gb318, 0, none⟩ = some (.int .i64 a0_0) := (blk_cell BK318.out 0).trans rfl
              have hcz30_1 : wr.cell? ⟨gb318, 1, none⟩ = some (.int .u64 a0_1) := (blk_cell BK318.out 1).trans rfl
              have hcz30_2 : wr.cell? ⟨gb318, 2, none⟩ = some (.int .u64 a0_2) := (blk_cell BK318.out 2).trans rfl
              have hcz30_3 : wr.cell? ⟨gb318, 3, none⟩ = some (.int .u64 a0_3) := (blk_cell BK318.out 3).trans rfl
              have hcz30_4 : wr.cell? ⟨gb318, 4, none⟩ = some (.int .u64 a0_4) := (blk_cell BK318.out 4).trans rfl
              have hcz30_5 : wr.cell? ⟨gb318, 5, none⟩ = some (.int .u64 a0_5) := (blk_cell BK318.out 5).trans rfl
              have hcz30_6 : wr.cell? ⟨gb318, 6, none⟩ = some (.int .i64 a0_6) := (blk_cell BK318.out 6).trans rfl
              have hcz30_7 : wr.cell? ⟨gb318, 7, none⟩ = some (.bool a0_7) := (blk_cell BK318.out 7).trans rfl
              have hcz30_8 : wr.cell? ⟨gb318, 8, none⟩ = some (.slice A0_8 l0_8.length c0_8) := (blk_cell BK318.out 8).trans rfl
              have hcz30_9 : wr.cell? ⟨gb318, 9, none⟩ = some (.slice A0_9 l0_9.length c0_9) := (blk_cell BK318.out 9).trans rfl
              have hcz30_10 : wr.cell? ⟨gb318, 10, none⟩ = some (.slice A0_10 l0_10.length c0_10) := (blk_cell BK318.out 10).trans rfl
              have hfz30_0 := blk_frozen BK318.out 0
              have hfz30_1 := blk_frozen BK318.out 1
              have hfz30_2 := blk_frozen BK318.out 2
              have hfz30_3 := blk_frozen BK318.out 3
              have hfz30_4 := blk_frozen BK318.out 4
              have hfz30_5 := blk_frozen BK318.out 5
              have hfz30_6 := blk_frozen BK318.out 6
              have hfz30_7 := blk_frozen BK318.out 7
              have hfz30_8 := blk_frozen BK318.out 8
              have hfz30_9 := blk_frozen BK318.out 9
              have hfz30_10 := blk_frozen BK318.out 10
              go_wp2
              repeat (go_quiet (fail); try go_wp2)
              go_loopg [6] k2 (fun kq v6 w' => ∃ (x6_3 : Int), v6 = .int .i64 x6_3 ∧ Aside0 (winnowref05_Same.l1 kq x6_3 a0_0 a0_1 a0_2 a0_3 a0_4 a0_5 a0_6 a0_7 l0_8 l0_9 l0_10 a1_0 a1_1 a1_2 a1_3 a1_4 a1_5 a1_6 a1_7 l1_8 l1_9 l1_10 = some r) ∧ Aside0 (kq ≤ k2) ∧ Aside0 (w'.heap[gb318]? = some (.cells #[.int .i64 a0_0, .int .u64 a0_1, .int .u64 a0_2, .int .u64 a0_3, .int .u64 a0_4, .int .u64 a0_5, .int .i64 a0_6, .bool a0_7, (.slice A0_8 l0_8.length c0_8), (.slice A0_9 l0_9.length c0_9), (.slice A0_10 l0_10.length c0_10)] 58 (0, 0))) ∧ Aside0 (w'.heap[gb319]? = some (.cells #[.int .i64 a1_0, .int .u64 a1_1, .int .u64 a1_2, .int .u64 a1_3, .int .u64 a1_4, .int .u64 a1_5, .int .i64 a1_6, .bool a1_7, (.slice A1_8 l1_8.length c1_8), (.slice A1_9 l1_9.length c1_9), (.slice A1_10 l1_10.length c1_10)] 58 (0, 0))) ∧ Aside0 (Below w.heap.size w w'))
              case atStart => exact ⟨(0), (by first | rfl | (simp; done) | (simp [*]; done)), H', ⟨Nat.le_refl _⟩, ⟨by exact BK318.out⟩, ⟨by exact BK319.out⟩, ⟨by repeat (first | (with_reducible first | exact HB.out | apply below_alloc | apply pw_below_drewN | apply below_drew1 | refine below_set ?_ GE318.out | refine below_set ?_ GE319.out) | exact HB.out)⟩⟩
              case round =>
                clear H'
                try clear c1
                try clear c2
                try clear p2
                try clear p3
                try clear q3
                try clear hx3
                try clear c6
                try clear c6b0
                try clear c6b1
                try clear c6b2
                try clear p6
                try clear c7
                try clear c7b0
                try clear c7b1
                try clear c7b2
                try clear c9
                try clear c12
                try clear c15
                try clear c18
                try clear c19
                try clear c19b0
                try clear c20
                try clear c20b0
                try clear c21
                try clear c21b0
                try clear c22
                try clear c22b0
                try clear c23
                try clear c26
                try clear c29
                try clear hcz10_0
                try clear hcz10_1
                try clear hcz10_10
                try clear hcz10_2
                try clear hcz10_3
                try clear hcz10_4
                try clear hcz10_5
                try clear hcz10_6
                try clear hcz10_7
                try clear hcz10_8
                try clear hcz10_9
                try clear hcz11_0
                try clear hcz11_1
                try clear hcz11_10
                try clear hcz11_2
                try clear hcz11_3
                try clear hcz11_4
                try clear hcz11_5
                try clear hcz11_6
                try clear hcz11_7
                try clear hcz11_8
                try clear hcz11_9
                try clear hcz13_0
                try clear hcz13_1
                try clear hcz13_10
                try clear hcz13_2
                try clear hcz13_3
                try clear hcz13_4
                try clear hcz13_5
                try clear hcz13_6
                try clear hcz13_7
                try clear hcz13_8
                try clear hcz13_9
                try clear hcz14_0
                try clear hcz14_1
                try clear hcz14_10
                try clear hcz14_2
                try clear hcz14_3
                try clear hcz14_4
                try clear hcz14_5
                try clear hcz14_6
                try clear hcz14_7
                try clear hcz14_8
                try clear hcz14_9
                try clear hcz16_0
                try clear hcz16_1
                try clear hcz16_10
                try clear hcz16_2
                try clear hcz16_3
                try clear hcz16_4
                try clear hcz16_5
                try clear hcz16_6
                try clear hcz16_7
                try clear hcz16_8
                try clear hcz16_9
                try clear hcz17_0
                try clear hcz17_1
                try clear hcz17_10
                try clear hcz17_2
                try clear hcz17_3
                try clear hcz17_4
                try clear hcz17_5
                try clear hcz17_6
                try clear hcz17_7
                try clear hcz17_8
                try clear hcz17_9
                try clear hcz24_0
                try clear hcz24_1
                try clear hcz24_10
                try clear hcz24_2
                try clear hcz24_3
                try clear hcz24_4
                try clear hcz24_5
                try clear hcz24_6
                try clear hcz24_7
                try clear hcz24_8
                try clear hcz24_9
                try clear hcz25_0
                try clear hcz25_1
                try clear hcz25_10
                try clear hcz25_2
                try clear hcz25_3
                try clear hcz25_4
                try clear hcz25_5
                try clear hcz25_6
                try clear hcz25_7
                try clear hcz25_8
                try clear hcz25_9
                try clear hcz27_0
                try clear hcz27_1
                try clear hcz27_10
                try clear hcz27_2
                try clear hcz27_3
                try clear hcz27_4
                try clear hcz27_5
                try clear hcz27_6
                try clear hcz27_7
                try clear hcz27_8
                try clear hcz27_9
                try clear hcz28_0
                try clear hcz28_1
                try clear hcz28_10
                try clear hcz28_2
                try clear hcz28_3
                try clear hcz28_4
                try clear hcz28_5
                try clear hcz28_6
                try clear hcz28_7
                try clear hcz28_8
                try clear hcz28_9
                try clear hcz30_0
                try clear hcz30_1
                try clear hcz30_10
                try clear hcz30_2
                try clear hcz30_3
                try clear hcz30_4
                try clear hcz30_5
                try clear hcz30_6
                try clear hcz30_7
                try clear hcz30_8
                try clear hcz30_9
                try clear hfz10_0
                try clear hfz10_1
                try clear hfz10_10
                try clear hfz10_2
                try clear hfz10_3
                try clear hfz10_4
                try clear hfz10_5
                try clear hfz10_6
                try clear hfz10_7
                try clear hfz10_8
                try clear hfz10_9
                try clear hfz11_0
                try clear hfz11_1
                try clear hfz11_10
                try clear hfz11_2
                try clear hfz11_3
                try clear hfz11_4
                try clear hfz11_5
                try clear hfz11_6
                try clear hfz11_7
                try clear hfz11_8
                try clear hfz11_9
                try clear hfz13_0
                try clear hfz13_1
                try clear hfz13_10
                try clear hfz13_2
                try clear hfz13_3
                try clear hfz13_4
                try clear hfz13_5
                try clear hfz13_6
                try clear hfz13_7
                try clear hfz13_8
                try clear hfz13_9
                try clear hfz14_0
                try clear hfz14_1
                try clear hfz14_10
                try clear hfz14_2
                try clear hfz14_3
                try clear hfz14_4
                try clear hfz14_5
                try clear hfz14_6
                try clear hfz14_7
                try clear hfz14_8
                try clear hfz14_9
                try clear hfz16_0
                try clear hfz16_1
                try clear hfz16_10
                try clear hfz16_2
                try clear hfz16_3
                try clear hfz16_4
                try clear hfz16_5
                try clear hfz16_6
                try clear hfz16_7
                try clear hfz16_8
                try clear hfz16_9
                try clear hfz17_0
                try clear hfz17_1
                try clear hfz17_10
                try clear hfz17_2
                try clear hfz17_3
                try clear hfz17_4
                try clear hfz17_5
                try clear hfz17_6
                try clear hfz17_7
                try clear hfz17_8
                try clear hfz17_9
                try clear hfz24_0
                try clear hfz24_1
                try clear hfz24_10
                try clear hfz24_2
                try clear hfz24_3
                try clear hfz24_4
                try clear hfz24_5
                try clear hfz24_6
                try clear hfz24_7
                try clear hfz24_8
                try clear hfz24_9
                try clear hfz25_0
                try clear hfz25_1
                try clear hfz25_10
                try clear hfz25_2
                try clear hfz25_3
                try clear hfz25_4
                try clear hfz25_5
                try clear hfz25_6
                try clear hfz25_7
                try clear hfz25_8
                try clear hfz25_9
                try clear hfz27_0
                try clear hfz27_1
                try clear hfz27_10
                try clear hfz27_2
                try clear hfz27_3
                try clear hfz27_4
                try clear hfz27_5
                try clear hfz27_6
                try clear hfz27_7
                try clear hfz27_8
                try clear hfz27_9
                try clear hfz28_0
                try clear hfz28_1
                try clear hfz28_10
                try clear hfz28_2
                try clear hfz28_3
                try clear hfz28_4
                try clear hfz28_5
                try clear hfz28_6
                try clear hfz28_7
                try clear hfz28_8
                try clear hfz28_9
                try clear hfz30_0
                try clear hfz30_1
                try clear hfz30_10
                try clear hfz30_2
                try clear hfz30_3
                try clear hfz30_4
                try clear hfz30_5
                try clear hfz30_6
                try clear hfz30_7
                try clear hfz30_8
                try clear hfz30_9
                try clear hx321_0
                try clear hx321_1
                try clear hx321_2
                try clear hx322_0
                try clear hx322_1
                try clear hx322_2
                try clear p2
                try clear p321
                try clear p322
                try clear q321
                try clear q322
                obtain ⟨x6_3, rfl, HA, HK3, BK318, BK319, HB⟩ := hrel
                cases gk with
                | zero => exact absurd HA.out (by simp [winnowref05_Same.l1])
                | succ k3 =>
                  have H := HA.out
                  clear HA
                  simp only [winnowref05_Same.l1] at H
                  by_cases c31 : x6_3 < (l0_10.length : Int)
                  · rw [if_pos c31] at H
                    have c31b0 : decide (x6_3 < (l0_10.length : Int)) = true := decide_eq_true c31
                    clear c31
                    by_cases c32 : 0 ≤ x6_3
                    · rw [if_pos c32] at H
                      have c32b0 : decide (0 ≤ x6_3) = true := decide_eq_true c32
                      clear c32
                      by_cases c33 : x6_3 < (l1_10.length : Int)
                      · rw [if_pos c33] at H
                        have c33b0 : decide (x6_3 < (l1_10.length : Int)) = true := decide_eq_true c33
                        clear c33
                        by_cases c34 : (rd l0_10 x6_3) = (rd l1_10 x6_3)
                        · rw [if_pos c34] at H
                          have c34b0 : ((rd l0_10 x6_3) == (rd l1_10 x6_3)) = true := beq_iff_eq.mpr c34
                          have c34b1 : ((rd l0_10 x6_3) != (rd l1_10 x6_3)) = false := bne_eq_false_iff_eq.mpr c34
                          clear c34
                          have H' := Aside0.mk H
                          clear H
                          have hnb35 := NB318_319.out
                          have hnc35 := NB319_318.out
                          have hcz36_0 : wr.cell? ⟨gb318, 0, none⟩ = some (.int .i64 a0_0) := (blk_cell BK318.out 0).trans rfl
                          have hcz36_1 : wr.cell? ⟨gb318, 1, none⟩ = some (.int .u64 a0_1) := (blk_cell BK318.out 1).trans rfl
                          have hcz36_2 : wr.cell? ⟨gb318, 2, none⟩ = some (.int .u64 a0_2) := (blk_cell BK318.out 2).trans rfl
                          have hcz36_3 : wr.cell? ⟨gb318, 3, none⟩ = some (.int .u64 a0_3) := (blk_cell BK318.out 3).trans rfl
                          have hcz36_4 : wr.cell? ⟨gb318, 4, none⟩ = some (.int .u64 a0_4) := (blk_cell BK318.out 4).trans rfl
                          have hcz36_5 : wr.cell? ⟨gb318, 5, none⟩ = some (.int .u64 a0_5) := (blk_cell BK318.out 5).trans rfl
                          have hcz36_6 : wr.cell? ⟨gb318, 6, none⟩ = some (.int .i64 a0_6) := (blk_cell BK318.out 6).trans rfl
                          have hcz36_7 : wr.cell? ⟨gb318, 7, none⟩ = some (.bool a0_7) := (blk_cell BK318.out 7).trans rfl
                          have hcz36_8 : wr.cell? ⟨gb318, 8, none⟩ = some (.slice A0_8 l0_8.length c0_8) := (blk_cell BK318.out 8).trans rfl
                          have hcz36_9 : wr.cell? ⟨gb318, 9, none⟩ = some (.slice A0_9 l0_9.length c0_9) := (blk_cell BK318.out 9).trans rfl
                          have hcz36_10 : wr.cell? ⟨gb318, 10, none⟩ = some (.slice A0_10 l0_10.length c0_10) := (blk_cell BK318.out 10).trans rfl
                          have hfz36_0 := blk_frozen BK318.out 0
                          have hfz36_1 := blk_frozen BK318.out 1
                          have hfz36_2 := blk_frozen BK318.out 2
                          have hfz36_3 := blk_frozen BK318.out 3
                          have hfz36_4 := blk_frozen BK318.out 4
                          have hfz36_5 := blk_frozen BK318.out 5
                          have hfz36_6 := blk_frozen BK318.out 6
                          have hfz36_7 := blk_frozen BK318.out 7
                          have hfz36_8 := blk_frozen BK318.out 8
                          have hfz36_9 := blk_frozen BK318.out 9
                          have hfz36_10 := blk_frozen BK318.out 10
                          have p323 : 0 ≤ (x6_3 : Int) := of_decide_eq_true (by first | (with_reducible assumption) | assumption)
                          have q323 : x6_3 < (l0_10.length : Int) := of_decide_eq_true (by first | (with_reducible assumption) | assumption)
                          obtain ⟨ad323, e323, hx323_0⟩ := Kd.at_int HR0_10.out x6_3 p323 q323
                          cases e323
                          replace hx323_0 := (HB.out.cell (World.block_lt_of_cell? w _ hx323_0)).trans hx323_0
                          replace p323 := eq_true p323
                          replace q323 := eq_true q323
                          have hcz37_0 : wr.cell? ⟨gb319, 0, none⟩ = some (.int .i64 a1_0) := (blk_cell BK319.out 0).trans rfl
                          have hcz37_1 : wr.cell? ⟨gb319, 1, none⟩ = some (.int .u64 a1_1) := (blk_cell BK319.out 1).trans rfl
                          have hcz37_2 : wr.cell? ⟨gb319, 2, none⟩ = some (.int .u64 a1_2) := (blk_cell BK319.out 2).trans rfl
                          have hcz37_3 : wr.cell? ⟨gb319, 3, none⟩ = some (.int .u64 a1_3) := (blk_cell BK319.out 3).trans rfl
                          have hcz37_4 : wr.cell? ⟨gb319, 4, none⟩ = some (.int .u64 a1_4) := (blk_cell BK319.out 4).trans rfl
                          have hcz37_5 : wr.cell? ⟨gb319, 5, none⟩ = some (.int .u64 a1_5) := (blk_cell BK319.out 5).trans rfl
                          have hcz37_6 : wr.cell? ⟨gb319, 6, none⟩ = some (.int .i64 a1_6) := (blk_cell BK319.out 6).trans rfl
                          have hcz37_7 : wr.cell? ⟨gb319, 7, none⟩ = some (.bool a1_7) := (blk_cell BK319.out 7).trans rfl
                          have hcz37_8 : wr.cell? ⟨gb319, 8, none⟩ = some (.slice A1_8 l1_8.length c1_8) := (blk_cell BK319.out 8).trans rfl
                          have hcz37_9 : wr.cell? ⟨gb319, 9, none⟩ = some (.slice A1_9 l1_9.length c1_9) := (blk_cell BK319.out 9).trans rfl
                          have hcz37_10 : wr.cell? ⟨gb319, 10, none⟩ = some (.slice A1_10 l1_10.length c1_10) := (blk_cell BK319.out 10).trans rfl
                          have hfz37_0 := blk_frozen BK319.out 0
                          have hfz37_1 := blk_frozen BK319.out 1
                          have hfz37_2 := blk_frozen BK319.out 2
                          have hfz37_3 := blk_frozen BK319.out 3
                          have hfz37_4 := blk_frozen BK319.out 4
                          have hfz37_5 := blk_frozen BK319.out 5
                          have hfz37_6 := blk_frozen BK319.out 6
                          have hfz37_7 := blk_frozen BK319.out 7
                          have hfz37_8 := blk_frozen BK319.out 8
                          have hfz37_9 := blk_frozen BK319.out 9
                          have hfz37_10 := blk_frozen BK319.out 10
                          have p324 : 0 ≤ (x6_3 : Int) := of_decide_eq_true (by first | (with_reducible assumption) | assumption)
                          have q324 : x6_3 < (l1_10.length : Int) := of_decide_eq_true (by first | (with_reducible assumption) | assumption)
                          obtain ⟨ad324, e324, hx324_0⟩ := Kd.at_int HR1_10.out x6_3 p324 q324
                          cases e324
                          replace hx324_0 := (HB.out.cell (World.block_lt_of_cell? w _ hx324_0)).trans hx324_0
                          replace p324 := eq_true p324
                          replace q324 := eq_true q324
                          go_wp2
                          repeat (go_quiet (fail); try go_wp2)
                          go_roundg k3
                          case measure => have := HJ2.out; have := HK2.out; have := HK3.out; omega
                          case rel => exact ⟨(wrap64 (x6_3 + 1)), (by first | rfl | (simp; done) | (simp [*]; done)), H', ⟨by have := HJ2.out; have := HK2.out; have := HK3.out; omega⟩, ⟨by exact BK318.out⟩, ⟨by exact BK319.out⟩, ⟨by repeat (first | (with_reducible first | exact HB.out | apply below_alloc | apply pw_below_drewN | apply below_drew1 | refine below_set ?_ GE318.out | refine below_set ?_ GE319.out) | exact HB.out)⟩⟩
                        · rw [if_neg c34] at H
                          have c34b0 : ((rd l0_10 x6_3) == (rd l1_10 x6_3)) = false := beq_eq_false_iff_ne.mpr c34
                          have c34b1 : ((rd l0_10 x6_3) != (rd l1_10 x6_3)) = true := bne_iff_ne.mpr c34
                          obtain rfl := Option.some.inj H
                          have hnb38 := NB318_319.out
                          have hnc38 := NB319_318.out
                          have hcz39_0 : wr.cell? ⟨gb318, 0, none⟩ = some (.int .i64 a0_0) := (blk_cell BK318.out 0).trans rfl
                          have hcz39_1 : wr.cell? ⟨gb318, 1, none⟩ = some (.int .u64 a0_1) := (blk_cell BK318.out 1).trans rfl
                          have hcz39_2 : wr.cell? ⟨gb318, 2, none⟩ = some (.int .u64 a0_2) := (blk_cell BK318.out 2).trans rfl
                          have hcz39_3 : wr.cell? ⟨gb318, 3, none⟩ = some (.int .u64 a0_3) := (blk_cell BK318.out 3).trans rfl
                          have hcz39_4 : wr.cell? ⟨gb318, 4, none⟩ = some (.int .u64 a0_4) := (blk_cell BK318.out 4).trans rfl
                          have hcz39_5 : wr.cell? ⟨gb318, 5, none⟩ = some (.int .u64 a0_5) := (blk_cell BK318.out 5).trans rfl
                          have hcz39_6 : wr.cell? ⟨gb318, 6, none⟩ = some (.int .i64 a0_6) := (blk_cell BK318.out 6).trans rfl
                          have hcz39_7 : wr.cell? ⟨gb318, 7, none⟩ = some (.bool a0_7) := (blk_cell BK318.out 7).trans rfl
                          have hcz39_8 : wr.cell? ⟨gb318, 8, none⟩ = some (.slice A0_8 l0_8.length c0_8) := (blk_cell BK318.out 8).trans rfl
                          have hcz39_9 : wr.cell? ⟨gb318, 9, none⟩ = some (.slice A0_9 l0_9.length c0_9) := (blk_cell BK318.out 9).trans rfl
                          have hcz39_10 : wr.cell? ⟨gb318, 10, none⟩ = some (.slice A0_10 l0_10.length c0_10) := (blk_cell BK318.out 10).trans rfl
                          have hfz39_0 := blk_frozen BK318.out 0
                          have hfz39_1 := blk_frozen BK318.out 1
                          have hfz39_2 := blk_frozen BK318.out 2
                          have hfz39_3 := blk_frozen BK318.out 3
                          have hfz39_4 := blk_frozen BK318.out 4
                          have hfz39_5 := blk_frozen BK318.out 5
                          have hfz39_6 := blk_frozen BK318.out 6
                          have hfz39_7 := blk_frozen BK318.out 7
                          have hfz39_8 := blk_frozen BK318.out 8
                          have hfz39_9 := blk_frozen BK318.out 9
                          have hfz39_10 := blk_frozen BK318.out 10
                          have p323 : 0 ≤ (x6_3 : Int) := of_decide_eq_true (by first | (with_reducible assumption) | assumption)
                          have q323 : x6_3 < (l0_10.length : Int) := of_decide_eq_true (by first | (with_reducible assumption) | assumption)
                          obtain ⟨ad323, e323, hx323_0⟩ := Kd.at_int HR0_10.out x6_3 p323 q323
                          cases e323
                          replace hx323_0 := (HB.out.cell (World.block_lt_of_cell? w _ hx323_0)).trans hx323_0
                          replace p323 := eq_true p323
                          replace q323 := eq_true q323
                          have hcz40_0 : wr.cell? ⟨gb319, 0, none⟩ = some (.int .i64 a1_0) := (blk_cell BK319.out 0).trans rfl
                          have hcz40_1 : wr.cell? ⟨gb319, 1, none⟩ = some (.int .u64 a1_1) := (blk_cell BK319.out 1).trans rfl
                          have hcz40_2 : wr.cell? ⟨gb319, 2, none⟩ = some (.int .u64 a1_2) := (blk_cell BK319.out 2).trans rfl
                          have hcz40_3 : wr.cell? ⟨gb319, 3, none⟩ = some (.int .u64 a1_3) := (blk_cell BK319.out 3).trans rfl
                          have hcz40_4 : wr.cell? ⟨gb319, 4, none⟩ = some (.int .u64 a1_4) := (blk_cell BK319.out 4).trans rfl
                          have hcz40_5 : wr.cell? ⟨gb319, 5, none⟩ = some (.int .u64 a1_5) := (blk_cell BK319.out 5).trans rfl
                          have hcz40_6 : wr.cell? ⟨gb319, 6, none⟩ = some (.int .i64 a1_6) := (blk_cell BK319.out 6).trans rfl
                          have hcz40_7 : wr.cell? ⟨gb319, 7, none⟩ = some (.bool a1_7) := (blk_cell BK319.out 7).trans rfl
                          have hcz40_8 : wr.cell? ⟨gb319, 8, none⟩ = some (.slice A1_8 l1_8.length c1_8) := (blk_cell BK319.out 8).trans rfl
                          have hcz40_9 : wr.cell? ⟨gb319, 9, none⟩ = some (.slice A1_9 l1_9.length c1_9) := (blk_cell BK319.out 9).trans rfl
                          have hcz40_10 : wr.cell? ⟨gb319, 10, none⟩ = some (.slice A1_10 l1_10.length c1_10) := (blk_cell BK319.out 10).trans rfl
                          have hfz40_0 := blk_frozen BK319.out 0
                          have hfz40_1 := blk_frozen BK319.out 1
                          have hfz40_2 := blk_frozen BK319.out 2
                          have hfz40_3 := blk_frozen BK319.out 3
                          have hfz40_4 := blk_frozen BK319.out 4
                          have hfz40_5 := blk_frozen BK319.out 5
                          have hfz40_6 := blk_frozen BK319.out 6
                          have hfz40_7 := blk_frozen BK319.out 7
                          have hfz40_8 := blk_frozen BK319.out 8
                          have hfz40_9 := blk_frozen BK319.out 9
                          have hfz40_10 := blk_frozen BK319.out 10
                          have p324 : 0 ≤ (x6_3 : Int) := of_decide_eq_true (by first | (with_reducible assumption) | assumption)
                          have q324 : x6_3 < (l1_10.length : Int) := of_decide_eq_true (by first | (with_reducible assumption) | assumption)
                          obtain ⟨ad324, e324, hx324_0⟩ := Kd.at_int HR1_10.out x6_3 p324 q324
                          cases e324
                          replace hx324_0 := (HB.out.cell (World.block_lt_of_cell? w _ hx324_0)).trans hx324_0
                          replace p324 := eq_true p324
                          replace q324 := eq_true q324
                          go_wp2
                          repeat (go_quiet (fail); try go_wp2)
                          go_ret
                          exact ⟨by first | rfl | (simp [errW_none, errW_some] <;> rfl) | (simp [*, errW_none, errW_some] <;> rfl), by repeat (first | (with_reducible first | exact HB.out | apply below_alloc | apply pw_below_drewN | apply below_drew1 | refine below_set ?_ GE318.out | refine below_set ?_ GE319.out) | exact HB.out)⟩
                      · rw [if_neg c33] at H
                        exact absurd H (by simp)
                    · rw [if_neg c32] at H
                      exact absurd H (by simp)
                  · rw [if_neg c31] at H
                    have c31b0 : decide (x6_3 < (l0_10.length : Int)) = false := decide_eq_false c31
                    clear c31
                    by_cases c41 : a0_0 = a1_0
                    · rw [if_pos c41] at H
                      have c41b0 : (a0_0 == a1_0) = true := beq_iff_eq.mpr c41
                      have c41b1 : (a0_0 != a1_0) = false := bne_eq_false_iff_eq.mpr c41
                      clear c41
                      by_cases c42 : a0_1 = a1_1
                      · rw [if_pos c42] at H
                        have c42b0 : (a0_1 == a1_1) = true := beq_iff_eq.mpr c42
                        have c42b1 : (a0_1 != a1_1) = false := bne_eq_false_iff_eq.mpr c42
                        clear c42
                        by_cases c43 : (a0_2 == a1_2 && (a0_3 == a1_3)) = true
                        · rw [if_pos c43] at H
                          have c43b0 : (a0_2 == a1_2 && (a0_3 == a1_3)) = true := c43
                          (try (have c43b1 : decide (a0_2 = a1_2 && (a0_3 == a1_3)) = true := by simpa using c43))
                          (try (have c43b2 : (a0_2 == a1_2 && (a0_3 == a1_3)) = true := by simpa using c43))
                          clear c43
                          by_cases c44 : (a0_4 == a1_4 && (a0_5 == a1_5)) = true
                          · rw [if_pos c44] at H
                            have c44b0 : (a0_4 == a1_4 && (a0_5 == a1_5)) = true := c44
                            (try (have c44b1 : decide (a0_4 = a1_4 && (a0_5 == a1_5)) = true := by simpa using c44))
                            (try (have c44b2 : (a0_4 == a1_4 && (a0_5 == a1_5)) = true := by simpa using c44))
                            clear c44
                            by_cases c45 : a0_6 = a1_6
                            · rw [if_pos c45] at H
                              have c45b0 : (a0_6 == a1_6) = true := beq_iff_eq.mpr c45
                              have c45b1 : (a0_6 != a1_6) = false := bne_eq_false_iff_eq.mpr c45
                              clear c45
                              obtain rfl := Option.some.inj H
                              have hnb46 := NB318_319.out
                              have hnc46 := NB319_318.out
                              have hcz47_0 : wr.cell? ⟨gb318, 0, none⟩ = some (.int .i64 a0_0) := (blk_cell BK318.out 0).trans rfl
                              have hcz47_1 : wr.cell? ⟨gb318, 1, none⟩ = some (.int .u64 a0_1) := (blk_cell BK318.out 1).trans rfl
                              have hcz47_2 : wr.cell? ⟨gb318, 2, none⟩ = some (.int .u64 a0_2) := (blk_cell BK318.out 2).trans rfl
                              have hcz47_3 : wr.cell? ⟨gb318, 3, none⟩ = some (.int .u64 a0_3) := (blk_cell BK318.out 3).trans rfl
                              have hcz47_4 : wr.cell? ⟨gb318, 4, none⟩ = some (.int .u64 a0_4) := (blk_cell BK318.out 4).trans rfl
                              have hcz47_5 : wr.cell? ⟨gb318, 5, none⟩ = some (.int .u64 a0_5) := (blk_cell BK318.out 5).trans rfl
                              have hcz47_6 : wr.cell? ⟨gb318, 6, none⟩ = some (.int .i64 a0_6) := (blk_cell BK318.out 6).trans rfl
                              have hcz47_7 : wr.cell? ⟨gb318, 7, none⟩ = some (.bool a0_7) := (blk_cell BK318.out 7).trans rfl
                              have hcz47_8 : wr.cell? ⟨gb318, 8, none⟩ = some (.slice A0_8 l0_8.length c0_8) := (blk_cell BK318.out 8).trans rfl
                              have hcz47_9 : wr.cell? ⟨gb318, 9, none⟩ = some (.slice A0_9 l0_9.length c0_9) := (blk_cell BK318.out 9).trans rfl
                              have hcz47_10 : wr.cell? ⟨gb318, 10, none⟩ = some (.slice A0_10 l0_10.length c0_10) := (blk_cell BK318.out 10).trans rfl
                              have hfz47_0 := blk_frozen BK318.out 0
                              have hfz47_1 := blk_frozen BK318.out 1
                              have hfz47_2 := blk_frozen BK318.out 2
                              have hfz47_3 := blk_frozen BK318.out 3
                              have hfz47_4 := blk_frozen BK318.out 4
                              have hfz47_5 := blk_frozen BK318.out 5
                              have hfz47_6 := blk_frozen BK318.out 6
                              have hfz47_7 := blk_frozen BK318.out 7
                              have hfz47_8 := blk_frozen BK318.out 8
                              have hfz47_9 := blk_frozen BK318.out 9
                              have hfz47_10 := blk_frozen BK318.out 10
                              have hcz48_0 : wr.cell? ⟨gb319, 0, none⟩ = some (.int .i64 a1_0) := (blk_cell BK319.out 0).trans rfl
                              have hcz48_1 : wr.cell? ⟨gb319, 1, none⟩ = some (.int .u64 a1_1) := (blk_cell BK319.out 1).trans rfl
                              have hcz48_2 : wr.cell? ⟨gb319, 2, none⟩ = some (.int .u64 a1_2) := (blk_cell BK319.out 2).trans rfl
                              have hcz48_3 : wr.cell? ⟨gb319, 3, none⟩ = some (.int .u64 a1_3) := (blk_cell BK319.out 3).trans rfl
                              have hcz48_4 : wr.cell? ⟨gb319, 4, none⟩ = some (.int .u64 a1_4) := (blk_cell BK319.out 4).trans rfl
                              have hcz48_5 : wr.cell? ⟨gb319, 5, none⟩ = some (.int .u64 a1_5) := (blk_cell BK319.out 5).trans rfl
                              have hcz48_6 : wr.cell? ⟨gb319, 6, none⟩ = some (.int .i64 a1_6) := (blk_cell BK319.out 6).trans rfl
                              have hcz48_7 : wr.cell? ⟨gb319, 7, none⟩ = some (.bool a1_7) := (blk_cell BK319.out 7).trans rfl
                              have hcz48_8 : wr.cell? ⟨gb319, 8, none⟩ = some (.slice A1_8 l1_8.length c1_8) := (blk_cell BK319.out 8).trans rfl
                              have hcz48_9 : wr.cell? ⟨gb319, 9, none⟩ = some (.slice A1_9 l1_9.length c1_9) := (blk_cell BK319.out 9).trans rfl
                              have hcz48_10 : wr.cell? ⟨gb319, 10, none⟩ = some (.slice A1_10 l1_10.length c1_10) := (blk_cell BK319.out 10).trans rfl
                              have hfz48_0 := blk_frozen BK319.out 0
                              have hfz48_1 := blk_frozen BK319.out 1
                              have hfz48_2 := blk_frozen BK319.out 2
                              have hfz48_3 := blk_frozen BK319.out 3
                              have hfz48_4 := blk_frozen BK319.out 4
                              have hfz48_5 := blk_frozen BK319.out 5
                              have hfz48_6 := blk_frozen BK319.out 6
                              have hfz48_7 := blk_frozen BK319.out 7
                              have hfz48_8 := blk_frozen BK319.out 8
                              have hfz48_9 := blk_frozen BK319.out 9
                              have hfz48_10 := blk_frozen BK319.out 10
                              go_wp2
                              repeat (go_quiet (fail); try go_wp2)
                              go_ret
                              exact ⟨by first | rfl | (simp [errW_none, errW_some] <;> rfl) | (simp [*, errW_none, errW_some] <;> rfl), by repeat (first | (with_reducible first | exact HB.out | apply below_alloc | apply pw_below_drewN | apply below_drew1 | refine below_set ?_ GE318.out | refine below_set ?_ GE319.out) | exact HB.out)⟩
                            · rw [if_neg c45] at H
                              have c45b0 : (a0_6 == a1_6) = false := beq_eq_false_iff_ne.mpr c45
                              have c45b1 : (a0_6 != a1_6) = true := bne_iff_ne.mpr c45
                              obtain rfl := Option.some.inj H
                              have hnb49 := NB318_319.out
                              have hnc49 := NB319_318.out
                              have hcz50_0 : wr.cell? ⟨gb318, 0, none⟩ = some (.int .i64 a0_0) := (blk_cell BK318.out 0).trans rfl
                              have hcz50_1 : wr.cell? ⟨gb318, 1, none⟩ = some (.int .u64 a0_1) := (blk_cell BK318.out 1).trans rfl
                              have hcz50_2 : wr.cell? ⟨gb318, 2, none⟩ = some (.int .u64 a0_2) := (blk_cell BK318.out 2).trans rfl
                              have hcz50_3 : wr.cell? ⟨gb318, 3, none⟩ = some (.int .u64 a0_3) := (blk_cell BK318.out 3).trans rfl
                              have hcz50_4 : wr.cell? ⟨gb318, 4, none⟩ = some (.int .u64 a0_4) := (blk_cell BK318.out 4).trans rfl
                              have hcz50_5 : wr.cell? ⟨gb318, 5, none⟩ = some (.int .u64 a0_5) := (blk_cell BK318.out 5).trans rfl
                              have hcz50_6 : wr.cell? ⟨gb318, 6, none⟩ = some (.int .i64 a0_6) := (blk_cell BK318.out 6).trans rfl
                              have hcz50_7 : wr.cell? ⟨gb318, 7, none⟩ = some (.bool a0_7) := (blk_cell BK318.out 7).trans rfl
                              have hcz50_8 : wr.cell? ⟨gb318, 8, none⟩ = some (.slice A0_8 l0_8.length c0_8) := (blk_cell BK318.out 8).trans rfl
                              have hcz50_9 : wr.cell? ⟨gb318, 9, none⟩ = some (.slice A0_9 l0_9.length c0_9) := (blk_cell BK318.out 9).trans rfl
                              have hcz50_10 : wr.cell? ⟨gb318, 10, none⟩ = some (.slice A0_10 l0_10.length c0_10) := (blk_cell BK318.out 10).trans rfl
                              have hfz50_0 := blk_frozen BK318.out 0
                              have hfz50_1 := blk_frozen BK318.out 1
                              have hfz50_2 := blk_frozen BK318.out 2
                              have hfz50_3 := blk_frozen BK318.out 3
                              have hfz50_4 := blk_frozen BK318.out 4
                              have hfz50_5 := blk_frozen BK318.out 5
                              have hfz50_6 := blk_frozen BK318.out 6
                              have hfz50_7 := blk_frozen BK318.out 7
                              have hfz50_8 := blk_frozen BK318.out 8
                              have hfz50_9 := blk_frozen BK318.out 9
                              have hfz50_10 := blk_frozen BK318.out 10
                              have hcz51_0 : wr.cell? ⟨gb319, 0, none⟩ = some (.int .i64 a1_0) := (blk_cell BK319.out 0).trans rfl
                              have hcz51_1 : wr.cell? ⟨gb319, 1, none⟩ = some (.int .u64 a1_1) := (blk_cell BK319.out 1).trans rfl
                              have hcz51_2 : wr.cell? ⟨gb319, 2, none⟩ = some (.int .u64 a1_2) := (blk_cell BK319.out 2).trans rfl
                              have hcz51_3 : wr.cell? ⟨gb319, 3, none⟩ = some (.int .u64 a1_3) := (blk_cell BK319.out 3).trans rfl
                              have hcz51_4 : wr.cell? ⟨gb319, 4, none⟩ = some (.int .u64 a1_4) := (blk_cell BK319.out 4).trans rfl
                              have hcz51_5 : wr.cell? ⟨gb319, 5, none⟩ = some (.int .u64 a1_5) := (blk_cell BK319.out 5).trans rfl
                              have hcz51_6 : wr.cell? ⟨gb319, 6, none⟩ = some (.int .i64 a1_6) := (blk_cell BK319.out 6).trans rfl
                              have hcz51_7 : wr.cell? ⟨gb319, 7, none⟩ = some (.bool a1_7) := (blk_cell BK319.out 7).trans rfl
                              have hcz51_8 : wr.cell? ⟨gb319, 8, none⟩ = some (.slice A1_8 l1_8.length c1_8) := (blk_cell BK319.out 8).trans rfl
                              have hcz51_9 : wr.cell? ⟨gb319, 9, none⟩ = some (.slice A1_9 l1_9.length c1_9) := (blk_cell BK319.out 9).trans rfl
                              have hcz51_10 : wr.cell? ⟨gb319, 10, none⟩ = some (.slice A1_10 l1_10.length c1_10) := (blk_cell BK319.out 10).trans rfl
                              have hfz51_0 := blk_frozen BK319.out 0
                              have hfz51_1 := blk_frozen BK319.out 1
                              have hfz51_2 := blk_frozen BK319.out 2
                              have hfz51_3 := blk_frozen BK319.out 3
                              have hfz51_4 := blk_frozen BK319.out 4
                              have hfz51_5 := blk_frozen BK319.out 5
                              have hfz51_6 := blk_frozen BK319.out 6
                              have hfz51_7 := blk_frozen BK319.out 7
                              have hfz51_8 := blk_frozen BK319.out 8
                              have hfz51_9 := blk_frozen BK319.out 9
                              have hfz51_10 := blk_frozen BK319.out 10
                              go_wp2
                              repeat (go_quiet (fail); try go_wp2)
                              go_ret
                              exact ⟨by first | rfl | (simp [errW_none, errW_some] <;> rfl) | (simp [*, errW_none, errW_some] <;> rfl), by repeat (first | (with_reducible first | exact HB.out | apply below_alloc | apply pw_below_drewN | apply below_drew1 | refine below_set ?_ GE318.out | refine below_set ?_ GE319.out) | exact HB.out)⟩
                          · rw [if_neg c44] at H
                            have c44b0 : (a0_4 == a1_4 && (a0_5 == a1_5)) = false := by simpa using c44
                            (try (have c44b1 : decide (a0_4 = a1_4 && (a0_5 == a1_5)) = false := by simpa using c44))
                            (try (have c44b2 : (a0_4 == a1_4 && (a0_5 == a1_5)) = false := by simpa using c44))
                            (try (have c44b3 : ¬ (a0_4 = a1_4 && (a0_5 == a1_5)) := by simpa using c44))
                            clear c44
                            obtain rfl := Option.some.inj H
                            have hnb52 := NB318_319.out
                            have hnc52 := NB319_318.out
                            have hcz53_0 : wr.cell? ⟨gb318, 0, none⟩ = some (.int .i64 a0_0) := (blk_cell BK318.out 0).trans rfl
                            have hcz53_1 : wr.cell? ⟨gb318, 1, none⟩ = some (.int .u64 a0_1) := (blk_cell BK318.out 1).trans rfl
                            have hcz53_2 : wr.cell? ⟨gb318, 2, none⟩ = some (.int .u64 a0_2) := (blk_cell BK318.out 2).trans rfl
                            have hcz53_3 : wr.cell? ⟨gb318, 3, none⟩ = some (.int .u64 a0_3) := (blk_cell BK318.out 3).trans rfl
                            have hcz53_4 : wr.cell? ⟨gb318, 4, none⟩ = some (.int .u64 a0_4) := (blk_cell BK318.out 4).trans rfl
                            have hcz53_5 : wr.cell? ⟨gb318, 5, none⟩ = some (.int .u64 a0_5) := (blk_cell BK318.out 5).trans rfl
                            have hcz53_6 : wr.cell? ⟨gb318, 6, none⟩ = some (.int .i64 a0_6) := (blk_cell BK318.out 6).trans rfl
                            have hcz53_7 : wr.cell? ⟨gb318, 7, none⟩ = some (.bool a0_7) := (blk_cell BK318.out 7).trans rfl
                            have hcz53_8 : wr.cell? ⟨gb318, 8, none⟩ = some (.slice A0_8 l0_8.length c0_8) := (blk_cell BK318.out 8).trans rfl
                            have hcz53_9 : wr.cell? ⟨gb318, 9, none⟩ = some (.slice A0_9 l0_9.length c0_9) := (blk_cell BK318.out 9).trans rfl
                            have hcz53_10 : wr.cell? ⟨gb318, 10, none⟩ = some (.slice A0_10 l0_10.length c0_10) := (blk_cell BK318.out 10).trans rfl
                            have hfz53_0 := blk_frozen BK318.out 0
                            have hfz53_1 := blk_frozen BK318.out 1
                            have hfz53_2 := blk_frozen BK318.out 2
                            have hfz53_3 := blk_frozen BK318.out 3
                            have hfz53_4 := blk_frozen BK318.out 4
                            have hfz53_5 := blk_frozen BK318.out 5
                            have hfz53_6 := blk_frozen BK318.out 6
                            have hfz53_7 := blk_frozen BK318.out 7
                            have hfz53_8 := blk_frozen BK318.out 8
                            have hfz53_9 := blk_frozen BK318.out 9
                            have hfz53_10 := blk_frozen BK318.out 10
                            have hcz54_0 : wr.cell? ⟨gb319, 0, none⟩ = some (.int .i64 a1_0) := (blk_cell BK319.out 0).trans rfl
                            have hcz54_1 : wr.cell? ⟨gb319, 1, none⟩ = some (.int .u64 a1_1) := (blk_cell BK319.out 1).trans rfl
                            have hcz54_2 : wr.cell? ⟨gb319, 2, none⟩ = some (.int .u64 a1_2) := (blk_cell BK319.out 2).trans rfl
                            have hcz54_3 : wr.cell? ⟨gb319, 3, none⟩ = some (.int .u64 a1_3) := (blk_cell BK319.out 3).trans rfl
                            have hcz54_4 : wr.cell? ⟨gb319, 4, none⟩ = some (.int .u64 a1_4) := (blk_cell BK319.out 4).trans rfl
                            have hcz54_5 : wr.cell? ⟨gb319, 5, none⟩ = some (.int .u64 a1_5) := (blk_cell BK319.out 5).trans rfl
                            have hcz54_6 : wr.cell? ⟨gb319, 6, none⟩ = some (.int .i64 a1_6) := (blk_cell BK319.out 6).trans rfl
                            have hcz54_7 : wr.cell? ⟨gb319, 7, none⟩ = some (.bool a1_7) := (blk_cell BK319.out 7).trans rfl
                            have hcz54_8 : wr.cell? ⟨gb319, 8, none⟩ = some (.slice A1_8 l1_8.length c1_8) := (blk_cell BK319.out 8).trans rfl
                            have hcz54_9 : wr.cell? ⟨gb319, 9, none⟩ = some (.slice A1_9 l1_9.length c1_9) := (blk_cell BK319.out 9).trans rfl
                            have hcz54_10 : wr.cell? ⟨gb319, 10, none⟩ = some (.slice A1_10 l1_10.length c1_10) := (blk_cell BK319.out 10).trans rfl
                            have hfz54_0 := blk_frozen BK319.out 0
                            have hfz54_1 := blk_frozen BK319.out 1
                            have hfz54_2 := blk_frozen BK319.out 2
                            have hfz54_3 := blk_frozen BK319.out 3
                            have hfz54_4 := blk_frozen BK319.out 4
                            have hfz54_5 := blk_frozen BK319.out 5
                            have hfz54_6 := blk_frozen BK319.out 6
                            have hfz54_7 := blk_frozen BK319.out 7
                            have hfz54_8 := blk_frozen BK319.out 8
                            have hfz54_9 := blk_frozen BK319.out 9
                            have hfz54_10 := blk_frozen BK319.out 10
                            go_wp2
                            repeat (go_quiet (fail); try go_wp2)
                            go_ret
                            exact ⟨by first | rfl | (simp [errW_none, errW_some] <;> rfl) | (simp [*, errW_none, errW_some] <;> rfl), by repeat (first | (with_reducible first | exact HB.out | apply below_alloc | apply pw_below_drewN | apply below_drew1 | refine below_set ?_ GE318.out | refine below_set ?_ GE319.out) | exact HB.out)⟩
                        · rw [if_neg c43] at H
                          have c43b0 : (a0_2 == a1_2 && (a0_3 == a1_3)) = false := by simpa using c43
                          (try (have c43b1 : decide (a0_2 = a1_2 && (a0_3 == a1_3)) = false := by simpa using c43))
                          (try (have c43b2 : (a0_2 == a1_2 && (a0_3 == a1_3)) = false := by simpa using c43))
                          (try (have c43b3 : ¬ (a0_2 = a1_2 && (a0_3 == a1_3)) := by simpa using c43))
                          clear c43
                          obtain rfl := Option.some.inj H
                          have hnb55 := NB318_319.out
                          have hnc55 := NB319_318.out
                          have hcz56_0 : wr.cell? ⟨gb318, 0, none⟩ = some (.int .i64 a0_0) := (blk_cell BK318.out 0).trans rfl
                          have hcz56_1 : wr.cell? ⟨gb318, 1, none⟩ = some (.int .u64 a0_1) := (blk_cell BK318.out 1).trans rfl
                          have hcz56_2 : wr.cell? ⟨gb318, 2, none⟩ = some (.int .u64 a0_2) := (blk_cell BK318.out 2).trans rfl
                          have hcz56_3 : wr.cell? ⟨gb318, 3, none⟩ = some (.int .u64 a0_3) := (blk_cell BK318.out 3).trans rfl
                          have hcz56_4 : wr.cell? ⟨gb318, 4, none⟩ = some (.int .u64 a0_4) := (blk_cell BK318.out 4).trans rfl
                          have hcz56_5 : wr.cell? ⟨gb318, 5, none⟩ = some (.int .u64 a0_5) := (blk_cell BK318.out 5).trans rfl
                          have hcz56_6 : wr.cell? ⟨gb318, 6, none⟩ = some (.int .i64 a0_6) := (blk_cell BK318.out 6).trans rfl
                          have hcz56_7 : wr.cell? ⟨gb318, 7, none⟩ = some (.bool a0_7) := (blk_cell BK318.out 7).trans rfl
                          have hcz56_8 : wr.cell? ⟨gb318, 8, none⟩ = some (.slice A0_8 l0_8.length c0_8) := (blk_cell BK318.out 8).trans rfl
                          have hcz56_9 : wr.cell? ⟨gb318, 9, none⟩ = some (.slice A0_9 l0_9.length c0_9) := (blk_cell BK318.out 9).trans rfl
                          have hcz56_10 : wr.cell? ⟨gb318, 10, none⟩ = some (.slice A0_10 l0_10.length c0_10) := (blk_cell BK318.out 10).trans rfl
                          have hfz56_0 := blk_frozen BK318.out 0
                          have hfz56_1 := blk_frozen BK318.out 1
                          have hfz56_2 := blk_frozen BK318.out 2
                          have hfz56_3 := blk_frozen BK318.out 3
                          have hfz56_4 := blk_frozen BK318.out 4
                          have hfz56_5 := blk_frozen BK318.out 5
                          have hfz56_6 := blk_frozen BK318.out 6
                          have hfz56_7 := blk_frozen BK318.out 7
                          have hfz56_8 := blk_frozen BK318.out 8
                          have hfz56_9 := blk_frozen BK318.out 9
                          have hfz56_10 := blk_frozen BK318.out 10
                          have hcz57_0 : wr.cell? ⟨gb319, 0, none⟩ = some (.int .i64 a1_0) := (blk_cell BK319.out 0).trans rfl
                          have hcz57_1 : wr.cell? ⟨gb319, 1, none⟩ = some (.int .u64 a1_1) := (blk_cell BK319.out 1).trans rfl
                          have hcz57_2 : wr.cell? ⟨gb319, 2, none⟩ = some (.int .u64 a1_2) := (blk_cell BK319.out 2).trans rfl
                          have hcz57_3 : wr.cell? ⟨gb319, 3, none⟩ = some (.int .u64 a1_3) := (blk_cell BK319.out 3).trans rfl
                          have hcz57_4 : wr.cell? ⟨gb319, 4, none⟩ = some (.int .u64 a1_4) := (blk_cell BK319.out 4).trans rfl
                          have hcz57_5 : wr.cell? ⟨gb319, 5, none⟩ = some (.int .u64 a1_5) := (blk_cell BK319.out 5).trans rfl
                          have hcz57_6 : wr.cell? ⟨gb319, 6, none⟩ = some (.int .i64 a1_6) := (blk_cell BK319.out 6).trans rfl
                          have hcz57_7 : wr.cell? ⟨gb319, 7, none⟩ = some (.bool a1_7) := (blk_cell BK319.out 7).trans rfl
                          have hcz57_8 : wr.cell? ⟨gb319, 8, none⟩ = some (.slice A1_8 l1_8.length c1_8) := (blk_cell BK319.out 8).trans rfl
                          have hcz57_9 : wr.cell? ⟨gb319, 9, none⟩ = some (.slice A1_9 l1_9.length c1_9) := (blk_cell BK319.out 9).trans rfl
                          have hcz57_10 : wr.cell? ⟨gb319, 10, none⟩ = some (.slice A1_10 l1_10.length c1_10) := (blk_cell BK319.out 10).trans rfl
                          have hfz57_0 := blk_frozen BK319.out 0
                          have hfz57_1 := blk_frozen BK319.out 1
                          have hfz57_2 := blk_frozen BK319.out 2
                          have hfz57_3 := blk_frozen BK319.out 3
                          have hfz57_4 := blk_frozen BK319.out 4
                          have hfz57_5 := blk_frozen BK319.out 5
                          have hfz57_6 := blk_frozen BK319.out 6
                          have hfz57_7 := blk_frozen BK319.out 7
                          have hfz57_8 := blk_frozen BK319.out 8
                          have hfz57_9 := blk_frozen BK319.out 9
                          have hfz57_10 := blk_frozen BK319.out 10
                          go_wp2
                          repeat (go_quiet (fail); try go_wp2)
                          go_ret
                          exact ⟨by first | rfl | (simp [errW_none, errW_some] <;> rfl) | (simp [*, errW_none, errW_some] <;> rfl), by repeat (first | (with_reducible first | exact HB.out | apply below_alloc | apply pw_below_drewN | apply below_drew1 | refine below_set ?_ GE318.out | refine below_set ?_ GE319.out) | exact HB.out)⟩
                      · rw [if_neg c42] at H
                        have c42b0 : (a0_1 == a1_1) = false := beq_eq_false_iff_ne.mpr c42
                        have c42b1 : (a0_1 != a1_1) = true := bne_iff_ne.mpr c42
                        obtain rfl := Option.some.inj H
                        have hnb58 := NB318_319.out
                        have hnc58 := NB319_318.out
                        have hcz59_0 : wr.cell? ⟨gb318, 0, none⟩ = some (.int .i64 a0_0) := (blk_cell BK318.out 0).trans rfl
                        have hcz59_1 : wr.cell? ⟨gb318, 1, none⟩ = some (.int .u64 a0_1) := (blk_cell BK318.out 1).trans rfl
                        have hcz59_2 : wr.cell? ⟨gb318, 2, none⟩ = some (.int .u64 a0_2) := (blk_cell BK318.out 2).trans rfl
                        have hcz59_3 : wr.cell? ⟨gb318, 3, none⟩ = some (.int .u64 a0_3) := (blk_cell BK318.out 3).trans rfl
                        have hcz59_4 : wr.cell? ⟨gb318, 4, none⟩ = some (.int .u64 a0_4) := (blk_cell BK318.out 4).trans rfl
                        have hcz59_5 : wr.cell? ⟨gb318, 5, none⟩ = some (.int .u64 a0_5) := (blk_cell BK318.out 5).trans rfl
                        have hcz59_6 : wr.cell? ⟨gb318, 6, none⟩ = some (.int .i64 a0_6) := (blk_cell BK318.out 6).trans rfl
                        have hcz59_7 : wr.cell? ⟨gb318, 7, none⟩ = some (.bool a0_7) := (blk_cell BK318.out 7).trans rfl
                        have hcz59_8 : wr.cell? ⟨gb318, 8, none⟩ = some (.slice A0_8 l0_8.length c0_8) := (blk_cell BK318.out 8).trans rfl
                        have hcz59_9 : wr.cell? ⟨gb318, 9, none⟩ = some (.slice A0_9 l0_9.length c0_9) := (blk_cell BK318.out 9).trans rfl
                        have hcz59_10 : wr.cell? ⟨gb318, 10, none⟩ = some (.slice A0_10 l0_10.length c0_10) := (blk_cell BK318.out 10).trans rfl
                        have hfz59_0 := blk_frozen BK318.out 0
                        have hfz59_1 := blk_frozen BK318.out 1
                        have hfz59_2 := blk_frozen BK318.out 2
                        have hfz59_3 := blk_frozen BK318.out 3
                        have hfz59_4 := blk_frozen BK318.out 4
                        have hfz59_5 := blk_frozen BK318.out 5
                        have hfz59_6 := blk_frozen BK318.out 6
                        have hfz59_7 := blk_frozen BK318.out 7
                        have hfz59_8 := blk_frozen BK318.out 8
                        have hfz59_9 := blk_frozen BK318.out 9
                        have hfz59_10 := blk_frozen BK318.out 10
                        have hcz60_0 : wr.cell? ⟨gb319, 0, none⟩ = some (.int .i64 a1_0) := (blk_cell BK319.out 0).trans rfl
                        have hcz60_1 : wr.cell? ⟨gb319, 1, none⟩ = some (.int .u64 a1_1) := (blk_cell BK319.out 1).trans rfl
                        have hcz60_2 : wr.cell? ⟨gb319, 2, none⟩ = some (.int .u64 a1_2) := (blk_cell BK319.out 2).trans rfl
                        have hcz60_3 : wr.cell? ⟨gb319, 3, none⟩ = some (.int .u64 a1_3) := (blk_cell BK319.out 3).trans rfl
                        have hcz60_4 : wr.cell? ⟨gb319, 4, none⟩ = some (.int .u64 a1_4) := (blk_cell BK319.out 4).trans rfl
                        have hcz60_5 : wr.cell? ⟨gb319, 5, none⟩ = some (.int .u64 a1_5) := (blk_cell BK319.out 5).trans rfl
                        have hcz60_6 : wr.cell? ⟨gb319, 6, none⟩ = some (.int .i64 a1_6) := (blk_cell BK319.out 6).trans rfl
                        have hcz60_7 : wr.cell? ⟨gb319, 7, none⟩ = some (.bool a1_7) := (blk_cell BK319.out 7).trans rfl
                        have hcz60_8 : wr.cell? ⟨gb319, 8, none⟩ = some (.slice A1_8 l1_8.length c1_8) := (blk_cell BK319.out 8).trans rfl
                        have hcz60_9 : wr.cell? ⟨gb319, 9, none⟩ = some (.slice A1_9 l1_9.length c1_9) := (blk_cell BK319.out 9).trans rfl
                        have hcz60_10 : wr.cell? ⟨gb319, 10, none⟩ = some (.slice A1_10 l1_10.length c1_10) := (blk_cell BK319.out 10).trans rfl
                        have hfz60_0 := blk_frozen BK319.out 0
                        have hfz60_1 := blk_frozen BK319.out 1
                        have hfz60_2 := blk_frozen BK319.out 2
                        have hfz60_3 := blk_frozen BK319.out 3
                        have hfz60_4 := blk_frozen BK319.out 4
                        have hfz60_5 := blk_frozen BK319.out 5
                        have hfz60_6 := blk_frozen BK319.out 6
                        have hfz60_7 := blk_frozen BK319.out 7
                        have hfz60_8 := blk_frozen BK319.out 8
                        have hfz60_9 := blk_frozen BK319.out 9
                        have hfz60_10 := blk_frozen BK319.out 10
                        go_wp2
                        repeat (go_quiet (fail); try go_wp2)
                        go_ret
                        exact ⟨by first | rfl | (simp [errW_none, errW_some] <;> rfl) | (simp [*, errW_none, errW_some] <;> rfl), by repeat (first | (with_reducible first | exact HB.out | apply below_alloc | apply pw_below_drewN | apply below_drew1 | refine below_set ?_ GE318.out | refine below_set ?_ GE319.out) | exact HB.out)⟩
                    · rw [if_neg c41] at H
                      have c41b0 : (a0_0 == a1_0) = false := beq_eq_false_iff_ne.mpr c41
                      have c41b1 : (a0_0 != a1_0) = true := bne_iff_ne.mpr c41
                      obtain rfl := Option.some.inj H
                      have hnb61 := NB318_319.out
                      have hnc61 := NB319_318.out
                      have hcz62_0 : wr.cell? ⟨gb318, 0, none⟩ = some (.int .i64 a0_0) := (blk_cell BK318.out 0).trans rfl
                      have hcz62_1 : wr.cell? ⟨gb318, 1, none⟩ = some (.int .u64 a0_1) := (blk_cell BK318.out 1).trans rfl
                      have hcz62_2 : wr.cell? ⟨gb318, 2, none⟩ = some (.int .u64 a0_2) := (blk_cell BK318.out 2).trans rfl
                      have hcz62_3 : wr.cell? ⟨gb318, 3, none⟩ = some (.int .u64 a0_3) := (blk_cell BK318.out 3).trans rfl
                      have hcz62_4 : wr.cell? ⟨gb318, 4, none⟩ = some (.int .u64 a0_4) := (blk_cell BK318.out 4).trans rfl
                      have hcz62_5 : wr.cell? ⟨gb318, 5, none⟩ = some (.int .u64 a0_5) := (blk_cell BK318.out 5).trans rfl
                      have hcz62_6 : wr.cell? ⟨gb318, 6, none⟩ = some (.int .i64 a0_6) := (blk_cell BK318.out 6).trans rfl
                      have hcz62_7 : wr.cell? ⟨gb318, 7, none⟩ = some (.bool a0_7) := (blk_cell BK318.out 7).trans rfl
                      have hcz62_8 : wr.cell? ⟨gb318, 8, none⟩ = some (.slice A0_8 l0_8.length c0_8) := (blk_cell BK318.out 8).trans rfl
                      have hcz62_9 : wr.cell? ⟨gb318, 9, none⟩ = some (.slice A0_9 l0_9.length c0_9) := (blk_cell BK318.out 9).trans rfl
                      have hcz62_10 : wr.cell? ⟨gb318, 10, none⟩ = some (.slice A0_10 l0_10.length c0_10) := (blk_cell BK318.out 10).trans rfl
                      have hfz62_0 := blk_frozen BK318.out 0
                      have hfz62_1 := blk_frozen BK318.out 1
                      have hfz62_2 := blk_frozen BK318.out 2
                      have hfz62_3 := blk_frozen BK318.out 3
                      have hfz62_4 := blk_frozen BK318.out 4
                      have hfz62_5 := blk_frozen BK318.out 5
                      have hfz62_6 := blk_frozen BK318.out 6
                      have hfz62_7 := blk_frozen BK318.out 7
                      have hfz62_8 := blk_frozen BK318.out 8
                      have hfz62_9 := blk_frozen BK318.out 9
                      have hfz62_10 := blk_frozen BK318.out 10
                      have hcz63_0 : wr.cell? ⟨gb319, 0, none⟩ = some (.int .i64 a1_0) := (blk_cell BK319.out 0).trans rfl
                      have hcz63_1 : wr.cell? ⟨gb319, 1, none⟩ = some (.int .u64 a1_1) := (blk_cell BK319.out 1).trans rfl
                      have hcz63_2 : wr.cell? ⟨gb319, 2, none⟩ = some (.int .u64 a1_2) := (blk_cell BK319.out 2).trans rfl
                      have hcz63_3 : wr.cell? ⟨gb319, 3, none⟩ = some (.int .u64 a1_3) := (blk_cell BK319.out 3).trans rfl
                      have hcz63_4 : wr.cell? ⟨gb319, 4, none⟩ = some (.int .u64 a1_4) := (blk_cell BK319.out 4).trans rfl
                      have hcz63_5 : wr.cell? ⟨gb319, 5, none⟩ = some (.int .u64 a1_5) := (blk_cell BK319.out 5).trans rfl
                      have hcz63_6 : wr.cell? ⟨gb319, 6, none⟩ = some (.int .i64 a1_6) := (blk_cell BK319.out 6).trans rfl
                      have hcz63_7 : wr.cell? ⟨gb319, 7, none⟩ = some (.bool a1_7) := (blk_cell BK319.out 7).trans rfl
                      have hcz63_8 : wr.cell? ⟨gb319, 8, none⟩ = some (.slice A1_8 l1_8.length c1_8) := (blk_cell BK319.out 8).trans rfl
                      have hcz63_9 : wr.cell? ⟨gb319, 9, none⟩ = some (.slice A1_9 l1_9.length c1_9) := (blk_cell BK319.out 9).trans rfl
                      have hcz63_10 : wr.cell? ⟨gb319, 10, none⟩ = some (.slice A1_10 l1_10.length c1_10) := (blk_cell BK319.out 10).trans rfl
                      have hfz63_0 := blk_frozen BK319.out 0
                      have hfz63_1 := blk_frozen BK319.out 1
                      have hfz63_2 := blk_frozen BK319.out 2
                      have hfz63_3 := blk_frozen BK319.out 3
                      have hfz63_4 := blk_frozen BK319.out 4
                      have hfz63_5 := blk_frozen BK319.out 5
                      have hfz63_6 := blk_frozen BK319.out 6
                      have hfz63_7 := blk_frozen BK319.out 7
                      have hfz63_8 := blk_frozen BK319.out 8
                      have hfz63_9 := blk_frozen BK319.out 9
                      have hfz63_10 := blk_frozen BK319.out 10
                      go_wp2
                      repeat (go_quiet (fail); try go_wp2)
                      go_ret
                      exact ⟨by first | rfl | (simp [errW_none, errW_some] <;> rfl) | (simp [*, errW_none, errW_some] <;> rfl), by repeat (first | (with_reducible first | exact HB.out | apply below_alloc | apply pw_below_drewN | apply below_drew1 | refine below_set ?_ GE318.out | refine below_set ?_ GE319.out) | exact HB.out)⟩

end Go.Proofs.Ytjnhmdmcmmffeaa.PAll
