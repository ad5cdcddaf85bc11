-- Laid by the kit's print.py, called for several functions at once (our call).
import Derived.Test.YtjnhmdmcmmffeaaPAllx0
import Derived.Test.YtjnhmdmcmmffeaaPAllx1
import Derived.Test.YtjnhmdmcmmffeaaPAllx20
import Derived.Test.YtjnhmdmcmmffeaaPAllOnly
namespace Go.Proofs.Ytjnhmdmcmmffeaa.PAll
open Go.RowKit Go.Proofs.YtjnhmdmcmmffeaaW.PrintWords Go.Proofs.YtjnhmdmcmmffeaaW.PrintLast Go.Proofs.YtjnhmdmcmmffeaaW.PrintMore
attribute [local go_sem] max2_int min2_int max_two min_two max_three min_three max_four min_four   -- for this text's walks alone
set_option linter.unusedVariables false
set_option linter.unusedSimpArgs false

attribute [local go_sem high] eqA24
/-! ### winnowref05_Right: function 32 -/
mutual
def winnowref05_Right.j0 : Nat → Bool → Bool → Int → Int → Int → Int → Int → Int → Int → Bool → List (S88) → List (S80) → List Int → Option (Int)
  | 0, _, _, _, _, _, _, _, _, _, _, _, _, _ => none
  | k + 1, x3, x4, x175000, x175001, x175002, x175003, x175004, x175005, x175006, x175007, x175008, x175009, x175010 => if x175006 ≥ 1 then (winnowref05_Right.j1 k x3 x4 (decide (x175006 ≤ 3)) x175000 x175001 x175002 x175003 x175004 x175005 x175006 x175007 x175008 x175009 x175010) else (winnowref05_Right.j1 k x3 x4 false x175000 x175001 x175002 x175003 x175004 x175005 x175006 x175007 x175008 x175009 x175010)
def winnowref05_Right.j1 : Nat → Bool → Bool → Bool → Int → Int → Int → Int → Int → Int → Int → Bool → List (S88) → List (S80) → List Int → Option (Int)
  | 0, _, _, _, _, _, _, _, _, _, _, _, _, _, _ => none
  | k + 1, x3, x4, x5, x175000, x175001, x175002, x175003, x175004, x175005, x175006, x175007, x175008, x175009, x175010 => if x175000 = 1 then (winnowref05_Right.j2 k x3 x4 x5 x175000 (x175000 == 1) x175000 x175001 x175002 x175003 x175004 x175005 x175006 x175007 x175008 x175009 x175010) else (winnowref05_Right.j2 k x3 x4 x5 x175000 (x175000 == 2) x175000 x175001 x175002 x175003 x175004 x175005 x175006 x175007 x175008 x175009 x175010)
def winnowref05_Right.j2 : Nat → Bool → Bool → Bool → Int → Bool → Int → Int → Int → Int → Int → Int → Int → Bool → List (S88) → List (S80) → List Int → Option (Int)
  | 0, _, _, _, _, _, _, _, _, _, _, _, _, _, _, _, _ => none
  | k + 1, x3, x4, x5, x33, x34, x175000, x175001, x175002, x175003, x175004, x175005, x175006, x175007, x175008, x175009, x175010 => if x34 = true then (none) else (if x33 = 3 then (none) else (if x33 = 4 then (none) else (if x33 = 5 then (if x4 = true then (if x175002 = 0 then (winnowref05_Right.j3 k x3 false x175000 x175001 x175002 x175003 x175004 x175005 x175006 x175007 x175008 x175009 x175010) else (if x175006 = 0 then (winnowref05_Right.j3 k x3 true x175000 x175001 x175002 x175003 x175004 x175005 x175006 x175007 x175008 x175009 x175010) else (if x5 = true then (winnowref05_Right.j3 k x3 (!x3) x175000 x175001 x175002 x175003 x175004 x175005 x175006 x175007 x175008 x175009 x175010) else (winnowref05_Right.j3 k x3 false x175000 x175001 x175002 x175003 x175004 x175005 x175006 x175007 x175008 x175009 x175010)))) else (none)) else (if x33 = 6 then (none) else (if x33 = 7 then (if x4 = true then (if x175002 = 0 then (some 6) else (if ((x175007 == x3) = true) then (some 0) else (some 6))) else (none)) else (if x33 = 8 then (none) else (if x33 = 9 then (none) else (if x33 = 10 then (none) else (none)))))))))
def winnowref05_Right.j3 : Nat → Bool → Bool → Int → Int → Int → Int → Int → Int → Int → Bool → List (S88) → List (S80) → List Int → Option (Int)
  | 0, _, _, _, _, _, _, _, _, _, _, _, _, _ => none
  | k + 1, x3, x4, x175000, x175001, x175002, x175003, x175004, x175005, x175006, x175007, x175008, x175009, x175010 => if x175007 = true then (if x4 = true then (if x175006 = 0 then (if x3 = true then (some 0) else (some 6)) else (some 0)) else (none)) else (if x4 = true then (if x175006 = 0 then (if x3 = true then (some 6) else (some 0)) else (some 6)) else (none))
end
def winnowref05_Right.f (k : Nat) (a0_0 : Int) (a0_1 : Int) (a0_2 : Int) (a0_3 : Int) (a0_4 : Int) (a0_5 : Int) (a0_6 : Int) (a0_7 : Bool) (l0_8 : List (S88)) (l0_9 : List (S80)) (l0_10 : List Int) : Option (Int) := (winnowref05_only.f a0_0 a0_1 a0_2 a0_3 a0_4 a0_5 a0_6 a0_7 l0_8 l0_9 l0_10).bind fun bt175 => ((winnowref05_Same.f k a0_0 a0_1 a0_2 a0_3 a0_4 a0_5 a0_6 a0_7 l0_8 l0_9 l0_10 bt175.1 bt175.2.1 bt175.2.2.1 bt175.2.2.2.1 bt175.2.2.2.2.1 bt175.2.2.2.2.2.1 bt175.2.2.2.2.2.2.1 bt175.2.2.2.2.2.2.2.1 bt175.2.2.2.2.2.2.2.2.1 bt175.2.2.2.2.2.2.2.2.2.1 bt175.2.2.2.2.2.2.2.2.2.2).bind fun t192 => (if t192 = true then (if a0_0 = 3 then (none) else (winnowref05_Right.j0 k (a0_4 == 0 && (a0_5 == 0)) (a0_1 != 0) a0_0 a0_1 a0_2 a0_3 a0_4 a0_5 a0_6 a0_7 l0_8 l0_9 l0_10)) else (winnowref05_Right.j0 k (a0_4 == 0 && (a0_5 == 0)) false a0_0 a0_1 a0_2 a0_3 a0_4 a0_5 a0_6 a0_7 l0_8 l0_9 l0_10)))
theorem winnowref05_Right.mono_l : ∀ k, (∀ y0 y1 y2 y3 y4 y5 y6 y7 y8 y9 y10 y11 y12, LeO (winnowref05_Right.j0 k y0 y1 y2 y3 y4 y5 y6 y7 y8 y9 y10 y11 y12) (winnowref05_Right.j0 (k + 1) y0 y1 y2 y3 y4 y5 y6 y7 y8 y9 y10 y11 y12)) ∧ (∀ y0 y1 y2 y3 y4 y5 y6 y7 y8 y9 y10 y11 y12 y13, LeO (winnowref05_Right.j1 k y0 y1 y2 y3 y4 y5 y6 y7 y8 y9 y10 y11 y12 y13) (winnowref05_Right.j1 (k + 1) y0 y1 y2 y3 y4 y5 y6 y7 y8 y9 y10 y11 y12 y13)) ∧ (∀ y0 y1 y2 y3 y4 y5 y6 y7 y8 y9 y10 y11 y12 y13 y14 y15, LeO (winnowref05_Right.j2 k y0 y1 y2 y3 y4 y5 y6 y7 y8 y9 y10 y11 y12 y13 y14 y15) (winnowref05_Right.j2 (k + 1) y0 y1 y2 y3 y4 y5 y6 y7 y8 y9 y10 y11 y12 y13 y14 y15)) ∧ (∀ y0 y1 y2 y3 y4 y5 y6 y7 y8 y9 y10 y11 y12, LeO (winnowref05_Right.j3 k y0 y1 y2 y3 y4 y5 y6 y7 y8 y9 y10 y11 y12) (winnowref05_Right.j3 (k + 1) y0 y1 y2 y3 y4 y5 y6 y7 y8 y9 y10 y11 y12))
  | 0 => ⟨fun _ _ _ _ _ _ _ _ _ _ _ _ _ r h => by simp [winnowref05_Right.j0] at h, fun _ _ _ _ _ _ _ _ _ _ _ _ _ _ r h => by simp [winnowref05_Right.j1] at h, fun _ _ _ _ _ _ _ _ _ _ _ _ _ _ _ _ r h => by simp [winnowref05_Right.j2] at h, fun _ _ _ _ _ _ _ _ _ _ _ _ _ r h => by simp [winnowref05_Right.j3] at h⟩
  | k + 1 => by
    obtain ⟨ih0, ih1, ih2, ih3⟩ := winnowref05_Right.mono_l k
    refine ⟨?_, ?_, ?_, ?_⟩
    · intro y0 y1 y2 y3 y4 y5 y6 y7 y8 y9 y10 y11 y12
      unfold winnowref05_Right.j0
      repeat' first
      | (with_reducible exact ih0 _ _ _ _ _ _ _ _ _ _ _ _ _)
      | (with_reducible exact ih1 _ _ _ _ _ _ _ _ _ _ _ _ _ _)
      | (with_reducible exact ih2 _ _ _ _ _ _ _ _ _ _ _ _ _ _ _ _)
      | (with_reducible exact ih3 _ _ _ _ _ _ _ _ _ _ _ _ _)
      | (with_reducible exact winnowref05_Same.mono _ _ _ _ _ _ _ _ _ _ _ _ _ _ _ _ _ _ _ _ _ _ _)
      | (with_reducible exact LeO.refl _)
      | (with_reducible exact LeO.none _)
      | (with_reducible refine LeO.ite ?_ ?_)
      | (with_reducible refine LeO.bind ?_ (fun _ => ?_))
      | exact ih0 _ _ _ _ _ _ _ _ _ _ _ _ _
      | exact ih1 _ _ _ _ _ _ _ _ _ _ _ _ _ _
      | exact ih2 _ _ _ _ _ _ _ _ _ _ _ _ _ _ _ _
      | exact ih3 _ _ _ _ _ _ _ _ _ _ _ _ _
      | exact winnowref05_Same.mono _ _ _ _ _ _ _ _ _ _ _ _ _ _ _ _ _ _ _ _ _ _ _
      | exact LeO.none _
      | refine LeO.ite ?_ ?_
      | refine LeO.bind ?_ (fun _ => ?_)
    · intro y0 y1 y2 y3 y4 y5 y6 y7 y8 y9 y10 y11 y12 y13
      unfold winnowref05_Right.j1
      repeat' first
      | (with_reducible exact ih0 _ _ _ _ _ _ _ _ _ _ _ _ _)
      | (with_reducible exact ih1 _ _ _ _ _ _ _ _ _ _ _ _ _ _)
      | (with_reducible exact ih2 _ _ _ _ _ _ _ _ _ _ _ _ _ _ _ _)
      | (with_reducible exact ih3 _ _ _ _ _ _ _ _ _ _ _ _ _)
      | (with_reducible exact winnowref05_Same.mono _ _ _ _ _ _ _ _ _ _ _ _ _ _ _ _ _ _ _ _ _ _ _)
      | (with_reducible exact LeO.refl _)
      | (with_reducible exact LeO.none _)
      | (with_reducible refine LeO.ite ?_ ?_)
      | (with_reducible refine LeO.bind ?_ (fun _ => ?_))
      | exact ih0 _ _ _ _ _ _ _ _ _ _ _ _ _
      | exact ih1 _ _ _ _ _ _ _ _ _ _ _ _ _ _
      | exact ih2 _ _ _ _ _ _ _ _ _ _ _ _ _ _ _ _
      | exact ih3 _ _ _ _ _ _ _ _ _ _ _ _ _
      | exact winnowref05_Same.mono _ _ _ _ _ _ _ _ _ _ _ _ _ _ _ _ _ _ _ _ _ _ _
      | exact LeO.none _
      | refine LeO.ite ?_ ?_
      | refine LeO.bind ?_ (fun _ => ?_)
    · intro y0 y1 y2 y3 y4 y5 y6 y7 y8 y9 y10 y11 y12 y13 y14 y15
      unfold winnowref05_Right.j2
      repeat' first
      | (with_reducible exact ih0 _ _ _ _ _ _ _ _ _ _ _ _ _)
      | (with_reducible exact ih1 _ _ _ _ _ _ _ _ _ _ _ _ _ _)
      | (with_reducible exact ih2 _ _ _ _ _ _ _ _ _ _ _ _ _ _ _ _)
      | (with_reducible exact ih3 _ _ _ _ _ _ _ _ _ _ _ _ _)
      | (with_reducible exact winnowref05_Same.mono _ _ _ _ _ _ _ _ _ _ _ _ _ _ _ _ _ _ _ _ _ _ _)
      | (with_reducible exact LeO.refl _)
      | (with_reducible exact LeO.none _)
      | (with_reducible refine LeO.ite ?_ ?_)
      | (with_reducible refine LeO.bind ?_ (fun _ => ?_))
      | exact ih0 _ _ _ _ _ _ _ _ _ _ _ _ _
      | exact ih1 _ _ _ _ _ _ _ _ _ _ _ _ _ _
      | exact ih2 _ _ _ _ _ _ _ _ _ _ _ _ _ _ _ _
      | exact ih3 _ _ _ _ _ _ _ _ _ _ _ _ _
      | exact winnowref05_Same.mono _ _ _ _ _ _ _ _ _ _ _ _ _ _ _ _ _ _ _ _ _ _ _
      | exact LeO.none _
      | refine LeO.ite ?_ ?_
      | refine LeO.bind ?_ (fun _ => ?_)
    · intro y0 y1 y2 y3 y4 y5 y6 y7 y8 y9 y10 y11 y12
      unfold winnowref05_Right.j3
      repeat' first
      | (with_reducible exact ih0 _ _ _ _ _ _ _ _ _ _ _ _ _)
      | (with_reducible exact ih1 _ _ _ _ _ _ _ _ _ _ _ _ _ _)
      | (with_reducible exact ih2 _ _ _ _ _ _ _ _ _ _ _ _ _ _ _ _)
      | (with_reducible exact ih3 _ _ _ _ _ _ _ _ _ _ _ _ _)
      | (with_reducible exact winnowref05_Same.mono _ _ _ _ _ _ _ _ _ _ _ _ _ _ _ _ _ _ _ _ _ _ _)
      | (with_reducible exact LeO.refl _)
      | (with_reducible exact LeO.none _)
      | (with_reducible refine LeO.ite ?_ ?_)
      | (with_reducible refine LeO.bind ?_ (fun _ => ?_))
      | exact ih0 _ _ _ _ _ _ _ _ _ _ _ _ _
      | exact ih1 _ _ _ _ _ _ _ _ _ _ _ _ _ _
      | exact ih2 _ _ _ _ _ _ _ _ _ _ _ _ _ _ _ _
      | exact ih3 _ _ _ _ _ _ _ _ _ _ _ _ _
      | exact winnowref05_Same.mono _ _ _ _ _ _ _ _ _ _ _ _ _ _ _ _ _ _ _ _ _ _ _
      | exact LeO.none _
      | refine LeO.ite ?_ ?_
      | refine LeO.bind ?_ (fun _ => ?_)
theorem winnowref05_Right.mono : ∀ a0 a1 a2 a3 a4 a5 a6 a7 a8 a9 a10 k, LeO (winnowref05_Right.f k a0 a1 a2 a3 a4 a5 a6 a7 a8 a9 a10) (winnowref05_Right.f (k + 1) a0 a1 a2 a3 a4 a5 a6 a7 a8 a9 a10) := by
  intro a0 a1 a2 a3 a4 a5 a6 a7 a8 a9 a10 k
  obtain ⟨ih0, ih1, ih2, ih3⟩ := winnowref05_Right.mono_l k
  unfold winnowref05_Right.f
  repeat' first
      | (with_reducible exact ih0 _ _ _ _ _ _ _ _ _ _ _ _ _)
      | (with_reducible exact ih1 _ _ _ _ _ _ _ _ _ _ _ _ _ _)
      | (with_reducible exact ih2 _ _ _ _ _ _ _ _ _ _ _ _ _ _ _ _)
      | (with_reducible exact ih3 _ _ _ _ _ _ _ _ _ _ _ _ _)
      | (with_reducible exact winnowref05_Same.mono _ _ _ _ _ _ _ _ _ _ _ _ _ _ _ _ _ _ _ _ _ _ _)
      | (with_reducible exact LeO.refl _)
      | (with_reducible exact LeO.none _)
      | (with_reducible refine LeO.ite ?_ ?_)
      | (with_reducible refine LeO.bind ?_ (fun _ => ?_))
      | exact ih0 _ _ _ _ _ _ _ _ _ _ _ _ _
      | exact ih1 _ _ _ _ _ _ _ _ _ _ _ _ _ _
      | exact ih2 _ _ _ _ _ _ _ _ _ _ _ _ _ _ _ _
      | exact ih3 _ _ _ _ _ _ _ _ _ _ _ _ _
      | exact winnowref05_Same.mono _ _ _ _ _ _ _ _ _ _ _ _ _ _ _ _ _ _ _ _ _ _ _
      | exact LeO.none _
      | refine LeO.ite ?_ ?_
      | refine LeO.bind ?_ (fun _ => ?_)
def winnowref05_Right.T2 : Bool × List (List Nat × List Nat) := (true, [([], []), ([], []), ([1], [1]), ([0, 2, 2], [0, 2]), ([3, 3], [3]), ([4], [4]), ([5, 4], [4, 5]), ([6, 4], [4, 6]), ([7, 4, 4], [4, 7]), ([8], [8]), ([9, 8], [8, 9]), ([10, 8], [8, 10]), ([8, 11, 4], [4, 8, 11]), ([4, 12], [4, 12]), ([13, 8, 0, 1, 2, 3, 4, 5, 6, 7, 8, 9, 10, 11, 12, 13], [13])])
def winnowref05_Right.B2 : List Nat := [0, 0, 2, 7, 15, 31, 63, 127, 255, 511, 1023, 2047, 4095, 8191, 16383]
theorem winnowref05_Right.tab2 : rtab .any (opsOf Try.f32 2) = winnowref05_Right.T2 := by kernel_rfl
theorem winnowref05_Right.bits2 : waitsOk winnowref05_Right.T2.2 winnowref05_Right.B2 = true := by kernel_rfl
set_option maxHeartbeats 40000000 in
set_option maxRecDepth 100000 in
theorem winnowref05_Right.calls (k : Nat) (a0_0 : Int) (a0_1 : Int) (a0_2 : Int) (a0_3 : Int) (a0_4 : Int) (a0_5 : Int) (a0_6 : Int) (a0_7 : Bool) (A0_8 : Option Addr) (c0_8 : Nat) (l0_8 : List (S88)) (A0_9 : Option Addr) (c0_9 : Nat) (l0_9 : List (S80)) (A0_10 : Option Addr) (c0_10 : Nat) (l0_10 : List Int) (r : Int) (w : World) (hr0_8 : Kd.C k88 w A0_8 l0_8.length l0_8) (hc0_8 : l0_8.length ≤ c0_8) (hr0_9 : Kd.C k80 w A0_9 l0_9.length l0_9) (hc0_9 : l0_9.length ≤ c0_9) (hr0_10 : Kd.C (Kd.int .u64) w A0_10 l0_10.length l0_10) (hc0_10 : l0_10.length ≤ c0_10) (h : winnowref05_Right.f k a0_0 a0_1 a0_2 a0_3 a0_4 a0_5 a0_6 a0_7 l0_8 l0_9 l0_10 = some r) :
    Calls Try.prog 32 #[.agg #[.int .i64 a0_0, .int .u64 a0_1, .int .u64 a0_2, .int .u64 a0_3, .int .u64 a0_4, .int .u64 a0_5, .int .i64 a0_6, .bool a0_7, .slice A0_8 l0_8.length c0_8, .slice A0_9 l0_9.length c0_9, .slice A0_10 l0_10.length c0_10]] w fun e w' => e = .returned (.int .i64 r) ∧ Below w.heap.size w w' := by
  have hu58 := Try.underlying58; have hu24 := Try.underlying24; have HR0_8 := Aside0.mk hr0_8; have HC0_8 := Aside0.mk hc0_8; clear hr0_8 hc0_8; have HR0_9 := Aside0.mk hr0_9; have HC0_9 := Aside0.mk hc0_9; clear hr0_9 hc0_9; have HR0_10 := Aside0.mk hr0_10; have HC0_10 := Aside0.mk hc0_10; clear hr0_10 hc0_10; have HB := Aside0.mk (Below.refl w.heap.size w)
  have H : ((winnowref05_only.f a0_0 a0_1 a0_2 a0_3 a0_4 a0_5 a0_6 a0_7 l0_8 l0_9 l0_10).bind fun bt175 => ((winnowref05_Same.f k a0_0 a0_1 a0_2 a0_3 a0_4 a0_5 a0_6 a0_7 l0_8 l0_9 l0_10 bt175.1 bt175.2.1 bt175.2.2.1 bt175.2.2.2.1 bt175.2.2.2.2.1 bt175.2.2.2.2.2.1 bt175.2.2.2.2.2.2.1 bt175.2.2.2.2.2.2.2.1 bt175.2.2.2.2.2.2.2.2.1 bt175.2.2.2.2.2.2.2.2.2.1 bt175.2.2.2.2.2.2.2.2.2.2).bind fun t192 => (if t192 = true then (if a0_0 = 3 then (none) else (winnowref05_Right.j0 k (a0_4 == 0 && (a0_5 == 0)) (a0_1 != 0) a0_0 a0_1 a0_2 a0_3 a0_4 a0_5 a0_6 a0_7 l0_8 l0_9 l0_10)) else (winnowref05_Right.j0 k (a0_4 == 0 && (a0_5 == 0)) false a0_0 a0_1 a0_2 a0_3 a0_4 a0_5 a0_6 a0_7 l0_8 l0_9 l0_10)))) = some r := h
  clear h; have HC2 := Aside0.mk H; clear H
  go_enter Try.func32, Try.ntmps32
  go_upto_region 2 with (first | ((with_reducible refine gate_dst (N := 1) rfl ?_); refine box_event ?hg (N := 1) ?hd (cs := #[.int .i64 a0_0, .int .u64 a0_1, .int .u64 a0_2, .int .u64 a0_3, .int .u64 a0_4, .int .u64 a0_5, .int .i64 a0_6, .bool a0_7, .slice A0_8 l0_8.length c0_8, .slice A0_9 l0_9.length c0_9, .slice A0_10 l0_10.length c0_10]) (t := 58) ?hr ?_; (case hd => rfl); (case hg => rfl); (case hr => first | (go_simp; done) | (go_simp; rfl)); intro gb174 hg w3 hbox hb; have n0_ := Aside0.mk (below_step (by repeat (first | (with_reducible first | exact HB.out | apply below_alloc | apply pw_below_drewN | apply below_drew1) | exact HB.out)) hb); have n1_ := Aside0.mk (hbox); have n2_ := Aside0.mk ((by rw [hg]; exact (below_size (by repeat (first | (with_reducible first | exact HB.out | apply below_alloc | apply pw_below_drewN | apply below_drew1) | exact HB.out))) : w.heap.size ≤ gb174)); have n3_ := n2_; clear HB; have HB := n0_; have BK174 := n1_; have GW174 := n2_; have GE174 := n3_; clear n0_ n1_ n2_ n3_; clear hb hbox hg; have hcz4_0 : w3.cell? ⟨gb174, 0, none⟩ = some (.int .i64 a0_0) := (blk_cell BK174.out 0).trans rfl; have hcz4_1 : w3.cell? ⟨gb174, 1, none⟩ = some (.int .u64 a0_1) := (blk_cell BK174.out 1).trans rfl; have hcz4_2 : w3.cell? ⟨gb174, 2, none⟩ = some (.int .u64 a0_2) := (blk_cell BK174.out 2).trans rfl; have hcz4_3 : w3.cell? ⟨gb174, 3, none⟩ = some (.int .u64 a0_3) := (blk_cell BK174.out 3).trans rfl; have hcz4_4 : w3.cell? ⟨gb174, 4, none⟩ = some (.int .u64 a0_4) := (blk_cell BK174.out 4).trans rfl; have hcz4_5 : w3.cell? ⟨gb174, 5, none⟩ = some (.int .u64 a0_5) := (blk_cell BK174.out 5).trans rfl; have hcz4_6 : w3.cell? ⟨gb174, 6, none⟩ = some (.int .i64 a0_6) := (blk_cell BK174.out 6).trans rfl; have hcz4_7 : w3.cell? ⟨gb174, 7, none⟩ = some (.bool a0_7) := (blk_cell BK174.out 7).trans rfl; have hcz4_8 : w3.cell? ⟨gb174, 8, none⟩ = some (.slice A0_8 l0_8.length c0_8) := (blk_cell BK174.out 8).trans rfl; have hcz4_9 : w3.cell? ⟨gb174, 9, none⟩ = some (.slice A0_9 l0_9.length c0_9) := (blk_cell BK174.out 9).trans rfl; have hcz4_10 : w3.cell? ⟨gb174, 10, none⟩ = some (.slice A0_10 l0_10.length c0_10) := (blk_cell BK174.out 10).trans rfl; have hfz4_0 := blk_frozen BK174.out 0; have hfz4_1 := blk_frozen BK174.out 1; have hfz4_2 := blk_frozen BK174.out 2; have hfz4_3 := blk_frozen BK174.out 3; have hfz4_4 := blk_frozen BK174.out 4; have hfz4_5 := blk_frozen BK174.out 5; have hfz4_6 := blk_frozen BK174.out 6; have hfz4_7 := blk_frozen BK174.out 7; have hfz4_8 := blk_frozen BK174.out 8; have hfz4_9 := blk_frozen BK174.out 9; have hfz4_10 := blk_frozen BK174.out 10))
  (try simp only [Act.put, List.setIfInBounds_toArray, List.set_cons_zero, List.set_cons_succ])
  go_cut [4] (fun v4 wc => ∃ (kq : Nat) (x4_1 : Bool), v4 = .bool x4_1 ∧ Aside0 (winnowref05_Right.j0 kq (a0_4 == 0 && (a0_5 == 0)) x4_1 a0_0 a0_1 a0_2 a0_3 a0_4 a0_5 a0_6 a0_7 l0_8 l0_9 l0_10 = some r) ∧ Aside0 (kq ≤ k) ∧ Aside0 (wc.heap[gb174]? = some (.cells #[.int .i64 a0_0, .int .u64 a0_1, .int .u64 a0_2, .int .u64 a0_3, .int .u64 a0_4, .int .u64 a0_5, .int .i64 a0_6, .bool a0_7, (.slice A0_8 l0_8.length c0_8), (.slice A0_9 l0_9.length c0_9), (.slice A0_10 l0_10.length c0_10)] 58 (0, 0))) ∧ Aside0 (Below w.heap.size w wc))
  case first =>
    have H := HC2.out; clear HC2
    replace H := Option.bind_eq_some_iff.mp H
    obtain ⟨⟨t175, t176, t177, t178, t179, t180, t181, t182, t183, t186, t189⟩, A50, H⟩ := H
    (try dsimp only at H)
    have A5 := Aside0.mk A50; clear A50
    replace H := Option.bind_eq_some_iff.mp H
    obtain ⟨t192, A60, H⟩ := H
    (try dsimp only at H)
    have A6 := Aside0.mk A60; clear A60
    by_cases c7 : t192 = true
    · subst c7
      rw [if_pos rfl] at H
      by_cases c8 : a0_0 = 3
      · rw [if_pos c8] at H
        exact absurd H (by simp)
      · rw [if_neg c8] at H
        have c8b0 : (a0_0 == 3) = false := beq_eq_false_iff_ne.mpr c8; have c8b1 : (a0_0 != 3) = true := bne_iff_ne.mpr c8
        (first | rw [c8b0] | (simp only [i64_w, i32_w]; rw [c8b0]) | skip)
        have H' := Aside0.mk H
        clear H
        try go_wp2
        have n0_ := Aside0.mk (blk_drew BK174.out); have n1_ := Aside0.mk (below_drew1 HB.out); clear BK174; clear HB; have BK174 := n0_; have HB := n1_; clear n0_ n1_
        refine start_ (n := 15) (S := fun w' => w'.cell? ⟨gb174, 0, none⟩ = some (.int .i64 a0_0) ∧ w'.cell? ⟨gb174, 1, none⟩ = some (.int .u64 a0_1) ∧ w'.cell? ⟨gb174, 2, none⟩ = some (.int .u64 a0_2) ∧ w'.cell? ⟨gb174, 3, none⟩ = some (.int .u64 a0_3) ∧ w'.cell? ⟨gb174, 4, none⟩ = some (.int .u64 a0_4) ∧ w'.cell? ⟨gb174, 5, none⟩ = some (.int .u64 a0_5) ∧ w'.cell? ⟨gb174, 6, none⟩ = some (.int .i64 a0_6) ∧ w'.cell? ⟨gb174, 7, none⟩ = some (.bool a0_7) ∧ w'.cell? ⟨gb174, 8, none⟩ = some (.slice A0_8 l0_8.length c0_8) ∧ w'.cell? ⟨gb174, 9, none⟩ = some (.slice A0_9 l0_9.length c0_9) ∧ w'.cell? ⟨gb174, 10, none⟩ = some (.slice A0_10 l0_10.length c0_10)) (ds := []) #[false, false, false, false, false, false, false, false, false, false, false, false, false, false, false] (by kernel_rfl) rfl rfl ⟨(blk_cell BK174.out 0).trans rfl, (blk_cell BK174.out 1).trans rfl, (blk_cell BK174.out 2).trans rfl, (blk_cell BK174.out 3).trans rfl, (blk_cell BK174.out 4).trans rfl, (blk_cell BK174.out 5).trans rfl, (blk_cell BK174.out 6).trans rfl, (blk_cell BK174.out 7).trans rfl, (blk_cell BK174.out 8).trans rfl, (blk_cell BK174.out 9).trans rfl, (blk_cell BK174.out 10).trans rfl⟩ (fun hHeld => ?_); refine with_tabW winnowref05_Right.tab2 winnowref05_Right.bits2 (fun HT_ HW_ => ?_)
        generalize w3.drew = w9 at BK174 HB hHeld ⊢
        refine take_ (i := 0) (N := some 10) (v := ?_) (a' := ?_) #[true, false, false, false, false, false, false, false, false, false, false, false, false, false, false] rfl rfl (take_ofW HT_.out HW_.out (by kernel_rfl)) (fun _ _ _ h => h) (Or.inl ⟨by rfl, ?_⟩) hHeld ?_ ?_
        rotate_left
        · rintro w' ⟨s0, s1, s2, s3, s4, s5, s6, s7, s8, s9, s10⟩; go_simp; with_reducible rfl
        rotate_left
        · simp only [Act.put, List.setIfInBounds_toArray, List.set_cons_zero, List.set_cons_succ, i64_w, i32_w]; rfl
        refine take_ (i := 1) (N := some 11) (v := ?_) (a' := ?_) #[true, true, false, false, false, false, false, false, false, false, false, false, false, false, false] rfl rfl (take_ofW HT_.out HW_.out (by kernel_rfl)) (fun _ _ _ h => h) (Or.inl ⟨by rfl, ?_⟩) hHeld ?_ ?_
        rotate_left
        · rintro w' ⟨s0, s1, s2, s3, s4, s5, s6, s7, s8, s9, s10⟩; go_simp; with_reducible rfl
        rotate_left
        · simp only [Act.put, List.setIfInBounds_toArray, List.set_cons_zero, List.set_cons_succ, i64_w, i32_w]; rfl
        refine one_ (i := 2) (N := some 12) #[true, true, true, false, false, false, false, false, false, false, false, false, false, false, false] rfl rfl (one_of HT_.out (by kernel_rfl)) (by decide) (fun K hK => ?_)
        refine goes_ Try.func41 (by kernel_rfl) rfl #[.agg #[.int .i64 a0_0, .int .u64 a0_1, .int .u64 a0_2, .int .u64 a0_3, .int .u64 a0_4, .int .u64 a0_5, .int .i64 a0_6, .bool a0_7, .slice A0_8 l0_8.length c0_8, .slice A0_9 l0_9.length c0_9, .slice A0_10 l0_10.length c0_10]] (by rfl) rfl rfl (by (try simp only [List.map_toArray, List.map_cons, List.map_nil]); first | done | rfl | (simp only [List.length_drop, List.length_take]; rfl)) ?_
        with_reducible refine (winnowref05_only.calls a0_0 a0_1 a0_2 a0_3 a0_4 a0_5 a0_6 a0_7 _ _ l0_8 _ _ l0_9 _ _ l0_10 t175 t176 t177 t178 t179 t180 t181 t182 t183 t186 t189 _ ?side1 ?side2 ?side3 ?side4 ?side5 ?side6 A5.out).mono ?_
        (case side1 => repeat (first | exact (Kd.C_below HR0_8.out HB.out) | (with_reducible refine Kd.C_alloc ?_ _) | (with_reducible refine Kd.C_drewN ?_ _) | (with_reducible refine Kd.C_drew ?_)))
        (case side2 => exact HC0_8.out)
        (case side3 => repeat (first | exact (Kd.C_below HR0_9.out HB.out) | (with_reducible refine Kd.C_alloc ?_ _) | (with_reducible refine Kd.C_drewN ?_ _) | (with_reducible refine Kd.C_drew ?_)))
        (case side4 => exact HC0_9.out)
        (case side5 => repeat (first | exact (Kd.C_below HR0_10.out HB.out) | (with_reducible refine Kd.C_alloc ?_ _) | (with_reducible refine Kd.C_drewN ?_ _) | (with_reducible refine Kd.C_drew ?_)))
        (case side6 => exact HC0_10.out)
        rintro e w10 ⟨v184, v187, v190, rfl, ho0, ho1, ho2, hb⟩
        refine ⟨_, rfl, ?_⟩
        have n0_ := Aside0.mk (Kd.R_lower ho0 (below_size (by repeat (first | (with_reducible first | exact HB.out | apply below_alloc | apply pw_below_drewN | apply below_drew1 | refine below_set ?_ GE174.out) | exact HB.out)))); have n1_ := Aside0.mk (Kd.R_lower ho1 (below_size (by repeat (first | (with_reducible first | exact HB.out | apply below_alloc | apply pw_below_drewN | apply below_drew1 | refine below_set ?_ GE174.out) | exact HB.out)))); have n2_ := Aside0.mk (Kd.R_lower ho2 (below_size (by repeat (first | (with_reducible first | exact HB.out | apply below_alloc | apply pw_below_drewN | apply below_drew1 | refine below_set ?_ GE174.out) | exact HB.out)))); have n3_ := Aside0.mk (blk_below (g := gb174) (o := .cells #[.int .i64 a0_0, .int .u64 a0_1, .int .u64 a0_2, .int .u64 a0_3, .int .u64 a0_4, .int .u64 a0_5, .int .i64 a0_6, .bool a0_7, .slice A0_8 l0_8.length c0_8, .slice A0_9 l0_9.length c0_9, .slice A0_10 l0_10.length c0_10] 58 (0, 0)) (by (with_reducible repeat (first | refine blk_drewN ?_ _ | refine blk_drew ?_ | refine blk_alloc ?_ _)); exact BK174.out) hb); have n4_ := Aside0.mk (below_step (by repeat (first | (with_reducible first | exact HB.out | apply below_alloc | apply pw_below_drewN | apply below_drew1 | refine below_set ?_ GE174.out) | exact HB.out)) hb); clear BK174; clear HB; have HO185 := n0_; have HO188 := n1_; have HO191 := n2_; have BK174 := n3_; have HB := n4_; clear n0_ n1_ n2_ n3_ n4_; (try clear hb); (try clear hb2); (try clear hk); (try clear hi); (try clear ho0); (try clear ho1); (try clear ho2)
        obtain ⟨Ao11, co11, eo11⟩ := Kd.R_slice HO185.out
        (first | subst eo11 | (injection eo11 with f1_ f2_ f3_; have f4_ := f1_.symm; have f5_ := f3_.symm; clear f1_ f2_ f3_; subst f4_; subst f5_))
        obtain ⟨Ao12, co12, eo12⟩ := Kd.R_slice HO188.out
        (first | subst eo12 | (injection eo12 with f1_ f2_ f3_; have f4_ := f1_.symm; have f5_ := f3_.symm; clear f1_ f2_ f3_; subst f4_; subst f5_))
        obtain ⟨Ao13, co13, eo13⟩ := Kd.R_slice HO191.out
        (first | subst eo13 | (injection eo13 with f1_ f2_ f3_; have f4_ := f1_.symm; have f5_ := f3_.symm; clear f1_ f2_ f3_; subst f4_; subst f5_))
        refine hK.out _ _ ⟨(blk_cell BK174.out 0).trans rfl, (blk_cell BK174.out 1).trans rfl, (blk_cell BK174.out 2).trans rfl, (blk_cell BK174.out 3).trans rfl, (blk_cell BK174.out 4).trans rfl, (blk_cell BK174.out 5).trans rfl, (blk_cell BK174.out 6).trans rfl, (blk_cell BK174.out 7).trans rfl, (blk_cell BK174.out 8).trans rfl, (blk_cell BK174.out 9).trans rfl, (blk_cell BK174.out 10).trans rfl⟩ (fun hHeld => ?_)
        clear hK K
        refine norm_ (a' := ?_) ?_ ?_
        rotate_left
        · show Act.put _ (some 12) _ = _; simp only [Act.put, List.setIfInBounds_toArray, List.set_cons_zero, List.set_cons_succ, i64_w, i32_w]; rfl
        refine one_ (i := 3) (N := some 13) #[true, true, true, true, false, false, false, false, false, false, false, false, false, false, false] rfl rfl (one_of HT_.out (by kernel_rfl)) (by decide) (fun K hK => ?_)
        refine goes_ Try.func29 (by kernel_rfl) rfl #[.agg #[.int .i64 a0_0, .int .u64 a0_1, .int .u64 a0_2, .int .u64 a0_3, .int .u64 a0_4, .int .u64 a0_5, .int .i64 a0_6, .bool a0_7, .slice A0_8 l0_8.length c0_8, .slice A0_9 l0_9.length c0_9, .slice A0_10 l0_10.length c0_10], .agg #[.int .i64 t175, .int .u64 t176, .int .u64 t177, .int .u64 t178, .int .u64 t179, .int .u64 t180, .int .i64 t181, .bool t182, .slice Ao11 t183.length co11, .slice Ao12 t186.length co12, .slice Ao13 t189.length co13]] (by rfl) rfl rfl (by (try simp only [List.map_toArray, List.map_cons, List.map_nil]); first | done | rfl | (simp only [List.length_drop, List.length_take]; rfl)) ?_
        with_reducible refine (winnowref05_Same.calls k a0_0 a0_1 a0_2 a0_3 a0_4 a0_5 a0_6 a0_7 _ _ l0_8 _ _ l0_9 _ _ l0_10 t175 t176 t177 t178 t179 t180 t181 t182 _ _ t183 _ _ t186 _ _ t189 true _ ?side1 ?side2 ?side3 ?side4 ?side5 ?side6 ?side7 ?side8 ?side9 ?side10 ?side11 ?side12 A6.out).mono ?_
        (case side1 => repeat (first | exact (Kd.C_below HR0_8.out HB.out) | (with_reducible refine Kd.C_alloc ?_ _) | (with_reducible refine Kd.C_drewN ?_ _) | (with_reducible refine Kd.C_drew ?_)))
        (case side2 => exact HC0_8.out)
        (case side3 => repeat (first | exact (Kd.C_below HR0_9.out HB.out) | (with_reducible refine Kd.C_alloc ?_ _) | (with_reducible refine Kd.C_drewN ?_ _) | (with_reducible refine Kd.C_drew ?_)))
        (case side4 => exact HC0_9.out)
        (case side5 => repeat (first | exact (Kd.C_below HR0_10.out HB.out) | (with_reducible refine Kd.C_alloc ?_ _) | (with_reducible refine Kd.C_drewN ?_ _) | (with_reducible refine Kd.C_drew ?_)))
        (case side6 => exact HC0_10.out)
        (case side7 => repeat (first | exact (Kd.R_reads' HO185.out).2.2 | (with_reducible refine Kd.C_alloc ?_ _) | (with_reducible refine Kd.C_drewN ?_ _) | (with_reducible refine Kd.C_drew ?_)))
        (case side8 => exact (Kd.R_reads' HO185.out).2.1)
        (case side9 => repeat (first | exact (Kd.R_reads' HO188.out).2.2 | (with_reducible refine Kd.C_alloc ?_ _) | (with_reducible refine Kd.C_drewN ?_ _) | (with_reducible refine Kd.C_drew ?_)))
        (case side10 => exact (Kd.R_reads' HO188.out).2.1)
        (case side11 => repeat (first | exact (Kd.R_reads' HO191.out).2.2 | (with_reducible refine Kd.C_alloc ?_ _) | (with_reducible refine Kd.C_drewN ?_ _) | (with_reducible refine Kd.C_drew ?_)))
        (case side12 => exact (Kd.R_reads' HO191.out).2.1)
        rintro e w14 ⟨rfl, hb⟩
        refine ⟨_, rfl, ?_⟩
        have n0_ := Aside0.mk (Kd.R_below (by (with_reducible repeat (first | apply Kd.R_alloc | apply Kd.R_drewN | apply Kd.R_drew)); exact HO185.out) hb); have n1_ := Aside0.mk (Kd.R_below (by (with_reducible repeat (first | apply Kd.R_alloc | apply Kd.R_drewN | apply Kd.R_drew)); exact HO188.out) hb); have n2_ := Aside0.mk (Kd.R_below (by (with_reducible repeat (first | apply Kd.R_alloc | apply Kd.R_drewN | apply Kd.R_drew)); exact HO191.out) hb); have n3_ := Aside0.mk (blk_below (g := gb174) (o := .cells #[.int .i64 a0_0, .int .u64 a0_1, .int .u64 a0_2, .int .u64 a0_3, .int .u64 a0_4, .int .u64 a0_5, .int .i64 a0_6, .bool a0_7, .slice A0_8 l0_8.length c0_8, .slice A0_9 l0_9.length c0_9, .slice A0_10 l0_10.length c0_10] 58 (0, 0)) (by (with_reducible repeat (first | refine blk_drewN ?_ _ | refine blk_drew ?_ | refine blk_alloc ?_ _)); exact BK174.out) hb); have n4_ := Aside0.mk (below_step (by repeat (first | (with_reducible first | exact HB.out | apply below_alloc | apply pw_below_drewN | apply below_drew1 | refine below_set ?_ GE174.out) | exact HB.out)) hb); clear HO185; clear HO188; clear HO191; clear BK174; clear HB; have HO185 := n0_; have HO188 := n1_; have HO191 := n2_; have BK174 := n3_; have HB := n4_; clear n0_ n1_ n2_ n3_ n4_; (try clear hb); (try clear hb2); (try clear hk); (try clear hi)
        refine hK.out _ _ ⟨(blk_cell BK174.out 0).trans rfl, (blk_cell BK174.out 1).trans rfl, (blk_cell BK174.out 2).trans rfl, (blk_cell BK174.out 3).trans rfl, (blk_cell BK174.out 4).trans rfl, (blk_cell BK174.out 5).trans rfl, (blk_cell BK174.out 6).trans rfl, (blk_cell BK174.out 7).trans rfl, (blk_cell BK174.out 8).trans rfl, (blk_cell BK174.out 9).trans rfl, (blk_cell BK174.out 10).trans rfl⟩ (fun hHeld => ?_)
        clear hK K
        refine norm_ (a' := ?_) ?_ ?_
        rotate_left
        · show Act.put _ (some 13) _ = _; simp only [Act.put, List.setIfInBounds_toArray, List.set_cons_zero, List.set_cons_succ, i64_w, i32_w]; rfl
        refine pure_ (i := 4) (N := some 14) (v := ?_) (a' := ?_) #[true, true, true, true, true, false, false, false, false, false, false, false, false, false, false] rfl rfl (any_of HT_.out (by kernel_rfl)) (fun _ _ _ h => h) (Or.inl ⟨by rfl, ?_⟩) ?_ ?_
        rotate_left
        · intro w'; go_simp; with_reducible rfl
        rotate_left
        · simp only [Act.put, List.setIfInBounds_toArray, List.set_cons_zero, List.set_cons_succ, i64_w, i32_w]; rfl
        refine pure_ (i := 5) (N := some 15) (v := ?_) (a' := ?_) #[true, true, true, true, true, true, false, false, false, false, false, false, false, false, false] rfl rfl (any_of HT_.out (by kernel_rfl)) (fun _ _ _ h => h) (Or.inl ⟨by rfl, ?_⟩) ?_ ?_
        rotate_left
        · intro w'; go_simp; with_reducible rfl
        rotate_left
        · simp only [Act.put, List.setIfInBounds_toArray, List.set_cons_zero, List.set_cons_succ, i64_w, i32_w]; rfl
        refine take_ (i := 6) (N := some 16) (v := ?_) (a' := ?_) #[true, true, true, true, true, true, true, false, false, false, false, false, false, false, false] rfl rfl (take_ofW HT_.out HW_.out (by kernel_rfl)) (fun _ _ _ h => h) (Or.inl ⟨by rfl, ?_⟩) hHeld ?_ ?_
        rotate_left
        · rintro w' ⟨s0, s1, s2, s3, s4, s5, s6, s7, s8, s9, s10⟩; go_simp; with_reducible rfl
        rotate_left
        · simp only [Act.put, List.setIfInBounds_toArray, List.set_cons_zero, List.set_cons_succ, i64_w, i32_w]; rfl
        refine pure_ (i := 7) (N := some 17) (v := ?_) (a' := ?_) #[true, true, true, true, true, true, true, true, false, false, false, false, false, false, false] rfl rfl (any_of HT_.out (by kernel_rfl)) (fun _ _ _ h => h) (Or.inl ⟨by rfl, ?_⟩) ?_ ?_
        rotate_left
        · intro w'; go_simp; with_reducible rfl
        rotate_left
        · simp only [Act.put, List.setIfInBounds_toArray, List.set_cons_zero, List.set_cons_succ, i64_w, i32_w]; rfl
        refine pure_ (i := 8) (N := some 18) (v := ?_) (a' := ?_) #[true, true, true, true, true, true, true, true, true, false, false, false, false, false, false] rfl rfl (any_of HT_.out (by kernel_rfl)) (fun _ _ _ h => h) (Or.inl ⟨by rfl, ?_⟩) ?_ ?_
        rotate_left
        · intro w'; go_simp; with_reducible rfl
        rotate_left
        · simp only [Act.put, List.setIfInBounds_toArray, List.set_cons_zero, List.set_cons_succ, i64_w, i32_w]; rfl
        refine pure_ (i := 9) (N := some 19) (v := ?_) (a' := ?_) #[true, true, true, true, true, true, true, true, true, true, false, false, false, false, false] rfl rfl (any_of HT_.out (by kernel_rfl)) (fun _ _ _ h => h) (Or.inl ⟨by rfl, ?_⟩) ?_ ?_
        rotate_left
        · intro w'; go_simp; with_reducible rfl
        rotate_left
        · simp only [Act.put, List.setIfInBounds_toArray, List.set_cons_zero, List.set_cons_succ, i64_w, i32_w]; rfl
        refine take_ (i := 10) (N := some 20) (v := ?_) (a' := ?_) #[true, true, true, true, true, true, true, true, true, true, true, false, false, false, false] rfl rfl (take_ofW HT_.out HW_.out (by kernel_rfl)) (fun _ _ _ h => h) (Or.inl ⟨by rfl, ?_⟩) hHeld ?_ ?_
        rotate_left
        · rintro w' ⟨s0, s1, s2, s3, s4, s5, s6, s7, s8, s9, s10⟩; go_simp; with_reducible rfl
        rotate_left
        · simp only [Act.put, List.setIfInBounds_toArray, List.set_cons_zero, List.set_cons_succ, i64_w, i32_w]; rfl
        refine pure_ (i := 11) (N := some 21) (v := ?_) (a' := ?_) #[true, true, true, true, true, true, true, true, true, true, true, true, false, false, false] rfl rfl (any_of HT_.out (by kernel_rfl)) (fun _ _ _ h => h) (Or.inl ⟨by rfl, ?_⟩) ?_ ?_
        rotate_left
        · intro w'; go_simp; with_reducible rfl
        rotate_left
        · simp only [Act.put, List.setIfInBounds_toArray, List.set_cons_zero, List.set_cons_succ, i64_w, i32_w]; rfl
        refine pure_ (i := 12) (N := some 22) (v := ?_) (a' := ?_) #[true, true, true, true, true, true, true, true, true, true, true, true, true, false, false] rfl rfl (any_of HT_.out (by kernel_rfl)) (fun _ _ _ h => h) (Or.inl ⟨by rfl, ?_⟩) ?_ ?_
        rotate_left
        · intro w'; go_simp; with_reducible rfl
        rotate_left
        · simp only [Act.put, List.setIfInBounds_toArray, List.set_cons_zero, List.set_cons_succ, i64_w, i32_w]; rfl
        refine pure_ (i := 13) (N := some 23) (v := ?_) (a' := ?_) #[true, true, true, true, true, true, true, true, true, true, true, true, true, true, false] rfl rfl (any_of HT_.out (by kernel_rfl)) (fun _ _ _ h => h) (Or.inl ⟨by rfl, ?_⟩) ?_ ?_
        rotate_left
        · intro w'; go_simp; with_reducible rfl
        rotate_left
        · simp only [Act.put, List.setIfInBounds_toArray, List.set_cons_zero, List.set_cons_succ, i64_w, i32_w]; rfl
        refine pure_ (i := 14) (N := some 4) (v := ?_) (a' := ?_) #[true, true, true, true, true, true, true, true, true, true, true, true, true, true, true] rfl rfl (any_of HT_.out (by kernel_rfl)) (fun _ _ _ h => h) (Or.inl ⟨by rfl, ?_⟩) ?_ ?_
        rotate_left
        · intro w'; go_simp; with_reducible rfl
        rotate_left
        · simp only [Act.put, List.setIfInBounds_toArray, List.set_cons_zero, List.set_cons_succ, i64_w, i32_w]; rfl
        refine done_ (done_of HT_.out (by kernel_rfl)) ?_
        try go_wp2
        go_meet
        case rel => exact ⟨_, ((a0_1 != 0)), (by first | rfl | (simp; done) | (simp [*]; done)), H', ⟨by first | omega | exact Nat.le_refl _⟩, ⟨by (with_reducible repeat (first | refine blk_drewN ?_ _ | refine blk_drew ?_ | refine blk_alloc ?_ _)); exact BK174.out⟩, ⟨by repeat (first | (with_reducible first | exact HB.out | apply below_alloc | apply pw_below_drewN | apply below_drew1 | refine below_set ?_ GE174.out) | exact HB.out)⟩⟩
    · replace c7 := Bool.eq_false_iff.mpr c7
      subst c7
      rw [if_neg (show ¬ (false = true) by decide)] at H
      have H' := Aside0.mk H
      clear H
      try go_wp2
      have n0_ := Aside0.mk (blk_drew BK174.out); have n1_ := Aside0.mk (below_drew1 HB.out); clear BK174; clear HB; have BK174 := n0_; have HB := n1_; clear n0_ n1_
      refine start_ (n := 15) (S := fun w' => w'.cell? ⟨gb174, 0, none⟩ = some (.int .i64 a0_0) ∧ w'.cell? ⟨gb174, 1, none⟩ = some (.int .u64 a0_1) ∧ w'.cell? ⟨gb174, 2, none⟩ = some (.int .u64 a0_2) ∧ w'.cell? ⟨gb174, 3, none⟩ = some (.int .u64 a0_3) ∧ w'.cell? ⟨gb174, 4, none⟩ = some (.int .u64 a0_4) ∧ w'.cell? ⟨gb174, 5, none⟩ = some (.int .u64 a0_5) ∧ w'.cell? ⟨gb174, 6, none⟩ = some (.int .i64 a0_6) ∧ w'.cell? ⟨gb174, 7, none⟩ = some (.bool a0_7) ∧ w'.cell? ⟨gb174, 8, none⟩ = some (.slice A0_8 l0_8.length c0_8) ∧ w'.cell? ⟨gb174, 9, none⟩ = some (.slice A0_9 l0_9.length c0_9) ∧ w'.cell? ⟨gb174, 10, none⟩ = some (.slice A0_10 l0_10.length c0_10)) (ds := []) #[false, false, false, false, false, false, false, false, false, false, false, false, false, false, false] (by kernel_rfl) rfl rfl ⟨(blk_cell BK174.out 0).trans rfl, (blk_cell BK174.out 1).trans rfl, (blk_cell BK174.out 2).trans rfl, (blk_cell BK174.out 3).trans rfl, (blk_cell BK174.out 4).trans rfl, (blk_cell BK174.out 5).trans rfl, (blk_cell BK174.out 6).trans rfl, (blk_cell BK174.out 7).trans rfl, (blk_cell BK174.out 8).trans rfl, (blk_cell BK174.out 9).trans rfl, (blk_cell BK174.out 10).trans rfl⟩ (fun hHeld => ?_); refine with_tabW winnowref05_Right.tab2 winnowref05_Right.bits2 (fun HT_ HW_ => ?_)
      generalize w3.drew = w15 at BK174 HB hHeld ⊢
      refine take_ (i := 0) (N := some 10) (v := ?_) (a' := ?_) #[true, false, false, false, false, false, false, false, false, false, false, false, false, false, false] rfl rfl (take_ofW HT_.out HW_.out (by kernel_rfl)) (fun _ _ _ h => h) (Or.inl ⟨by rfl, ?_⟩) hHeld ?_ ?_
      rotate_left
      · rintro w' ⟨s0, s1, s2, s3, s4, s5, s6, s7, s8, s9, s10⟩; go_simp; with_reducible rfl
      rotate_left
      · simp only [Act.put, List.setIfInBounds_toArray, List.set_cons_zero, List.set_cons_succ, i64_w, i32_w]; rfl
      refine take_ (i := 1) (N := some 11) (v := ?_) (a' := ?_) #[true, true, false, false, false, false, false, false, false, false, false, false, false, false, false] rfl rfl (take_ofW HT_.out HW_.out (by kernel_rfl)) (fun _ _ _ h => h) (Or.inl ⟨by rfl, ?_⟩) hHeld ?_ ?_
      rotate_left
      · rintro w' ⟨s0, s1, s2, s3, s4, s5, s6, s7, s8, s9, s10⟩; go_simp; with_reducible rfl
      rotate_left
      · simp only [Act.put, List.setIfInBounds_toArray, List.set_cons_zero, List.set_cons_succ, i64_w, i32_w]; rfl
      refine one_ (i := 2) (N := some 12) #[true, true, true, false, false, false, false, false, false, false, false, false, false, false, false] rfl rfl (one_of HT_.out (by kernel_rfl)) (by decide) (fun K hK => ?_)
      refine goes_ Try.func41 (by kernel_rfl) rfl #[.agg #[.int .i64 a0_0, .int .u64 a0_1, .int .u64 a0_2, .int .u64 a0_3, .int .u64 a0_4, .int .u64 a0_5, .int .i64 a0_6, .bool a0_7, .slice A0_8 l0_8.length c0_8, .slice A0_9 l0_9.length c0_9, .slice A0_10 l0_10.length c0_10]] (by rfl) rfl rfl (by (try simp only [List.map_toArray, List.map_cons, List.map_nil]); first | done | rfl | (simp only [List.length_drop, List.length_take]; rfl)) ?_
      with_reducible refine (winnowref05_only.calls a0_0 a0_1 a0_2 a0_3 a0_4 a0_5 a0_6 a0_7 _ _ l0_8 _ _ l0_9 _ _ l0_10 t175 t176 t177 t178 t179 t180 t181 t182 t183 t186 t189 _ ?side1 ?side2 ?side3 ?side4 ?side5 ?side6 A5.out).mono ?_
      (case side1 => repeat (first | exact (Kd.C_below HR0_8.out HB.out) | (with_reducible refine Kd.C_alloc ?_ _) | (with_reducible refine Kd.C_drewN ?_ _) | (with_reducible refine Kd.C_drew ?_)))
      (case side2 => exact HC0_8.out)
      (case side3 => repeat (first | exact (Kd.C_below HR0_9.out HB.out) | (with_reducible refine Kd.C_alloc ?_ _) | (with_reducible refine Kd.C_drewN ?_ _) | (with_reducible refine Kd.C_drew ?_)))
      (case side4 => exact HC0_9.out)
      (case side5 => repeat (first | exact (Kd.C_below HR0_10.out HB.out) | (with_reducible refine Kd.C_alloc ?_ _) | (with_reducible refine Kd.C_drewN ?_ _) | (with_reducible refine Kd.C_drew ?_)))
      (case side6 => exact HC0_10.out)
      rintro e w16 ⟨v184, v187, v190, rfl, ho0, ho1, ho2, hb⟩
      refine ⟨_, rfl, ?_⟩
      have n0_ := Aside0.mk (Kd.R_lower ho0 (below_size (by repeat (first | (with_reducible first | exact HB.out | apply below_alloc | apply pw_below_drewN | apply below_drew1 | refine below_set ?_ GE174.out) | exact HB.out)))); have n1_ := Aside0.mk (Kd.R_lower ho1 (below_size (by repeat (first | (with_reducible first | exact HB.out | apply below_alloc | apply pw_below_drewN | apply below_drew1 | refine below_set ?_ GE174.out) | exact HB.out)))); have n2_ := Aside0.mk (Kd.R_lower ho2 (below_size (by repeat (first | (with_reducible first | exact HB.out | apply below_alloc | apply pw_below_drewN | apply below_drew1 | refine below_set ?_ GE174.out) | exact HB.out)))); have n3_ := Aside0.mk (blk_below (g := gb174) (o := .cells #[.int .i64 a0_0, .int .u64 a0_1, .int .u64 a0_2, .int .u64 a0_3, .int .u64 a0_4, .int .u64 a0_5, .int .i64 a0_6, .bool a0_7, .slice A0_8 l0_8.length c0_8, .slice A0_9 l0_9.length c0_9, .slice A0_10 l0_10.length c0_10] 58 (0, 0)) (by (with_reducible repeat (first | refine blk_drewN ?_ _ | refine blk_drew ?_ | refine blk_alloc ?_ _)); exact BK174.out) hb); have n4_ := Aside0.mk (below_step (by repeat (first | (with_reducible first | exact HB.out | apply below_alloc | apply pw_below_drewN | apply below_drew1 | refine below_set ?_ GE174.out) | exact HB.out)) hb); clear BK174; clear HB; have HO185 := n0_; have HO188 := n1_; have HO191 := n2_; have BK174 := n3_; have HB := n4_; clear n0_ n1_ n2_ n3_ n4_; (try clear hb); (try clear hb2); (try clear hk); (try clear hi); (try clear ho0); (try clear ho1); (try clear ho2)
      obtain ⟨Ao17, co17, eo17⟩ := Kd.R_slice HO185.out
      (first | subst eo17 | (injection eo17 with f1_ f2_ f3_; have f4_ := f1_.symm; have f5_ := f3_.symm; clear f1_ f2_ f3_; subst f4_; subst f5_))
      obtain ⟨Ao18, co18, eo18⟩ := Kd.R_slice HO188.out
      (first | subst eo18 | (injection eo18 with f1_ f2_ f3_; have f4_ := f1_.symm; have f5_ := f3_.symm; clear f1_ f2_ f3_; subst f4_; subst f5_))
      obtain ⟨Ao19, co19, eo19⟩ := Kd.R_slice HO191.out
      (first | subst eo19 | (injection eo19 with f1_ f2_ f3_; have f4_ := f1_.symm; have f5_ := f3_.symm; clear f1_ f2_ f3_; subst f4_; subst f5_))
      refine hK.out _ _ ⟨(blk_cell BK174.out 0).trans rfl, (blk_cell BK174.out 1).trans rfl, (blk_cell BK174.out 2).trans rfl, (blk_cell BK174.out 3).trans rfl, (blk_cell BK174.out 4).trans rfl, (blk_cell BK174.out 5).trans rfl, (blk_cell BK174.out 6).trans rfl, (blk_cell BK174.out 7).trans rfl, (blk_cell BK174.out 8).trans rfl, (blk_cell BK174.out 9).trans rfl, (blk_cell BK174.out 10).trans rfl⟩ (fun hHeld => ?_)
      clear hK K
      refine norm_ (a' := ?_) ?_ ?_
      rotate_left
      · show Act.put _ (some 12) _ = _; simp only [Act.put, List.setIfInBounds_toArray, List.set_cons_zero, List.set_cons_succ, i64_w, i32_w]; rfl
      refine one_ (i := 3) (N := some 13) #[true, true, true, true, false, false, false, false, false, false, false, false, false, false, false] rfl rfl (one_of HT_.out (by kernel_rfl)) (by decide) (fun K hK => ?_)
      refine goes_ Try.func29 (by kernel_rfl) rfl #[.agg #[.int .i64 a0_0, .int .u64 a0_1, .int .u64 a0_2, .int .u64 a0_3, .int .u64 a0_4, .int .u64 a0_5, .int .i64 a0_6, .bool a0_7, .slice A0_8 l0_8.length c0_8, .slice A0_9 l0_9.length c0_9, .slice A0_10 l0_10.length c0_10], .agg #[.int .i64 t175, .int .u64 t176, .int .u64 t177, .int .u64 t178, .int .u64 t179, .int .u64 t180, .int .i64 t181, .bool t182, .slice Ao17 t183.length co17, .slice Ao18 t186.length co18, .slice Ao19 t189.length co19]] (by rfl) rfl rfl (by (try simp only [List.map_toArray, List.map_cons, List.map_nil]); first | done | rfl | (simp only [List.length_drop, List.length_take]; rfl)) ?_
      with_reducible refine (winnowref05_Same.calls k a0_0 a0_1 a0_2 a0_3 a0_4 a0_5 a0_6 a0_7 _ _ l0_8 _ _ l0_9 _ _ l0_10 t175 t176 t177 t178 t179 t180 t181 t182 _ _ t183 _ _ t186 _ _ t189 false _ ?side1 ?side2 ?side3 ?side4 ?side5 ?side6 ?side7 ?side8 ?side9 ?side10 ?side11 ?side12 A6.out).mono ?_
      (case side1 => repeat (first | exact (Kd.C_below HR0_8.out HB.out) | (with_reducible refine Kd.C_alloc ?_ _) | (with_reducible refine Kd.C_drewN ?_ _) | (with_reducible refine Kd.C_drew ?_)))
      (case side2 => exact HC0_8.out)
      (case side3 => repeat (first | exact (Kd.C_below HR0_9.out HB.out) | (with_reducible refine Kd.C_alloc ?_ _) | (with_reducible refine Kd.C_drewN ?_ _) | (with_reducible refine Kd.C_drew ?_)))
      (case side4 => exact HC0_9.out)
      (case side5 => repeat (first | exact (Kd.C_below HR0_10.out HB.out) | (with_reducible refine Kd.C_alloc ?_ _) | (with_reducible refine Kd.C_drewN ?_ _) | (with_reducible refine Kd.C_drew ?_)))
      (case side6 => exact HC0_10.out)
      (case side7 => repeat (first | exact (Kd.R_reads' HO185.out).2.2 | (with_reducible refine Kd.C_alloc ?_ _) | (with_reducible refine Kd.C_drewN ?_ _) | (with_reducible refine Kd.C_drew ?_)))
      (case side8 => exact (Kd.R_reads' HO185.out).2.1)
      (case side9 => repeat (first | exact (Kd.R_reads' HO188.out).2.2 | (with_reducible refine Kd.C_alloc ?_ _) | (with_reducible refine Kd.C_drewN ?_ _) | (with_reducible refine Kd.C_drew ?_)))
      (case side10 => exact (Kd.R_reads' HO188.out).2.1)
      (case side11 => repeat (first | exact (Kd.R_reads' HO191.out).2.2 | (with_reducible refine Kd.C_alloc ?_ _) | (with_reducible refine Kd.C_drewN ?_ _) | (with_reducible refine Kd.C_drew ?_)))
      (case side12 => exact (Kd.R_reads' HO191.out).2.1)
      rintro e w20 ⟨rfl, hb⟩
      refine ⟨_, rfl, ?_⟩
      have n0_ := Aside0.mk (Kd.R_below (by (with_reducible repeat (first | apply Kd.R_alloc | apply Kd.R_drewN | apply Kd.R_drew)); exact HO185.out) hb); have n1_ := Aside0.mk (Kd.R_below (by (with_reducible repeat (first | apply Kd.R_alloc | apply Kd.R_drewN | apply Kd.R_drew)); exact HO188.out) hb); have n2_ := Aside0.mk (Kd.R_below (by (with_reducible repeat (first | apply Kd.R_alloc | apply Kd.R_drewN | apply Kd.R_drew)); exact HO191.out) hb); have n3_ := Aside0.mk (blk_below (g := gb174) (o := .cells #[.int .i64 a0_0, .int .u64 a0_1, .int .u64 a0_2, .int .u64 a0_3, .int .u64 a0_4, .int .u64 a0_5, .int .i64 a0_6, .bool a0_7, .slice A0_8 l0_8.length c0_8, .slice A0_9 l0_9.length c0_9, .slice A0_10 l0_10.length c0_10] 58 (0, 0)) (by (with_reducible repeat (first | refine blk_drewN ?_ _ | refine blk_drew ?_ | refine blk_alloc ?_ _)); exact BK174.out) hb); have n4_ := Aside0.mk (below_step (by repeat (first | (with_reducible first | exact HB.out | apply below_alloc | apply pw_below_drewN | apply below_drew1 | refine below_set ?_ GE174.out) | exact HB.out)) hb); clear HO185; clear HO188; clear HO191; clear BK174; clear HB; have HO185 := n0_; have HO188 := n1_; have HO191 := n2_; have BK174 := n3_; have HB := n4_; clear n0_ n1_ n2_ n3_ n4_; (try clear hb); (try clear hb2); (try clear hk); (try clear hi)
      refine hK.out _ _ ⟨(blk_cell BK174.out 0).trans rfl, (blk_cell BK174.out 1).trans rfl, (blk_cell BK174.out 2).trans rfl, (blk_cell BK174.out 3).trans rfl, (blk_cell BK174.out 4).trans rfl, (blk_cell BK174.out 5).trans rfl, (blk_cell BK174.out 6).trans rfl, (blk_cell BK174.out 7).trans rfl, (blk_cell BK174.out 8).trans rfl, (blk_cell BK174.out 9).trans rfl, (blk_cell BK174.out 10).trans rfl⟩ (fun hHeld => ?_)
      clear hK K
      refine norm_ (a' := ?_) ?_ ?_
      rotate_left
      · show Act.put _ (some 13) _ = _; simp only [Act.put, List.setIfInBounds_toArray, List.set_cons_zero, List.set_cons_succ, i64_w, i32_w]; rfl
      refine pure_ (i := 4) (N := some 14) (v := ?_) (a' := ?_) #[true, true, true, true, true, false, false, false, false, false, false, false, false, false, false] rfl rfl (any_of HT_.out (by kernel_rfl)) (fun _ _ _ h => h) (Or.inl ⟨by rfl, ?_⟩) ?_ ?_
      rotate_left
      · intro w'; go_simp; with_reducible rfl
      rotate_left
      · simp only [Act.put, List.setIfInBounds_toArray, List.set_cons_zero, List.set_cons_succ, i64_w, i32_w]; rfl
      refine pure_ (i := 5) (N := some 15) (v := undef) (a' := ?_) #[true, true, true, true, true, true, false, false, false, false, false, false, false, false, false] rfl rfl (any_of HT_.out (by kernel_rfl)) (fun _ _ _ h => h) (Or.inr ⟨by rfl, rfl⟩) ?_ ?_
      rotate_left
      · simp only [Act.put, List.setIfInBounds_toArray, List.set_cons_zero, List.set_cons_succ, i64_w, i32_w]; rfl
      refine pure_ (i := 6) (N := some 16) (v := undef) (a' := ?_) #[true, true, true, true, true, true, true, false, false, false, false, false, false, false, false] rfl rfl (any_of HT_.out (by kernel_rfl)) (fun _ _ _ h => h) (Or.inr ⟨by rfl, rfl⟩) ?_ ?_
      rotate_left
      · simp only [Act.put, List.setIfInBounds_toArray, List.set_cons_zero, List.set_cons_succ, i64_w, i32_w]; rfl
      refine pure_ (i := 7) (N := some 17) (v := undef) (a' := ?_) #[true, true, true, true, true, true, true, true, false, false, false, false, false, false, false] rfl rfl (any_of HT_.out (by kernel_rfl)) (fun _ _ _ h => h) (Or.inr ⟨by rfl, rfl⟩) ?_ ?_
      rotate_left
      · simp only [Act.put, List.setIfInBounds_toArray, List.set_cons_zero, List.set_cons_succ, i64_w, i32_w]; rfl
      refine pure_ (i := 8) (N := some 18) (v := undef) (a' := ?_) #[true, true, true, true, true, true, true, true, true, false, false, false, false, false, false] rfl rfl (any_of HT_.out (by kernel_rfl)) (fun _ _ _ h => h) (Or.inr ⟨by rfl, rfl⟩) ?_ ?_
      rotate_left
      · simp only [Act.put, List.setIfInBounds_toArray, List.set_cons_zero, List.set_cons_succ, i64_w, i32_w]; rfl
      refine pure_ (i := 9) (N := some 19) (v := undef) (a' := ?_) #[true, true, true, true, true, true, true, true, true, true, false, false, false, false, false] rfl rfl (any_of HT_.out (by kernel_rfl)) (fun _ _ _ h => h) (Or.inr ⟨by rfl, rfl⟩) ?_ ?_
      rotate_left
      · simp only [Act.put, List.setIfInBounds_toArray, List.set_cons_zero, List.set_cons_succ, i64_w, i32_w]; rfl
      refine pure_ (i := 10) (N := some 20) (v := undef) (a' := ?_) #[true, true, true, true, true, true, true, true, true, true, true, false, false, false, false] rfl rfl (any_of HT_.out (by kernel_rfl)) (fun _ _ _ h => h) (Or.inr ⟨by rfl, rfl⟩) ?_ ?_
      rotate_left
      · simp only [Act.put, List.setIfInBounds_toArray, List.set_cons_zero, List.set_cons_succ, i64_w, i32_w]; rfl
      refine pure_ (i := 11) (N := some 21) (v := undef) (a' := ?_) #[true, true, true, true, true, true, true, true, true, true, true, true, false, false, false] rfl rfl (any_of HT_.out (by kernel_rfl)) (fun _ _ _ h => h) (Or.inr ⟨by rfl, rfl⟩) ?_ ?_
      rotate_left
      · simp only [Act.put, List.setIfInBounds_toArray, List.set_cons_zero, List.set_cons_succ, i64_w, i32_w]; rfl
      refine pure_ (i := 12) (N := some 22) (v := undef) (a' := ?_) #[true, true, true, true, true, true, true, true, true, true, true, true, true, false, false] rfl rfl (any_of HT_.out (by kernel_rfl)) (fun _ _ _ h => h) (Or.inr ⟨by rfl, rfl⟩) ?_ ?_
      rotate_left
      · simp only [Act.put, List.setIfInBounds_toArray, List.set_cons_zero, List.set_cons_succ, i64_w, i32_w]; rfl
      refine pure_ (i := 13) (N := some 23) (v := ?_) (a' := ?_) #[true, true, true, true, true, true, true, true, true, true, true, true, true, true, false] rfl rfl (any_of HT_.out (by kernel_rfl)) (fun _ _ _ h => h) (Or.inl ⟨by rfl, ?_⟩) ?_ ?_
      rotate_left
      · intro w'; go_simp; with_reducible rfl
      rotate_left
      · simp only [Act.put, List.setIfInBounds_toArray, List.set_cons_zero, List.set_cons_succ, i64_w, i32_w]; rfl
      refine pure_ (i := 14) (N := some 4) (v := ?_) (a' := ?_) #[true, true, true, true, true, true, true, true, true, true, true, true, true, true, true] rfl rfl (any_of HT_.out (by kernel_rfl)) (fun _ _ _ h => h) (Or.inl ⟨by rfl, ?_⟩) ?_ ?_
      rotate_left
      · intro w'; go_simp; with_reducible rfl
      rotate_left
      · simp only [Act.put, List.setIfInBounds_toArray, List.set_cons_zero, List.set_cons_succ, i64_w, i32_w]; rfl
      refine done_ (done_of HT_.out (by kernel_rfl)) ?_
      try go_wp2
      go_meet
      case rel => exact ⟨_, (false), (by first | rfl | (simp; done) | (simp [*]; done)), H', ⟨by first | omega | exact Nat.le_refl _⟩, ⟨by (with_reducible repeat (first | refine blk_drewN ?_ _ | refine blk_drew ?_ | refine blk_alloc ?_ _)); exact BK174.out⟩, ⟨by repeat (first | (with_reducible first | exact HB.out | apply below_alloc | apply pw_below_drewN | apply below_drew1 | refine below_set ?_ GE174.out) | exact HB.out)⟩⟩
  case rest =>
    clear HC2; (try clear c2); (try clear p2); (try clear c3); (try clear c4); (try clear c7); (try clear c8); (try clear c8b0); (try clear c8b1); (try clear hcz4_0); (try clear hcz4_1); (try clear hcz4_10); (try clear hcz4_2); (try clear hcz4_3); (try clear hcz4_4); (try clear hcz4_5); (try clear hcz4_6); (try clear hcz4_7); (try clear hcz4_8); (try clear hcz4_9); (try clear hfz4_0); (try clear hfz4_1); (try clear hfz4_10); (try clear hfz4_2); (try clear hfz4_3); (try clear hfz4_4); (try clear hfz4_5); (try clear hfz4_6); (try clear hfz4_7); (try clear hfz4_8); (try clear hfz4_9)
    obtain ⟨kq, x4_1, rfl, HA, HJ1, BK174, HB⟩ := hcut
    cases kq with
    | zero => exact absurd HA.out (by simp [winnowref05_Right.j0])
    | succ kj1 =>
      have H := HA.out; clear HA
      simp only [winnowref05_Right.j0] at H
      have HC21 := Aside0.mk H; clear H
      go_upto_region 3 with (fail)
      go_cut [5] (fun v5 wc => ∃ (kq : Nat) (x5_20 : Bool), v5 = .bool x5_20 ∧ Aside0 (winnowref05_Right.j1 kq (a0_4 == 0 && (a0_5 == 0)) x4_1 x5_20 a0_0 a0_1 a0_2 a0_3 a0_4 a0_5 a0_6 a0_7 l0_8 l0_9 l0_10 = some r) ∧ Aside0 (kq ≤ kj1) ∧ Aside0 (wc.heap[gb174]? = some (.cells #[.int .i64 a0_0, .int .u64 a0_1, .int .u64 a0_2, .int .u64 a0_3, .int .u64 a0_4, .int .u64 a0_5, .int .i64 a0_6, .bool a0_7, (.slice A0_8 l0_8.length c0_8), (.slice A0_9 l0_9.length c0_9), (.slice A0_10 l0_10.length c0_10)] 58 (0, 0))) ∧ Aside0 (Below w.heap.size w wc))
      case first =>
        have H := HC21.out; clear HC21
        by_cases c22 : a0_6 ≥ 1
        · rw [if_pos c22] at H
          have c22b0 : decide (1 ≤ a0_6) = true := decide_eq_true c22; clear c22
          (first | rw [c22b0] | (simp only [i64_w, i32_w]; rw [c22b0]) | skip)
          have H' := Aside0.mk H
          clear H; have hcz23_0 : wc.cell? ⟨gb174, 0, none⟩ = some (.int .i64 a0_0) := (blk_cell BK174.out 0).trans rfl; have hcz23_1 : wc.cell? ⟨gb174, 1, none⟩ = some (.int .u64 a0_1) := (blk_cell BK174.out 1).trans rfl; have hcz23_2 : wc.cell? ⟨gb174, 2, none⟩ = some (.int .u64 a0_2) := (blk_cell BK174.out 2).trans rfl; have hcz23_3 : wc.cell? ⟨gb174, 3, none⟩ = some (.int .u64 a0_3) := (blk_cell BK174.out 3).trans rfl; have hcz23_4 : wc.cell? ⟨gb174, 4, none⟩ = some (.int .u64 a0_4) := (blk_cell BK174.out 4).trans rfl; have hcz23_5 : wc.cell? ⟨gb174, 5, none⟩ = some (.int .u64 a0_5) := (blk_cell BK174.out 5).trans rfl; have hcz23_6 : wc.cell? ⟨gb174, 6, none⟩ = some (.int .i64 a0_6) := (blk_cell BK174.out 6).trans rfl; have hcz23_7 : wc.cell? ⟨gb174, 7, none⟩ = some (.bool a0_7) := (blk_cell BK174.out 7).trans rfl; have hcz23_8 : wc.cell? ⟨gb174, 8, none⟩ = some (.slice A0_8 l0_8.length c0_8) := (blk_cell BK174.out 8).trans rfl; have hcz23_9 : wc.cell? ⟨gb174, 9, none⟩ = some (.slice A0_9 l0_9.length c0_9) := (blk_cell BK174.out 9).trans rfl; have hcz23_10 : wc.cell? ⟨gb174, 10, none⟩ = some (.slice A0_10 l0_10.length c0_10) := (blk_cell BK174.out 10).trans rfl; have hfz23_0 := blk_frozen BK174.out 0; have hfz23_1 := blk_frozen BK174.out 1; have hfz23_2 := blk_frozen BK174.out 2; have hfz23_3 := blk_frozen BK174.out 3; have hfz23_4 := blk_frozen BK174.out 4; have hfz23_5 := blk_frozen BK174.out 5; have hfz23_6 := blk_frozen BK174.out 6; have hfz23_7 := blk_frozen BK174.out 7; have hfz23_8 := blk_frozen BK174.out 8; have hfz23_9 := blk_frozen BK174.out 9; have hfz23_10 := blk_frozen BK174.out 10
          go_wp2
          go_meet
          case rel => exact ⟨_, (decide (a0_6 ≤ 3)), (by first | rfl | (simp; done) | (simp [*]; done)), H', ⟨by have := HJ1.out; first | omega | exact Nat.le_refl _⟩, ⟨by (with_reducible repeat (first | refine blk_drewN ?_ _ | refine blk_drew ?_ | refine blk_alloc ?_ _)); exact BK174.out⟩, ⟨by repeat (first | (with_reducible first | exact HB.out | apply below_alloc | apply pw_below_drewN | apply below_drew1 | refine below_set ?_ GE174.out) | exact HB.out)⟩⟩
        · rw [if_neg c22] at H
          have c22b0 : decide (1 ≤ a0_6) = false := decide_eq_false c22; clear c22
          (first | rw [c22b0] | (simp only [i64_w, i32_w]; rw [c22b0]) | skip)
          have H' := Aside0.mk H
          clear H; have hcz24_0 : wc.cell? ⟨gb174, 0, none⟩ = some (.int .i64 a0_0) := (blk_cell BK174.out 0).trans rfl; have hcz24_1 : wc.cell? ⟨gb174, 1, none⟩ = some (.int .u64 a0_1) := (blk_cell BK174.out 1).trans rfl; have hcz24_2 : wc.cell? ⟨gb174, 2, none⟩ = some (.int .u64 a0_2) := (blk_cell BK174.out 2).trans rfl; have hcz24_3 : wc.cell? ⟨gb174, 3, none⟩ = some (.int .u64 a0_3) := (blk_cell BK174.out 3).trans rfl; have hcz24_4 : wc.cell? ⟨gb174, 4, none⟩ = some (.int .u64 a0_4) := (blk_cell BK174.out 4).trans rfl; have hcz24_5 : wc.cell? ⟨gb174, 5, none⟩ = some (.int .u64 a0_5) := (blk_cell BK174.out 5).trans rfl; have hcz24_6 : wc.cell? ⟨gb174, 6, none⟩ = some (.int .i64 a0_6) := (blk_cell BK174.out 6).trans rfl; have hcz24_7 : wc.cell? ⟨gb174, 7, none⟩ = some (.bool a0_7) := (blk_cell BK174.out 7).trans rfl; have hcz24_8 : wc.cell? ⟨gb174, 8, none⟩ = some (.slice A0_8 l0_8.length c0_8) := (blk_cell BK174.out 8).trans rfl; have hcz24_9 : wc.cell? ⟨gb174, 9, none⟩ = some (.slice A0_9 l0_9.length c0_9) := (blk_cell BK174.out 9).trans rfl; have hcz24_10 : wc.cell? ⟨gb174, 10, none⟩ = some (.slice A0_10 l0_10.length c0_10) := (blk_cell BK174.out 10).trans rfl; have hfz24_0 := blk_frozen BK174.out 0; have hfz24_1 := blk_frozen BK174.out 1; have hfz24_2 := blk_frozen BK174.out 2; have hfz24_3 := blk_frozen BK174.out 3; have hfz24_4 := blk_frozen BK174.out 4; have hfz24_5 := blk_frozen BK174.out 5; have hfz24_6 := blk_frozen BK174.out 6; have hfz24_7 := blk_frozen BK174.out 7; have hfz24_8 := blk_frozen BK174.out 8; have hfz24_9 := blk_frozen BK174.out 9; have hfz24_10 := blk_frozen BK174.out 10
          go_wp2
          go_meet
          case rel => exact ⟨_, (false), (by first | rfl | (simp; done) | (simp [*]; done)), H', ⟨by have := HJ1.out; first | omega | exact Nat.le_refl _⟩, ⟨by (with_reducible repeat (first | refine blk_drewN ?_ _ | refine blk_drew ?_ | refine blk_alloc ?_ _)); exact BK174.out⟩, ⟨by repeat (first | (with_reducible first | exact HB.out | apply below_alloc | apply pw_below_drewN | apply below_drew1 | refine below_set ?_ GE174.out) | exact HB.out)⟩⟩
      case rest =>
        clear HC21; (try clear c2); (try clear p2); (try clear c3); (try clear c4); (try clear c7); (try clear c8); (try clear c8b0); (try clear c8b1); (try clear c22); (try clear c22b0); (try clear hcz23_0); (try clear hcz23_1); (try clear hcz23_10); (try clear hcz23_2); (try clear hcz23_3); (try clear hcz23_4); (try clear hcz23_5); (try clear hcz23_6); (try clear hcz23_7); (try clear hcz23_8); (try clear hcz23_9); (try clear hcz24_0); (try clear hcz24_1); (try clear hcz24_10); (try clear hcz24_2); (try clear hcz24_3); (try clear hcz24_4); (try clear hcz24_5); (try clear hcz24_6); (try clear hcz24_7); (try clear hcz24_8); (try clear hcz24_9); (try clear hcz4_0); (try clear hcz4_1); (try clear hcz4_10); (try clear hcz4_2); (try clear hcz4_3); (try clear hcz4_4); (try clear hcz4_5); (try clear hcz4_6); (try clear hcz4_7); (try clear hcz4_8); (try clear hcz4_9); (try clear hfz23_0); (try clear hfz23_1); (try clear hfz23_10); (try clear hfz23_2); (try clear hfz23_3); (try clear hfz23_4); (try clear hfz23_5); (try clear hfz23_6); (try clear hfz23_7); (try clear hfz23_8); (try clear hfz23_9); (try clear hfz24_0); (try clear hfz24_1); (try clear hfz24_10); (try clear hfz24_2); (try clear hfz24_3); (try clear hfz24_4); (try clear hfz24_5); (try clear hfz24_6); (try clear hfz24_7); (try clear hfz24_8); (try clear hfz24_9); (try clear hfz4_0); (try clear hfz4_1); (try clear hfz4_10); (try clear hfz4_2); (try clear hfz4_3); (try clear hfz4_4); (try clear hfz4_5); (try clear hfz4_6); (try clear hfz4_7); (try clear hfz4_8); (try clear hfz4_9); (try clear p2)
        obtain ⟨kq, x5_20, rfl, HA, HJ20, BK174, HB⟩ := hcut
        cases kq with
        | zero => exact absurd HA.out (by simp [winnowref05_Right.j1])
        | succ kj20 =>
          have H := HA.out; clear HA
          simp only [winnowref05_Right.j1] at H
          have HC25 := Aside0.mk H; clear H; have hcz26_0 : wc.cell? ⟨gb174, 0, none⟩ = some (.int .i64 a0_0) := (blk_cell BK174.out 0).trans rfl; have hcz26_1 : wc.cell? ⟨gb174, 1, none⟩ = some (.int .u64 a0_1) := (blk_cell BK174.out 1).trans rfl; have hcz26_2 : wc.cell? ⟨gb174, 2, none⟩ = some (.int .u64 a0_2) := (blk_cell BK174.out 2).trans rfl; have hcz26_3 : wc.cell? ⟨gb174, 3, none⟩ = some (.int .u64 a0_3) := (blk_cell BK174.out 3).trans rfl; have hcz26_4 : wc.cell? ⟨gb174, 4, none⟩ = some (.int .u64 a0_4) := (blk_cell BK174.out 4).trans rfl; have hcz26_5 : wc.cell? ⟨gb174, 5, none⟩ = some (.int .u64 a0_5) := (blk_cell BK174.out 5).trans rfl; have hcz26_6 : wc.cell? ⟨gb174, 6, none⟩ = some (.int .i64 a0_6) := (blk_cell BK174.out 6).trans rfl; have hcz26_7 : wc.cell? ⟨gb174, 7, none⟩ = some (.bool a0_7) := (blk_cell BK174.out 7).trans rfl; have hcz26_8 : wc.cell? ⟨gb174, 8, none⟩ = some (.slice A0_8 l0_8.length c0_8) := (blk_cell BK174.out 8).trans rfl; have hcz26_9 : wc.cell? ⟨gb174, 9, none⟩ = some (.slice A0_9 l0_9.length c0_9) := (blk_cell BK174.out 9).trans rfl; have hcz26_10 : wc.cell? ⟨gb174, 10, none⟩ = some (.slice A0_10 l0_10.length c0_10) := (blk_cell BK174.out 10).trans rfl; have hfz26_0 := blk_frozen BK174.out 0; have hfz26_1 := blk_frozen BK174.out 1; have hfz26_2 := blk_frozen BK174.out 2; have hfz26_3 := blk_frozen BK174.out 3; have hfz26_4 := blk_frozen BK174.out 4; have hfz26_5 := blk_frozen BK174.out 5; have hfz26_6 := blk_frozen BK174.out 6; have hfz26_7 := blk_frozen BK174.out 7; have hfz26_8 := blk_frozen BK174.out 8; have hfz26_9 := blk_frozen BK174.out 9; have hfz26_10 := blk_frozen BK174.out 10
          go_upto_if 34 with (fail)
          go_cut [34] (fun v34 wc => ∃ (kq : Nat) (x34_24 : Bool), v34 = .bool x34_24 ∧ Aside0 (winnowref05_Right.j2 kq (a0_4 == 0 && (a0_5 == 0)) x4_1 x5_20 a0_0 x34_24 a0_0 a0_1 a0_2 a0_3 a0_4 a0_5 a0_6 a0_7 l0_8 l0_9 l0_10 = some r) ∧ Aside0 (kq ≤ kj20) ∧ Aside0 (wc.heap[gb174]? = some (.cells #[.int .i64 a0_0, .int .u64 a0_1, .int .u64 a0_2, .int .u64 a0_3, .int .u64 a0_4, .int .u64 a0_5, .int .i64 a0_6, .bool a0_7, (.slice A0_8 l0_8.length c0_8), (.slice A0_9 l0_9.length c0_9), (.slice A0_10 l0_10.length c0_10)] 58 (0, 0))) ∧ Aside0 (Below w.heap.size w wc))
          case first =>
            have H := HC25.out; clear HC25
            by_cases c27 : a0_0 = 1
            · rw [if_pos c27] at H
              have c27b0 : (a0_0 == 1) = true := beq_iff_eq.mpr c27; have c27b1 : (a0_0 != 1) = false := bne_eq_false_iff_eq.mpr c27; clear c27
              (first | rw [c27b0] | (simp only [i64_w, i32_w]; rw [c27b0]) | skip)
              have H' := Aside0.mk H
              clear H
              go_wp2
              go_meet
              case rel => exact ⟨_, ((a0_0 == 1)), (by first | rfl | (simp; done) | (simp [*]; done)), H', ⟨by have := HJ1.out; have := HJ20.out; first | omega | exact Nat.le_refl _⟩, ⟨by (with_reducible repeat (first | refine blk_drewN ?_ _ | refine blk_drew ?_ | refine blk_alloc ?_ _)); exact BK174.out⟩, ⟨by repeat (first | (with_reducible first | exact HB.out | apply below_alloc | apply pw_below_drewN | apply below_drew1 | refine below_set ?_ GE174.out) | exact HB.out)⟩⟩
            · rw [if_neg c27] at H
              have c27b0 : (a0_0 == 1) = false := beq_eq_false_iff_ne.mpr c27; have c27b1 : (a0_0 != 1) = true := bne_iff_ne.mpr c27
              (first | rw [c27b0] | (simp only [i64_w, i32_w]; rw [c27b0]) | skip)
              have H' := Aside0.mk H
              clear H
              go_wp2
              go_meet
              case rel => exact ⟨_, ((a0_0 == 2)), (by first | rfl | (simp; done) | (simp [*]; done)), H', ⟨by have := HJ1.out; have := HJ20.out; first | omega | exact Nat.le_refl _⟩, ⟨by (with_reducible repeat (first | refine blk_drewN ?_ _ | refine blk_drew ?_ | refine blk_alloc ?_ _)); exact BK174.out⟩, ⟨by repeat (first | (with_reducible first | exact HB.out | apply below_alloc | apply pw_below_drewN | apply below_drew1 | refine below_set ?_ GE174.out) | exact HB.out)⟩⟩
          case rest =>
            clear HC25; (try clear c2); (try clear p2); (try clear c3); (try clear c4); (try clear c7); (try clear c8); (try clear c8b0); (try clear c8b1); (try clear c22); (try clear c22b0); (try clear c27); (try clear c27b0); (try clear c27b1); (try clear hcz23_0); (try clear hcz23_1); (try clear hcz23_10); (try clear hcz23_2); (try clear hcz23_3); (try clear hcz23_4); (try clear hcz23_5); (try clear hcz23_6); (try clear hcz23_7); (try clear hcz23_8); (try clear hcz23_9); (try clear hcz24_0); (try clear hcz24_1); (try clear hcz24_10); (try clear hcz24_2); (try clear hcz24_3); (try clear hcz24_4); (try clear hcz24_5); (try clear hcz24_6); (try clear hcz24_7); (try clear hcz24_8); (try clear hcz24_9); (try clear hcz26_0); (try clear hcz26_1); (try clear hcz26_10); (try clear hcz26_2); (try clear hcz26_3); (try clear hcz26_4); (try clear hcz26_5); (try clear hcz26_6); (try clear hcz26_7); (try clear hcz26_8); (try clear hcz26_9); (try clear hcz4_0); (try clear hcz4_1); (try clear hcz4_10); (try clear hcz4_2); (try clear hcz4_3); (try clear hcz4_4); (try clear hcz4_5); (try clear hcz4_6); (try clear hcz4_7); (try clear hcz4_8); (try clear hcz4_9); (try clear hfz23_0); (try clear hfz23_1); (try clear hfz23_10); (try clear hfz23_2); (try clear hfz23_3); (try clear hfz23_4); (try clear hfz23_5); (try clear hfz23_6); (try clear hfz23_7); (try clear hfz23_8); (try clear hfz23_9); (try clear hfz24_0); (try clear hfz24_1); (try clear hfz24_10); (try clear hfz24_2); (try clear hfz24_3); (try clear hfz24_4); (try clear hfz24_5); (try clear hfz24_6); (try clear hfz24_7); (try clear hfz24_8); (try clear hfz24_9); (try clear hfz26_0); (try clear hfz26_1); (try clear hfz26_10); (try clear hfz26_2); (try clear hfz26_3); (try clear hfz26_4); (try clear hfz26_5); (try clear hfz26_6); (try clear hfz26_7); (try clear hfz26_8); (try clear hfz26_9); (try clear hfz4_0); (try clear hfz4_1); (try clear hfz4_10); (try clear hfz4_2); (try clear hfz4_3); (try clear hfz4_4); (try clear hfz4_5); (try clear hfz4_6); (try clear hfz4_7); (try clear hfz4_8); (try clear hfz4_9); (try clear p2)
            obtain ⟨kq, x34_24, rfl, HA, HJ24, BK174, HB⟩ := hcut
            cases kq with
            | zero => exact absurd HA.out (by simp [winnowref05_Right.j2])
            | succ kj24 =>
              have H := HA.out; clear HA
              simp only [winnowref05_Right.j2] at H
              by_cases c28 : x34_24 = true
              · subst c28
                rw [if_pos rfl] at H
                exact absurd H (by simp)
              · replace c28 := Bool.eq_false_iff.mpr c28
                subst c28
                rw [if_neg (show ¬ (false = true) by decide)] at H
                by_cases c29 : a0_0 = 3
                · rw [if_pos c29] at H
                  exact absurd H (by simp)
                · rw [if_neg c29] at H
                  have c29b0 : (a0_0 == 3) = false := beq_eq_false_iff_ne.mpr c29; have c29b1 : (a0_0 != 3) = true := bne_iff_ne.mpr c29
                  by_cases c30 : a0_0 = 4
                  · rw [if_pos c30] at H
                    exact absurd H (by simp)
                  · rw [if_neg c30] at H
                    have c30b0 : (a0_0 == 4) = false := beq_eq_false_iff_ne.mpr c30; have c30b1 : (a0_0 != 4) = true := bne_iff_ne.mpr c30
                    by_cases c31 : a0_0 = 5
                    · rw [if_pos c31] at H
                      have c31b0 : (a0_0 == 5) = true := beq_iff_eq.mpr c31; have c31b1 : (a0_0 != 5) = false := bne_eq_false_iff_eq.mpr c31; clear c31; have HC32 := Aside0.mk H; clear H
                      go_upto_region 14 with (fail)
                      go_cut [4] (fun v4 wc => ∃ (kq : Nat) (x4_31 : Bool), v4 = .bool x4_31 ∧ Aside0 (winnowref05_Right.j3 kq (a0_4 == 0 && (a0_5 == 0)) x4_31 a0_0 a0_1 a0_2 a0_3 a0_4 a0_5 a0_6 a0_7 l0_8 l0_9 l0_10 = some r) ∧ Aside0 (kq ≤ kj24) ∧ Aside0 (wc.heap[gb174]? = some (.cells #[.int .i64 a0_0, .int .u64 a0_1, .int .u64 a0_2, .int .u64 a0_3, .int .u64 a0_4, .int .u64 a0_5, .int .i64 a0_6, .bool a0_7, (.slice A0_8 l0_8.length c0_8), (.slice A0_9 l0_9.length c0_9), (.slice A0_10 l0_10.length c0_10)] 58 (0, 0))) ∧ Aside0 (Below w.heap.size w wc))
                      case first =>
                        have H := HC32.out; clear HC32
                        by_cases c33 : x4_1 = true
                        · subst c33
                          rw [if_pos rfl] at H
                          by_cases c34 : a0_2 = 0
                          · rw [if_pos c34] at H
                            have c34b0 : (a0_2 == 0) = true := beq_iff_eq.mpr c34; have c34b1 : (a0_2 != 0) = false := bne_eq_false_iff_eq.mpr c34; clear c34
                            (first | rw [c34b0] | (simp only [i64_w, i32_w]; rw [c34b0]) | skip)
                            have H' := Aside0.mk H
                            clear H; have hcz35_0 : wc.cell? ⟨gb174, 0, none⟩ = some (.int .i64 a0_0) := (blk_cell BK174.out 0).trans rfl; have hcz35_1 : wc.cell? ⟨gb174, 1, none⟩ = some (.int .u64 a0_1) := (blk_cell BK174.out 1).trans rfl; have hcz35_2 : wc.cell? ⟨gb174, 2, none⟩ = some (.int .u64 a0_2) := (blk_cell BK174.out 2).trans rfl; have hcz35_3 : wc.cell? ⟨gb174, 3, none⟩ = some (.int .u64 a0_3) := (blk_cell BK174.out 3).trans rfl; have hcz35_4 : wc.cell? ⟨gb174, 4, none⟩ = some (.int .u64 a0_4) := (blk_cell BK174.out 4).trans rfl; have hcz35_5 : wc.cell? ⟨gb174, 5, none⟩ = some (.int .u64 a0_5) := (blk_cell BK174.out 5).trans rfl; have hcz35_6 : wc.cell? ⟨gb174, 6, none⟩ = some (.int .i64 a0_6) := (blk_cell BK174.out 6).trans rfl; have hcz35_7 : wc.cell? ⟨gb174, 7, none⟩ = some (.bool a0_7) := (blk_cell BK174.out 7).trans rfl; have hcz35_8 : wc.cell? ⟨gb174, 8, none⟩ = some (.slice A0_8 l0_8.length c0_8) := (blk_cell BK174.out 8).trans rfl; have hcz35_9 : wc.cell? ⟨gb174, 9, none⟩ = some (.slice A0_9 l0_9.length c0_9) := (blk_cell BK174.out 9).trans rfl; have hcz35_10 : wc.cell? ⟨gb174, 10, none⟩ = some (.slice A0_10 l0_10.length c0_10) := (blk_cell BK174.out 10).trans rfl; have hfz35_0 := blk_frozen BK174.out 0; have hfz35_1 := blk_frozen BK174.out 1; have hfz35_2 := blk_frozen BK174.out 2; have hfz35_3 := blk_frozen BK174.out 3; have hfz35_4 := blk_frozen BK174.out 4; have hfz35_5 := blk_frozen BK174.out 5; have hfz35_6 := blk_frozen BK174.out 6; have hfz35_7 := blk_frozen BK174.out 7; have hfz35_8 := blk_frozen BK174.out 8; have hfz35_9 := blk_frozen BK174.out 9; have hfz35_10 := blk_frozen BK174.out 10
                            go_wp2
                            go_meet
                            case rel => exact ⟨_, (false), (by first | rfl | (simp; done) | (simp [*]; done)), H', ⟨by have := HJ1.out; have := HJ20.out; have := HJ24.out; first | omega | exact Nat.le_refl _⟩, ⟨by (with_reducible repeat (first | refine blk_drewN ?_ _ | refine blk_drew ?_ | refine blk_alloc ?_ _)); exact BK174.out⟩, ⟨by repeat (first | (with_reducible first | exact HB.out | apply below_alloc | apply pw_below_drewN | apply below_drew1 | refine below_set ?_ GE174.out) | exact HB.out)⟩⟩
                          · rw [if_neg c34] at H
                            have c34b0 : (a0_2 == 0) = false := beq_eq_false_iff_ne.mpr c34; have c34b1 : (a0_2 != 0) = true := bne_iff_ne.mpr c34
                            (first | rw [c34b0] | (simp only [i64_w, i32_w]; rw [c34b0]) | skip)
                            by_cases c36 : a0_6 = 0
                            · rw [if_pos c36] at H
                              have c36b0 : (a0_6 == 0) = true := beq_iff_eq.mpr c36; have c36b1 : (a0_6 != 0) = false := bne_eq_false_iff_eq.mpr c36; clear c36
                              have H' := Aside0.mk H
                              clear H; have hcz37_0 : wc.cell? ⟨gb174, 0, none⟩ = some (.int .i64 a0_0) := (blk_cell BK174.out 0).trans rfl; have hcz37_1 : wc.cell? ⟨gb174, 1, none⟩ = some (.int .u64 a0_1) := (blk_cell BK174.out 1).trans rfl; have hcz37_2 : wc.cell? ⟨gb174, 2, none⟩ = some (.int .u64 a0_2) := (blk_cell BK174.out 2).trans rfl; have hcz37_3 : wc.cell? ⟨gb174, 3, none⟩ = some (.int .u64 a0_3) := (blk_cell BK174.out 3).trans rfl; have hcz37_4 : wc.cell? ⟨gb174, 4, none⟩ = some (.int .u64 a0_4) := (blk_cell BK174.out 4).trans rfl; have hcz37_5 : wc.cell? ⟨gb174, 5, none⟩ = some (.int .u64 a0_5) := (blk_cell BK174.out 5).trans rfl; have hcz37_6 : wc.cell? ⟨gb174, 6, none⟩ = some (.int .i64 a0_6) := (blk_cell BK174.out 6).trans rfl; have hcz37_7 : wc.cell? ⟨gb174, 7, none⟩ = some (.bool a0_7) := (blk_cell BK174.out 7).trans rfl; have hcz37_8 : wc.cell? ⟨gb174, 8, none⟩ = some (.slice A0_8 l0_8.length c0_8) := (blk_cell BK174.out 8).trans rfl; have hcz37_9 : wc.cell? ⟨gb174, 9, none⟩ = some (.slice A0_9 l0_9.length c0_9) := (blk_cell BK174.out 9).trans rfl; have hcz37_10 : wc.cell? ⟨gb174, 10, none⟩ = some (.slice A0_10 l0_10.length c0_10) := (blk_cell BK174.out 10).trans rfl; have hfz37_0 := blk_frozen BK174.out 0; have hfz37_1 := blk_frozen BK174.out 1; have hfz37_2 := blk_frozen BK174.out 2; have hfz37_3 := blk_frozen BK174.out 3; have hfz37_4 := blk_frozen BK174.out 4; have hfz37_5 := blk_frozen BK174.out 5; have hfz37_6 := blk_frozen BK174.out 6; have hfz37_7 := blk_frozen BK174.out 7; have hfz37_8 := blk_frozen BK174.out 8; have hfz37_9 := blk_frozen BK174.out 9; have hfz37_10 := blk_frozen BK174.out 10
                              go_wp2
                              go_meet
                              case rel => exact ⟨_, (true), (by first | rfl | (simp; done) | (simp [*]; done)), H', ⟨by have := HJ1.out; have := HJ20.out; have := HJ24.out; first | omega | exact Nat.le_refl _⟩, ⟨by (with_reducible repeat (first | refine blk_drewN ?_ _ | refine blk_drew ?_ | refine blk_alloc ?_ _)); exact BK174.out⟩, ⟨by repeat (first | (with_reducible first | exact HB.out | apply below_alloc | apply pw_below_drewN | apply below_drew1 | refine below_set ?_ GE174.out) | exact HB.out)⟩⟩
                            · rw [if_neg c36] at H
                              have c36b0 : (a0_6 == 0) = false := beq_eq_false_iff_ne.mpr c36; have c36b1 : (a0_6 != 0) = true := bne_iff_ne.mpr c36
                              by_cases c38 : x5_20 = true
                              · subst c38
                                rw [if_pos rfl] at H
                                have H' := Aside0.mk H
                                clear H; have hcz39_0 : wc.cell? ⟨gb174, 0, none⟩ = some (.int .i64 a0_0) := (blk_cell BK174.out 0).trans rfl; have hcz39_1 : wc.cell? ⟨gb174, 1, none⟩ = some (.int .u64 a0_1) := (blk_cell BK174.out 1).trans rfl; have hcz39_2 : wc.cell? ⟨gb174, 2, none⟩ = some (.int .u64 a0_2) := (blk_cell BK174.out 2).trans rfl; have hcz39_3 : wc.cell? ⟨gb174, 3, none⟩ = some (.int .u64 a0_3) := (blk_cell BK174.out 3).trans rfl; have hcz39_4 : wc.cell? ⟨gb174, 4, none⟩ = some (.int .u64 a0_4) := (blk_cell BK174.out 4).trans rfl; have hcz39_5 : wc.cell? ⟨gb174, 5, none⟩ = some (.int .u64 a0_5) := (blk_cell BK174.out 5).trans rfl; have hcz39_6 : wc.cell? ⟨gb174, 6, none⟩ = some (.int .i64 a0_6) := (blk_cell BK174.out 6).trans rfl; have hcz39_7 : wc.cell? ⟨gb174, 7, none⟩ = some (.bool a0_7) := (blk_cell BK174.out 7).trans rfl; have hcz39_8 : wc.cell? ⟨gb174, 8, none⟩ = some (.slice A0_8 l0_8.length c0_8) := (blk_cell BK174.out 8).trans rfl; have hcz39_9 : wc.cell? ⟨gb174, 9, none⟩ = some (.slice A0_9 l0_9.length c0_9) := (blk_cell BK174.out 9).trans rfl; have hcz39_10 : wc.cell? ⟨gb174, 10, none⟩ = some (.slice A0_10 l0_10.length c0_10) := (blk_cell BK174.out 10).trans rfl; have hfz39_0 := blk_frozen BK174.out 0; have hfz39_1 := blk_frozen BK174.out 1; have hfz39_2 := blk_frozen BK174.out 2; have hfz39_3 := blk_frozen BK174.out 3; have hfz39_4 := blk_frozen BK174.out 4; have hfz39_5 := blk_frozen BK174.out 5; have hfz39_6 := blk_frozen BK174.out 6; have hfz39_7 := blk_frozen BK174.out 7; have hfz39_8 := blk_frozen BK174.out 8; have hfz39_9 := blk_frozen BK174.out 9; have hfz39_10 := blk_frozen BK174.out 10
                                go_wp2
                                go_meet
                                case rel => exact ⟨_, (!(a0_4 == 0 && (a0_5 == 0))), (by first | rfl | (simp; done) | (simp [*]; done)), H', ⟨by have := HJ1.out; have := HJ20.out; have := HJ24.out; first | omega | exact Nat.le_refl _⟩, ⟨by (with_reducible repeat (first | refine blk_drewN ?_ _ | refine blk_drew ?_ | refine blk_alloc ?_ _)); exact BK174.out⟩, ⟨by repeat (first | (with_reducible first | exact HB.out | apply below_alloc | apply pw_below_drewN | apply below_drew1 | refine below_set ?_ GE174.out) | exact HB.out)⟩⟩
                              · replace c38 := Bool.eq_false_iff.mpr c38
                                subst c38
                                rw [if_neg (show ¬ (false = true) by decide)] at H
                                have H' := Aside0.mk H
                                clear H; have hcz40_0 : wc.cell? ⟨gb174, 0, none⟩ = some (.int .i64 a0_0) := (blk_cell BK174.out 0).trans rfl; have hcz40_1 : wc.cell? ⟨gb174, 1, none⟩ = some (.int .u64 a0_1) := (blk_cell BK174.out 1).trans rfl; have hcz40_2 : wc.cell? ⟨gb174, 2, none⟩ = some (.int .u64 a0_2) := (blk_cell BK174.out 2).trans rfl; have hcz40_3 : wc.cell? ⟨gb174, 3, none⟩ = some (.int .u64 a0_3) := (blk_cell BK174.out 3).trans rfl; have hcz40_4 : wc.cell? ⟨gb174, 4, none⟩ = some (.int .u64 a0_4) := (blk_cell BK174.out 4).trans rfl; have hcz40_5 : wc.cell? ⟨gb174, 5, none⟩ = some (.int .u64 a0_5) := (blk_cell BK174.out 5).trans rfl; have hcz40_6 : wc.cell? ⟨gb174, 6, none⟩ = some (.int .i64 a0_6) := (blk_cell BK174.out 6).trans rfl; have hcz40_7 : wc.cell? ⟨gb174, 7, none⟩ = some (.bool a0_7) := (blk_cell BK174.out 7).trans rfl; have hcz40_8 : wc.cell? ⟨gb174, 8, none⟩ = some (.slice A0_8 l0_8.length c0_8) := (blk_cell BK174.out 8).trans rfl; have hcz40_9 : wc.cell? ⟨gb174, 9, none⟩ = some (.slice A0_9 l0_9.length c0_9) := (blk_cell BK174.out 9).trans rfl; have hcz40_10 : wc.cell? ⟨gb174, 10, none⟩ = some (.slice A0_10 l0_10.length c0_10) := (blk_cell BK174.out 10).trans rfl; have hfz40_0 := blk_frozen BK174.out 0; have hfz40_1 := blk_frozen BK174.out 1; have hfz40_2 := blk_frozen BK174.out 2; have hfz40_3 := blk_frozen BK174.out 3; have hfz40_4 := blk_frozen BK174.out 4; have hfz40_5 := blk_frozen BK174.out 5; have hfz40_6 := blk_frozen BK174.out 6; have hfz40_7 := blk_frozen BK174.out 7; have hfz40_8 := blk_frozen BK174.out 8; have hfz40_9 := blk_frozen BK174.out 9; have hfz40_10 := blk_frozen BK174.out 10
                                go_wp2
                                go_meet
                                case rel => exact ⟨_, (false), (by first | rfl | (simp; done) | (simp [*]; done)), H', ⟨by have := HJ1.out; have := HJ20.out; have := HJ24.out; first | omega | exact Nat.le_refl _⟩, ⟨by (with_reducible repeat (first | refine blk_drewN ?_ _ | refine blk_drew ?_ | refine blk_alloc ?_ _)); exact BK174.out⟩, ⟨by repeat (first | (with_reducible first | exact HB.out | apply below_alloc | apply pw_below_drewN | apply below_drew1 | refine below_set ?_ GE174.out) | exact HB.out)⟩⟩
                        · replace c33 := Bool.eq_false_iff.mpr c33
                          subst c33
                          rw [if_neg (show ¬ (false = true) by decide)] at H
                          exact absurd H (by simp)
                      case rest =>
                        clear HC32; (try clear c2); (try clear p2); (try clear c3); (try clear c4); (try clear c7); (try clear c8); (try clear c8b0); (try clear c8b1); (try clear c22); (try clear c22b0); (try clear c27); (try clear c27b0); (try clear c27b1); (try clear c28); (try clear c29); (try clear c29b0); (try clear c29b1); (try clear c30); (try clear c30b0); (try clear c30b1); (try clear c31); (try clear c31b0); (try clear c31b1); (try clear c33); (try clear c34); (try clear c34b0); (try clear c34b1); (try clear c36); (try clear c36b0); (try clear c36b1); (try clear c38); (try clear hcz23_0); (try clear hcz23_1); (try clear hcz23_10); (try clear hcz23_2); (try clear hcz23_3); (try clear hcz23_4); (try clear hcz23_5); (try clear hcz23_6); (try clear hcz23_7); (try clear hcz23_8); (try clear hcz23_9); (try clear hcz24_0); (try clear hcz24_1); (try clear hcz24_10); (try clear hcz24_2); (try clear hcz24_3); (try clear hcz24_4); (try clear hcz24_5); (try clear hcz24_6); (try clear hcz24_7); (try clear hcz24_8); (try clear hcz24_9); (try clear hcz26_0); (try clear hcz26_1); (try clear hcz26_10); (try clear hcz26_2); (try clear hcz26_3); (try clear hcz26_4); (try clear hcz26_5); (try clear hcz26_6); (try clear hcz26_7); (try clear hcz26_8); (try clear hcz26_9); (try clear hcz35_0); (try clear hcz35_1); (try clear hcz35_10); (try clear hcz35_2); (try clear hcz35_3); (try clear hcz35_4); (try clear hcz35_5); (try clear hcz35_6); (try clear hcz35_7); (try clear hcz35_8); (try clear hcz35_9); (try clear hcz37_0); (try clear hcz37_1); (try clear hcz37_10); (try clear hcz37_2); (try clear hcz37_3); (try clear hcz37_4); (try clear hcz37_5); (try clear hcz37_6); (try clear hcz37_7); (try clear hcz37_8); (try clear hcz37_9); (try clear hcz39_0); (try clear hcz39_1); (try clear hcz39_10); (try clear hcz39_2); (try clear hcz39_3); (try clear hcz39_4); (try clear hcz39_5); (try clear hcz39_6); (try clear hcz39_7); (try clear hcz39_8); (try clear hcz39_9); (try clear hcz40_0); (try clear hcz40_1); (try clear hcz40_10); (try clear hcz40_2); (try clear hcz40_3); (try clear hcz40_4); (try clear hcz40_5); (try clear hcz40_6); (try clear hcz40_7); (try clear hcz40_8); (try clear hcz40_9); (try clear hcz4_0); (try clear hcz4_1); (try clear hcz4_10); (try clear hcz4_2); (try clear hcz4_3); (try clear hcz4_4); (try clear hcz4_5); (try clear hcz4_6); (try clear hcz4_7); (try clear hcz4_8); (try clear hcz4_9); (try clear hfz23_0); (try clear hfz23_1); (try clear hfz23_10); (try clear hfz23_2); (try clear hfz23_3); (try clear hfz23_4); (try clear hfz23_5); (try clear hfz23_6); (try clear hfz23_7); (try clear hfz23_8); (try clear hfz23_9); (try clear hfz24_0); (try clear hfz24_1); (try clear hfz24_10); (try clear hfz24_2); (try clear hfz24_3); (try clear hfz24_4); (try clear hfz24_5); (try clear hfz24_6); (try clear hfz24_7); (try clear hfz24_8); (try clear hfz24_9); (try clear hfz26_0); (try clear hfz26_1); (try clear hfz26_10); (try clear hfz26_2); (try clear hfz26_3); (try clear hfz26_4); (try clear hfz26_5); (try clear hfz26_6); (try clear hfz26_7); (try clear hfz26_8); (try clear hfz26_9); (try clear hfz35_0); (try clear hfz35_1); (try clear hfz35_10); (try clear hfz35_2); (try clear hfz35_3); (try clear hfz35_4); (try clear hfz35_5); (try clear hfz35_6); (try clear hfz35_7); (try clear hfz35_8); (try clear hfz35_9)
                        (try clear hfz37_0); (try clear hfz37_1); (try clear hfz37_10); (try clear hfz37_2); (try clear hfz37_3); (try clear hfz37_4); (try clear hfz37_5); (try clear hfz37_6); (try clear hfz37_7); (try clear hfz37_8); (try clear hfz37_9); (try clear hfz39_0); (try clear hfz39_1); (try clear hfz39_10); (try clear hfz39_2); (try clear hfz39_3); (try clear hfz39_4); (try clear hfz39_5); (try clear hfz39_6); (try clear hfz39_7); (try clear hfz39_8); (try clear hfz39_9); (try clear hfz40_0); (try clear hfz40_1); (try clear hfz40_10); (try clear hfz40_2); (try clear hfz40_3); (try clear hfz40_4); (try clear hfz40_5); (try clear hfz40_6); (try clear hfz40_7); (try clear hfz40_8); (try clear hfz40_9); (try clear hfz4_0); (try clear hfz4_1); (try clear hfz4_10); (try clear hfz4_2); (try clear hfz4_3); (try clear hfz4_4); (try clear hfz4_5); (try clear hfz4_6); (try clear hfz4_7); (try clear hfz4_8); (try clear hfz4_9); (try clear p2)
                        obtain ⟨kq, x4_31, rfl, HA, HJ31, BK174, HB⟩ := hcut
                        cases kq with
                        | zero => exact absurd HA.out (by simp [winnowref05_Right.j3])
                        | succ kj31 =>
                          have H := HA.out; clear HA
                          simp only [winnowref05_Right.j3] at H
                          by_cases c41 : a0_7 = true
                          · subst c41
                            rw [if_pos rfl] at H
                            by_cases c42 : x4_31 = true
                            · subst c42
                              rw [if_pos rfl] at H
                              by_cases c43 : a0_6 = 0
                              · rw [if_pos c43] at H
                                have c43b0 : (a0_6 == 0) = true := beq_iff_eq.mpr c43; have c43b1 : (a0_6 != 0) = false := bne_eq_false_iff_eq.mpr c43; clear c43
                                by_cases c44 : (a0_4 == 0 && (a0_5 == 0)) = true
                                · rw [if_pos c44] at H
                                  have c44b0 : (a0_4 == 0 && (a0_5 == 0)) = true := c44
                                  (try (have c44b1 : decide (a0_4 = 0 && (a0_5 == 0)) = true := by simpa using c44))
                                  (try (have c44b2 : (a0_4 == 0 && (a0_5 == 0)) = true := by simpa using c44))
                                  clear c44
                                  obtain rfl := Option.some.inj H
                                  have hcz45_0 : wc.cell? ⟨gb174, 0, none⟩ = some (.int .i64 a0_0) := (blk_cell BK174.out 0).trans rfl; have hcz45_1 : wc.cell? ⟨gb174, 1, none⟩ = some (.int .u64 a0_1) := (blk_cell BK174.out 1).trans rfl; have hcz45_2 : wc.cell? ⟨gb174, 2, none⟩ = some (.int .u64 a0_2) := (blk_cell BK174.out 2).trans rfl; have hcz45_3 : wc.cell? ⟨gb174, 3, none⟩ = some (.int .u64 a0_3) := (blk_cell BK174.out 3).trans rfl; have hcz45_4 : wc.cell? ⟨gb174, 4, none⟩ = some (.int .u64 a0_4) := (blk_cell BK174.out 4).trans rfl; have hcz45_5 : wc.cell? ⟨gb174, 5, none⟩ = some (.int .u64 a0_5) := (blk_cell BK174.out 5).trans rfl; have hcz45_6 : wc.cell? ⟨gb174, 6, none⟩ = some (.int .i64 a0_6) := (blk_cell BK174.out 6).trans rfl; have hcz45_7 : wc.cell? ⟨gb174, 7, none⟩ = some (.bool true) := (blk_cell BK174.out 7).trans rfl; have hcz45_8 : wc.cell? ⟨gb174, 8, none⟩ = some (.slice A0_8 l0_8.length c0_8) := (blk_cell BK174.out 8).trans rfl; have hcz45_9 : wc.cell? ⟨gb174, 9, none⟩ = some (.slice A0_9 l0_9.length c0_9) := (blk_cell BK174.out 9).trans rfl; have hcz45_10 : wc.cell? ⟨gb174, 10, none⟩ = some (.slice A0_10 l0_10.length c0_10) := (blk_cell BK174.out 10).trans rfl; have hfz45_0 := blk_frozen BK174.out 0; have hfz45_1 := blk_frozen BK174.out 1; have hfz45_2 := blk_frozen BK174.out 2; have hfz45_3 := blk_frozen BK174.out 3; have hfz45_4 := blk_frozen BK174.out 4; have hfz45_5 := blk_frozen BK174.out 5; have hfz45_6 := blk_frozen BK174.out 6; have hfz45_7 := blk_frozen BK174.out 7; have hfz45_8 := blk_frozen BK174.out 8; have hfz45_9 := blk_frozen BK174.out 9; have hfz45_10 := blk_frozen BK174.out 10
                                  go_wp2
                                  go_ret
                                  exact ⟨by first | rfl | (simp [errW_none, errW_some] <;> rfl) | (simp [*, errW_none, errW_some] <;> rfl), by repeat (first | (with_reducible first | exact HB.out | apply below_alloc | apply pw_below_drewN | apply below_drew1 | refine below_set ?_ GE174.out) | exact HB.out)⟩
                                · rw [if_neg c44] at H
                                  have c44b0 : (a0_4 == 0 && (a0_5 == 0)) = false := by simpa using c44
                                  (try (have c44b1 : decide (a0_4 = 0 && (a0_5 == 0)) = false := by simpa using c44))
                                  (try (have c44b2 : (a0_4 == 0 && (a0_5 == 0)) = false := by simpa using c44))
                                  (try (have c44b3 : ¬ (a0_4 = 0 && (a0_5 == 0)) := by simpa using c44))
                                  clear c44
                                  obtain rfl := Option.some.inj H
                                  have hcz46_0 : wc.cell? ⟨gb174, 0, none⟩ = some (.int .i64 a0_0) := (blk_cell BK174.out 0).trans rfl; have hcz46_1 : wc.cell? ⟨gb174, 1, none⟩ = some (.int .u64 a0_1) := (blk_cell BK174.out 1).trans rfl; have hcz46_2 : wc.cell? ⟨gb174, 2, none⟩ = some (.int .u64 a0_2) := (blk_cell BK174.out 2).trans rfl; have hcz46_3 : wc.cell? ⟨gb174, 3, none⟩ = some (.int .u64 a0_3) := (blk_cell BK174.out 3).trans rfl; have hcz46_4 : wc.cell? ⟨gb174, 4, none⟩ = some (.int .u64 a0_4) := (blk_cell BK174.out 4).trans rfl; have hcz46_5 : wc.cell? ⟨gb174, 5, none⟩ = some (.int .u64 a0_5) := (blk_cell BK174.out 5).trans rfl; have hcz46_6 : wc.cell? ⟨gb174, 6, none⟩ = some (.int .i64 a0_6) := (blk_cell BK174.out 6).trans rfl; have hcz46_7 : wc.cell? ⟨gb174, 7, none⟩ = some (.bool true) := (blk_cell BK174.out 7).trans rfl; have hcz46_8 : wc.cell? ⟨gb174, 8, none⟩ = some (.slice A0_8 l0_8.length c0_8) := (blk_cell BK174.out 8).trans rfl; have hcz46_9 : wc.cell? ⟨gb174, 9, none⟩ = some (.slice A0_9 l0_9.length c0_9) := (blk_cell BK174.out 9).trans rfl; have hcz46_10 : wc.cell? ⟨gb174, 10, none⟩ = some (.slice A0_10 l0_10.length c0_10) := (blk_cell BK174.out 10).trans rfl; have hfz46_0 := blk_frozen BK174.out 0; have hfz46_1 := blk_frozen BK174.out 1; have hfz46_2 := blk_frozen BK174.out 2; have hfz46_3 := blk_frozen BK174.out 3; have hfz46_4 := blk_frozen BK174.out 4; have hfz46_5 := blk_frozen BK174.out 5; have hfz46_6 := blk_frozen BK174.out 6; have hfz46_7 := blk_frozen BK174.out 7; have hfz46_8 := blk_frozen BK174.out 8; have hfz46_9 := blk_frozen BK174.out 9; have hfz46_10 := blk_frozen BK174.out 10
                                  go_wp2
                                  go_ret
                                  exact ⟨by first | rfl | (simp [errW_none, errW_some] <;> rfl) | (simp [*, errW_none, errW_some] <;> rfl), by repeat (first | (with_reducible first | exact HB.out | apply below_alloc | apply pw_below_drewN | apply below_drew1 | refine below_set ?_ GE174.out) | exact HB.out)⟩
                              · rw [if_neg c43] at H
                                have c43b0 : (a0_6 == 0) = false := beq_eq_false_iff_ne.mpr c43; have c43b1 : (a0_6 != 0) = true := bne_iff_ne.mpr c43
                                obtain rfl := Option.some.inj H
                                have hcz47_0 : wc.cell? ⟨gb174, 0, none⟩ = some (.int .i64 a0_0) := (blk_cell BK174.out 0).trans rfl; have hcz47_1 : wc.cell? ⟨gb174, 1, none⟩ = some (.int .u64 a0_1) := (blk_cell BK174.out 1).trans rfl; have hcz47_2 : wc.cell? ⟨gb174, 2, none⟩ = some (.int .u64 a0_2) := (blk_cell BK174.out 2).trans rfl; have hcz47_3 : wc.cell? ⟨gb174, 3, none⟩ = some (.int .u64 a0_3) := (blk_cell BK174.out 3).trans rfl; have hcz47_4 : wc.cell? ⟨gb174, 4, none⟩ = some (.int .u64 a0_4) := (blk_cell BK174.out 4).trans rfl; have hcz47_5 : wc.cell? ⟨gb174, 5, none⟩ = some (.int .u64 a0_5) := (blk_cell BK174.out 5).trans rfl; have hcz47_6 : wc.cell? ⟨gb174, 6, none⟩ = some (.int .i64 a0_6) := (blk_cell BK174.out 6).trans rfl; have hcz47_7 : wc.cell? ⟨gb174, 7, none⟩ = some (.bool true) := (blk_cell BK174.out 7).trans rfl; have hcz47_8 : wc.cell? ⟨gb174, 8, none⟩ = some (.slice A0_8 l0_8.length c0_8) := (blk_cell BK174.out 8).trans rfl; have hcz47_9 : wc.cell? ⟨gb174, 9, none⟩ = some (.slice A0_9 l0_9.length c0_9) := (blk_cell BK174.out 9).trans rfl; have hcz47_10 : wc.cell? ⟨gb174, 10, none⟩ = some (.slice A0_10 l0_10.length c0_10) := (blk_cell BK174.out 10).trans rfl; have hfz47_0 := blk_frozen BK174.out 0; have hfz47_1 := blk_frozen BK174.out 1; have hfz47_2 := blk_frozen BK174.out 2; have hfz47_3 := blk_frozen BK174.out 3; have hfz47_4 := blk_frozen BK174.out 4; have hfz47_5 := blk_frozen BK174.out 5; have hfz47_6 := blk_frozen BK174.out 6; have hfz47_7 := blk_frozen BK174.out 7; have hfz47_8 := blk_frozen BK174.out 8; have hfz47_9 := blk_frozen BK174.out 9; have hfz47_10 := blk_frozen BK174.out 10
                                go_wp2
                                go_ret
                                exact ⟨by first | rfl | (simp [errW_none, errW_some] <;> rfl) | (simp [*, errW_none, errW_some] <;> rfl), by repeat (first | (with_reducible first | exact HB.out | apply below_alloc | apply pw_below_drewN | apply below_drew1 | refine below_set ?_ GE174.out) | exact HB.out)⟩
                            · replace c42 := Bool.eq_false_iff.mpr c42
                              subst c42
                              rw [if_neg (show ¬ (false = true) by decide)] at H
                              exact absurd H (by simp)
                          · replace c41 := Bool.eq_false_iff.mpr c41
                            subst c41
                            rw [if_neg (show ¬ (false = true) by decide)] at H
                            by_cases c48 : x4_31 = true
                            · subst c48
                              rw [if_pos rfl] at H
                              by_cases c49 : a0_6 = 0
                              · rw [if_pos c49] at H
                                have c49b0 : (a0_6 == 0) = true := beq_iff_eq.mpr c49; have c49b1 : (a0_6 != 0) = false := bne_eq_false_iff_eq.mpr c49; clear c49
                                by_cases c50 : (a0_4 == 0 && (a0_5 == 0)) = true
                                · rw [if_pos c50] at H
                                  have c50b0 : (a0_4 == 0 && (a0_5 == 0)) = true := c50
                                  (try (have c50b1 : decide (a0_4 = 0 && (a0_5 == 0)) = true := by simpa using c50))
                                  (try (have c50b2 : (a0_4 == 0 && (a0_5 == 0)) = true := by simpa using c50))
                                  clear c50
                                  obtain rfl := Option.some.inj H
                                  have hcz51_0 : wc.cell? ⟨gb174, 0, none⟩ = some (.int .i64 a0_0) := (blk_cell BK174.out 0).trans rfl; have hcz51_1 : wc.cell? ⟨gb174, 1, none⟩ = some (.int .u64 a0_1) := (blk_cell BK174.out 1).trans rfl; have hcz51_2 : wc.cell? ⟨gb174, 2, none⟩ = some (.int .u64 a0_2) := (blk_cell BK174.out 2).trans rfl; have hcz51_3 : wc.cell? ⟨gb174, 3, none⟩ = some (.int .u64 a0_3) := (blk_cell BK174.out 3).trans rfl; have hcz51_4 : wc.cell? ⟨gb174, 4, none⟩ = some (.int .u64 a0_4) := (blk_cell BK174.out 4).trans rfl; have hcz51_5 : wc.cell? ⟨gb174, 5, none⟩ = some (.int .u64 a0_5) := (blk_cell BK174.out 5).trans rfl; have hcz51_6 : wc.cell? ⟨gb174, 6, none⟩ = some (.int .i64 a0_6) := (blk_cell BK174.out 6).trans rfl; have hcz51_7 : wc.cell? ⟨gb174, 7, none⟩ = some (.bool false) := (blk_cell BK174.out 7).trans rfl; have hcz51_8 : wc.cell? ⟨gb174, 8, none⟩ = some (.slice A0_8 l0_8.length c0_8) := (blk_cell BK174.out 8).trans rfl; have hcz51_9 : wc.cell? ⟨gb174, 9, none⟩ = some (.slice A0_9 l0_9.length c0_9) := (blk_cell BK174.out 9).trans rfl; have hcz51_10 : wc.cell? ⟨gb174, 10, none⟩ = some (.slice A0_10 l0_10.length c0_10) := (blk_cell BK174.out 10).trans rfl; have hfz51_0 := blk_frozen BK174.out 0; have hfz51_1 := blk_frozen BK174.out 1; have hfz51_2 := blk_frozen BK174.out 2; have hfz51_3 := blk_frozen BK174.out 3; have hfz51_4 := blk_frozen BK174.out 4; have hfz51_5 := blk_frozen BK174.out 5; have hfz51_6 := blk_frozen BK174.out 6; have hfz51_7 := blk_frozen BK174.out 7; have hfz51_8 := blk_frozen BK174.out 8; have hfz51_9 := blk_frozen BK174.out 9; have hfz51_10 := blk_frozen BK174.out 10
                                  go_wp2
                                  go_ret
                                  exact ⟨by first | rfl | (simp [errW_none, errW_some] <;> rfl) | (simp [*, errW_none, errW_some] <;> rfl), by repeat (first | (with_reducible first | exact HB.out | apply below_alloc | apply pw_below_drewN | apply below_drew1 | refine below_set ?_ GE174.out) | exact HB.out)⟩
                                · rw [if_neg c50] at H
                                  have c50b0 : (a0_4 == 0 && (a0_5 == 0)) = false := by simpa using c50
                                  (try (have c50b1 : decide (a0_4 = 0 && (a0_5 == 0)) = false := by simpa using c50))
                                  (try (have c50b2 : (a0_4 == 0 && (a0_5 == 0)) = false := by simpa using c50))
                                  (try (have c50b3 : ¬ (a0_4 = 0 && (a0_5 == 0)) := by simpa using c50))
                                  clear c50
                                  obtain rfl := Option.some.inj H
                                  have hcz52_0 : wc.cell? ⟨gb174, 0, none⟩ = some (.int .i64 a0_0) := (blk_cell BK174.out 0).trans rfl; have hcz52_1 : wc.cell? ⟨gb174, 1, none⟩ = some (.int .u64 a0_1) := (blk_cell BK174.out 1).trans rfl; have hcz52_2 : wc.cell? ⟨gb174, 2, none⟩ = some (.int .u64 a0_2) := (blk_cell BK174.out 2).trans rfl; have hcz52_3 : wc.cell? ⟨gb174, 3, none⟩ = some (.int .u64 a0_3) := (blk_cell BK174.out 3).trans rfl; have hcz52_4 : wc.cell? ⟨gb174, 4, none⟩ = some (.int .u64 a0_4) := (blk_cell BK174.out 4).trans rfl; have hcz52_5 : wc.cell? ⟨gb174, 5, none⟩ = some (.int .u64 a0_5) := (blk_cell BK174.out 5).trans rfl; have hcz52_6 : wc.cell? ⟨gb174, 6, none⟩ = some (.int .i64 a0_6) := (blk_cell BK174.out 6).trans rfl; have hcz52_7 : wc.cell? ⟨gb174, 7, none⟩ = some (.bool false) := (blk_cell BK174.out 7).trans rfl; have hcz52_8 : wc.cell? ⟨gb174, 8, none⟩ = some (.slice A0_8 l0_8.length c0_8) := (blk_cell BK174.out 8).trans rfl; have hcz52_9 : wc.cell? ⟨gb174, 9, none⟩ = some (.slice A0_9 l0_9.length c0_9) := (blk_cell BK174.out 9).trans rfl; have hcz52_10 : wc.cell? ⟨gb174, 10, none⟩ = some (.slice A0_10 l0_10.length c0_10) := (blk_cell BK174.out 10).trans rfl; have hfz52_0 := blk_frozen BK174.out 0; have hfz52_1 := blk_frozen BK174.out 1; have hfz52_2 := blk_frozen BK174.out 2; have hfz52_3 := blk_frozen BK174.out 3; have hfz52_4 := blk_frozen BK174.out 4; have hfz52_5 := blk_frozen BK174.out 5; have hfz52_6 := blk_frozen BK174.out 6; have hfz52_7 := blk_frozen BK174.out 7; have hfz52_8 := blk_frozen BK174.out 8; have hfz52_9 := blk_frozen BK174.out 9; have hfz52_10 := blk_frozen BK174.out 10
                                  go_wp2
                                  go_ret
                                  exact ⟨by first | rfl | (simp [errW_none, errW_some] <;> rfl) | (simp [*, errW_none, errW_some] <;> rfl), by repeat (first | (with_reducible first | exact HB.out | apply below_alloc | apply pw_below_drewN | apply below_drew1 | refine below_set ?_ GE174.out) | exact HB.out)⟩
                              · rw [if_neg c49] at H
                                have c49b0 : (a0_6 == 0) = false := beq_eq_false_iff_ne.mpr c49; have c49b1 : (a0_6 != 0) = true := bne_iff_ne.mpr c49
                                obtain rfl := Option.some.inj H
                                have hcz53_0 : wc.cell? ⟨gb174, 0, none⟩ = some (.int .i64 a0_0) := (blk_cell BK174.out 0).trans rfl; have hcz53_1 : wc.cell? ⟨gb174, 1, none⟩ = some (.int .u64 a0_1) := (blk_cell BK174.out 1).trans rfl; have hcz53_2 : wc.cell? ⟨gb174, 2, none⟩ = some (.int .u64 a0_2) := (blk_cell BK174.out 2).trans rfl; have hcz53_3 : wc.cell? ⟨gb174, 3, none⟩ = some (.int .u64 a0_3) := (blk_cell BK174.out 3).trans rfl; have hcz53_4 : wc.cell? ⟨gb174, 4, none⟩ = some (.int .u64 a0_4) := (blk_cell BK174.out 4).trans rfl; have hcz53_5 : wc.cell? ⟨gb174, 5, none⟩ = some (.int .u64 a0_5) := (blk_cell BK174.out 5).trans rfl; have hcz53_6 : wc.cell? ⟨gb174, 6, none⟩ = some (.int .i64 a0_6) := (blk_cell BK174.out 6).trans rfl; have hcz53_7 : wc.cell? ⟨gb174, 7, none⟩ = some (.bool false) := (blk_cell BK174.out 7).trans rfl; have hcz53_8 : wc.cell? ⟨gb174, 8, none⟩ = some (.slice A0_8 l0_8.length c0_8) := (blk_cell BK174.out 8).trans rfl; have hcz53_9 : wc.cell? ⟨gb174, 9, none⟩ = some (.slice A0_9 l0_9.length c0_9) := (blk_cell BK174.out 9).trans rfl; have hcz53_10 : wc.cell? ⟨gb174, 10, none⟩ = some (.slice A0_10 l0_10.length c0_10) := (blk_cell BK174.out 10).trans rfl; have hfz53_0 := blk_frozen BK174.out 0; have hfz53_1 := blk_frozen BK174.out 1; have hfz53_2 := blk_frozen BK174.out 2; have hfz53_3 := blk_frozen BK174.out 3; have hfz53_4 := blk_frozen BK174.out 4; have hfz53_5 := blk_frozen BK174.out 5; have hfz53_6 := blk_frozen BK174.out 6; have hfz53_7 := blk_frozen BK174.out 7; have hfz53_8 := blk_frozen BK174.out 8; have hfz53_9 := blk_frozen BK174.out 9; have hfz53_10 := blk_frozen BK174.out 10
                                go_wp2
                                go_ret
                                exact ⟨by first | rfl | (simp [errW_none, errW_some] <;> rfl) | (simp [*, errW_none, errW_some] <;> rfl), by repeat (first | (with_reducible first | exact HB.out | apply below_alloc | apply pw_below_drewN | apply below_drew1 | refine below_set ?_ GE174.out) | exact HB.out)⟩
                            · replace c48 := Bool.eq_false_iff.mpr c48
                              subst c48
                              rw [if_neg (show ¬ (false = true) by decide)] at H
                              exact absurd H (by simp)
                    · rw [if_neg c31] at H
                      have c31b0 : (a0_0 == 5) = false := beq_eq_false_iff_ne.mpr c31; have c31b1 : (a0_0 != 5) = true := bne_iff_ne.mpr c31
                      by_cases c54 : a0_0 = 6
                      · rw [if_pos c54] at H
                        exact absurd H (by simp)
                      · rw [if_neg c54] at H
                        have c54b0 : (a0_0 == 6) = false := beq_eq_false_iff_ne.mpr c54; have c54b1 : (a0_0 != 6) = true := bne_iff_ne.mpr c54
                        by_cases c55 : a0_0 = 7
                        · rw [if_pos c55] at H
                          have c55b0 : (a0_0 == 7) = true := beq_iff_eq.mpr c55; have c55b1 : (a0_0 != 7) = false := bne_eq_false_iff_eq.mpr c55; clear c55
                          by_cases c56 : x4_1 = true
                          · subst c56
                            rw [if_pos rfl] at H
                            by_cases c57 : a0_2 = 0
                            · rw [if_pos c57] at H
                              have c57b0 : (a0_2 == 0) = true := beq_iff_eq.mpr c57; have c57b1 : (a0_2 != 0) = false := bne_eq_false_iff_eq.mpr c57; clear c57
                              obtain rfl := Option.some.inj H
                              have hcz58_0 : wc.cell? ⟨gb174, 0, none⟩ = some (.int .i64 a0_0) := (blk_cell BK174.out 0).trans rfl; have hcz58_1 : wc.cell? ⟨gb174, 1, none⟩ = some (.int .u64 a0_1) := (blk_cell BK174.out 1).trans rfl; have hcz58_2 : wc.cell? ⟨gb174, 2, none⟩ = some (.int .u64 a0_2) := (blk_cell BK174.out 2).trans rfl; have hcz58_3 : wc.cell? ⟨gb174, 3, none⟩ = some (.int .u64 a0_3) := (blk_cell BK174.out 3).trans rfl; have hcz58_4 : wc.cell? ⟨gb174, 4, none⟩ = some (.int .u64 a0_4) := (blk_cell BK174.out 4).trans rfl; have hcz58_5 : wc.cell? ⟨gb174, 5, none⟩ = some (.int .u64 a0_5) := (blk_cell BK174.out 5).trans rfl; have hcz58_6 : wc.cell? ⟨gb174, 6, none⟩ = some (.int .i64 a0_6) := (blk_cell BK174.out 6).trans rfl; have hcz58_7 : wc.cell? ⟨gb174, 7, none⟩ = some (.bool a0_7) := (blk_cell BK174.out 7).trans rfl; have hcz58_8 : wc.cell? ⟨gb174, 8, none⟩ = some (.slice A0_8 l0_8.length c0_8) := (blk_cell BK174.out 8).trans rfl; have hcz58_9 : wc.cell? ⟨gb174, 9, none⟩ = some (.slice A0_9 l0_9.length c0_9) := (blk_cell BK174.out 9).trans rfl; have hcz58_10 : wc.cell? ⟨gb174, 10, none⟩ = some (.slice A0_10 l0_10.length c0_10) := (blk_cell BK174.out 10).trans rfl; have hfz58_0 := blk_frozen BK174.out 0; have hfz58_1 := blk_frozen BK174.out 1; have hfz58_2 := blk_frozen BK174.out 2; have hfz58_3 := blk_frozen BK174.out 3; have hfz58_4 := blk_frozen BK174.out 4; have hfz58_5 := blk_frozen BK174.out 5; have hfz58_6 := blk_frozen BK174.out 6; have hfz58_7 := blk_frozen BK174.out 7; have hfz58_8 := blk_frozen BK174.out 8; have hfz58_9 := blk_frozen BK174.out 9; have hfz58_10 := blk_frozen BK174.out 10
                              go_wp2
                              go_ret
                              exact ⟨by first | rfl | (simp [errW_none, errW_some] <;> rfl) | (simp [*, errW_none, errW_some] <;> rfl), by repeat (first | (with_reducible first | exact HB.out | apply below_alloc | apply pw_below_drewN | apply below_drew1 | refine below_set ?_ GE174.out) | exact HB.out)⟩
                            · rw [if_neg c57] at H
                              have c57b0 : (a0_2 == 0) = false := beq_eq_false_iff_ne.mpr c57; have c57b1 : (a0_2 != 0) = true := bne_iff_ne.mpr c57
                              by_cases c59 : ((a0_7 == (a0_4 == 0 && (a0_5 == 0))) = true)
                              · rw [if_pos c59] at H
                                have c59b0 : (a0_7 == (a0_4 == 0 && (a0_5 == 0))) = true := c59
                                (try (have c59b1 : decide (a0_7 = (a0_4 == 0 && (a0_5 == 0))) = true := by simpa using c59))
                                (try (have c59b2 : (a0_7 == (a0_4 == 0 && (a0_5 == 0))) = true := by simpa using c59))
                                clear c59
                                obtain rfl := Option.some.inj H
                                have hcz60_0 : wc.cell? ⟨gb174, 0, none⟩ = some (.int .i64 a0_0) := (blk_cell BK174.out 0).trans rfl; have hcz60_1 : wc.cell? ⟨gb174, 1, none⟩ = some (.int .u64 a0_1) := (blk_cell BK174.out 1).trans rfl; have hcz60_2 : wc.cell? ⟨gb174, 2, none⟩ = some (.int .u64 a0_2) := (blk_cell BK174.out 2).trans rfl; have hcz60_3 : wc.cell? ⟨gb174, 3, none⟩ = some (.int .u64 a0_3) := (blk_cell BK174.out 3).trans rfl; have hcz60_4 : wc.cell? ⟨gb174, 4, none⟩ = some (.int .u64 a0_4) := (blk_cell BK174.out 4).trans rfl; have hcz60_5 : wc.cell? ⟨gb174, 5, none⟩ = some (.int .u64 a0_5) := (blk_cell BK174.out 5).trans rfl; have hcz60_6 : wc.cell? ⟨gb174, 6, none⟩ = some (.int .i64 a0_6) := (blk_cell BK174.out 6).trans rfl; have hcz60_7 : wc.cell? ⟨gb174, 7, none⟩ = some (.bool a0_7) := (blk_cell BK174.out 7).trans rfl; have hcz60_8 : wc.cell? ⟨gb174, 8, none⟩ = some (.slice A0_8 l0_8.length c0_8) := (blk_cell BK174.out 8).trans rfl; have hcz60_9 : wc.cell? ⟨gb174, 9, none⟩ = some (.slice A0_9 l0_9.length c0_9) := (blk_cell BK174.out 9).trans rfl; have hcz60_10 : wc.cell? ⟨gb174, 10, none⟩ = some (.slice A0_10 l0_10.length c0_10) := (blk_cell BK174.out 10).trans rfl; have hfz60_0 := blk_frozen BK174.out 0; have hfz60_1 := blk_frozen BK174.out 1; have hfz60_2 := blk_frozen BK174.out 2; have hfz60_3 := blk_frozen BK174.out 3; have hfz60_4 := blk_frozen BK174.out 4; have hfz60_5 := blk_frozen BK174.out 5; have hfz60_6 := blk_frozen BK174.out 6; have hfz60_7 := blk_frozen BK174.out 7; have hfz60_8 := blk_frozen BK174.out 8; have hfz60_9 := blk_frozen BK174.out 9; have hfz60_10 := blk_frozen BK174.out 10
                                go_wp2
                                go_ret
                                exact ⟨by first | rfl | (simp [errW_none, errW_some] <;> rfl) | (simp [*, errW_none, errW_some] <;> rfl), by repeat (first | (with_reducible first | exact HB.out | apply below_alloc | apply pw_below_drewN | apply below_drew1 | refine below_set ?_ GE174.out) | exact HB.out)⟩
                              · rw [if_neg c59] at H
                                have c59b0 : (a0_7 == (a0_4 == 0 && (a0_5 == 0))) = false := by simpa using c59
                                (try (have c59b1 : decide (a0_7 = (a0_4 == 0 && (a0_5 == 0))) = false := by simpa using c59))
                                (try (have c59b2 : (a0_7 == (a0_4 == 0 && (a0_5 == 0))) = false := by simpa using c59))
                                (try (have c59b3 : ¬ (a0_7 = (a0_4 == 0 && (a0_5 == 0))) := by simpa using c59))
                                clear c59
                                obtain rfl := Option.some.inj H
                                have hcz61_0 : wc.cell? ⟨gb174, 0, none⟩ = some (.int .i64 a0_0) := (blk_cell BK174.out 0).trans rfl; have hcz61_1 : wc.cell? ⟨gb174, 1, none⟩ = some (.int .u64 a0_1) := (blk_cell BK174.out 1).trans rfl; have hcz61_2 : wc.cell? ⟨gb174, 2, none⟩ = some (.int .u64 a0_2) := (blk_cell BK174.out 2).trans rfl; have hcz61_3 : wc.cell? ⟨gb174, 3, none⟩ = some (.int .u64 a0_3) := (blk_cell BK174.out 3).trans rfl; have hcz61_4 : wc.cell? ⟨gb174, 4, none⟩ = some (.int .u64 a0_4) := (blk_cell BK174.out 4).trans rfl; have hcz61_5 : wc.cell? ⟨gb174, 5, none⟩ = some (.int .u64 a0_5) := (blk_cell BK174.out 5).trans rfl; have hcz61_6 : wc.cell? ⟨gb174, 6, none⟩ = some (.int .i64 a0_6) := (blk_cell BK174.out 6).trans rfl; have hcz61_7 : wc.cell? ⟨gb174, 7, none⟩ = some (.bool a0_7) := (blk_cell BK174.out 7).trans rfl; have hcz61_8 : wc.cell? ⟨gb174, 8, none⟩ = some (.slice A0_8 l0_8.length c0_8) := (blk_cell BK174.out 8).trans rfl; have hcz61_9 : wc.cell? ⟨gb174, 9, none⟩ = some (.slice A0_9 l0_9.length c0_9) := (blk_cell BK174.out 9).trans rfl; have hcz61_10 : wc.cell? ⟨gb174, 10, none⟩ = some (.slice A0_10 l0_10.length c0_10) := (blk_cell BK174.out 10).trans rfl; have hfz61_0 := blk_frozen BK174.out 0; have hfz61_1 := blk_frozen BK174.out 1; have hfz61_2 := blk_frozen BK174.out 2; have hfz61_3 := blk_frozen BK174.out 3; have hfz61_4 := blk_frozen BK174.out 4; have hfz61_5 := blk_frozen BK174.out 5; have hfz61_6 := blk_frozen BK174.out 6; have hfz61_7 := blk_frozen BK174.out 7; have hfz61_8 := blk_frozen BK174.out 8; have hfz61_9 := blk_frozen BK174.out 9; have hfz61_10 := blk_frozen BK174.out 10
                                go_wp2
                                go_ret
                                exact ⟨by first | rfl | (simp [errW_none, errW_some] <;> rfl) | (simp [*, errW_none, errW_some] <;> rfl), by repeat (first | (with_reducible first | exact HB.out | apply below_alloc | apply pw_below_drewN | apply below_drew1 | refine below_set ?_ GE174.out) | exact HB.out)⟩
                          · replace c56 := Bool.eq_false_iff.mpr c56
                            subst c56
                            rw [if_neg (show ¬ (false = true) by decide)] at H
                            exact absurd H (by simp)
                        · rw [if_neg c55] at H
                          have c55b0 : (a0_0 == 7) = false := beq_eq_false_iff_ne.mpr c55; have c55b1 : (a0_0 != 7) = true := bne_iff_ne.mpr c55
                          by_cases c62 : a0_0 = 8
                          · rw [if_pos c62] at H
                            exact absurd H (by simp)
                          · rw [if_neg c62] at H
                            have c62b0 : (a0_0 == 8) = false := beq_eq_false_iff_ne.mpr c62; have c62b1 : (a0_0 != 8) = true := bne_iff_ne.mpr c62
                            by_cases c63 : a0_0 = 9
                            · rw [if_pos c63] at H
                              exact absurd H (by simp)
                            · rw [if_neg c63] at H
                              have c63b0 : (a0_0 == 9) = false := beq_eq_false_iff_ne.mpr c63; have c63b1 : (a0_0 != 9) = true := bne_iff_ne.mpr c63
                              by_cases c64 : a0_0 = 10
                              · rw [if_pos c64] at H
                                exact absurd H (by simp)
                              · rw [if_neg c64] at H
                                exact absurd H (by simp)

end Go.Proofs.Ytjnhmdmcmmffeaa.PAll
