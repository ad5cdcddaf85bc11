-- Laid by the kit's print.py, called for several functions at once (our call).
import Derived.Test.YtjnhmdmcmmffeaaPAllx0
namespace Go.Proofs.Ytjnhmdmcmmffeaa.PAll
open Go.RowKit Go.Proofs.YtjnhmdmcmmffeaaW.PrintWords Go.Proofs.YtjnhmdmcmmffeaaW.PrintLast Go.Proofs.YtjnhmdmcmmffeaaW.PrintMore
attribute [local go_sem] max2_int min2_int max_two min_two max_three min_three max_four min_four   -- for this text's walks alone
set_option linter.unusedVariables false
set_option linter.unusedSimpArgs false

/-! ### winnowref12_Answer: function 31 -/
def winnowref12_Answer.j0 : Nat → Bool → Bool → Int → Int → Int → Int → Int → Int → Int → Int → Int → Int → Int → Int → Bool → Option (Int × Int × Int × Int × Int × Int × Int × Bool × (List (S88)) × (List (S80)) × List Int)
  | 0, _, _, _, _, _, _, _, _, _, _, _, _, _, _, _ => none
  | k + 1, x3, x4, x330000, x330001, x330002, x330003, x330004, x333000, x333001, x333002, x333003, x333004, x333005, x333006, x333007 => if x3 = true then (if x4 = true then (some (x333000, x333001, x333002, x333003, x333004, x333005, x333006, x333007, ([] : List (S88)), ([] : List (S80)), ([] : List Int))) else (some (x333000, x333001, x333002, x333003, x330002, x330003, x330004, x333007, ([] : List (S88)), ([] : List (S80)), ([] : List Int)))) else (some (x333000, x333001, x333002, x333003, x330000, x330001, x333006, x333007, ([] : List (S88)), ([] : List (S80)), ([] : List Int)))
def winnowref12_Answer.f (k : Nat) (a0_0 : Int) (a0_1 : Int) (a0_2 : Int) (a0_3 : Int) (a0_4 : Int) (a1 : Int) (a2_0 : Int) (a2_1 : Int) (a3 : Bool) (a4 : Bool) : Option (Int × Int × Int × Int × Int × Int × Int × Bool × (List (S88)) × (List (S80)) × List Int) := if a4 = true then (winnowref12_Answer.j0 k a3 a4 a0_0 a0_1 a0_2 a0_3 a0_4 7 a1 a2_0 a2_1 0 0 0 a3) else (winnowref12_Answer.j0 k a3 a4 a0_0 a0_1 a0_2 a0_3 a0_4 5 a1 a2_0 a2_1 0 0 0 a3)
theorem winnowref12_Answer.mono_l : ∀ k, (∀ y0 y1 y2 y3 y4 y5 y6 y7 y8 y9 y10 y11 y12 y13 y14, LeO (winnowref12_Answer.j0 k y0 y1 y2 y3 y4 y5 y6 y7 y8 y9 y10 y11 y12 y13 y14) (winnowref12_Answer.j0 (k + 1) y0 y1 y2 y3 y4 y5 y6 y7 y8 y9 y10 y11 y12 y13 y14))
  | 0 => fun _ _ _ _ _ _ _ _ _ _ _ _ _ _ _ r h => by simp [winnowref12_Answer.j0] at h
  | k + 1 => by
    have ih0 := winnowref12_Answer.mono_l k
    · intro y0 y1 y2 y3 y4 y5 y6 y7 y8 y9 y10 y11 y12 y13 y14
      unfold winnowref12_Answer.j0
      repeat' first
      | (with_reducible exact ih0 _ _ _ _ _ _ _ _ _ _ _ _ _ _ _)
      | (with_reducible exact LeO.refl _)
      | (with_reducible exact LeO.none _)
      | (with_reducible refine LeO.ite ?_ ?_)
      | (with_reducible refine LeO.bind ?_ (fun _ => ?_))
      | exact ih0 _ _ _ _ _ _ _ _ _ _ _ _ _ _ _
      | exact LeO.none _
      | refine LeO.ite ?_ ?_
      | refine LeO.bind ?_ (fun _ => ?_)
theorem winnowref12_Answer.mono : ∀ a0 a1 a2 a3 a4 a5 a6 a7 a8 a9 k, LeO (winnowref12_Answer.f k a0 a1 a2 a3 a4 a5 a6 a7 a8 a9) (winnowref12_Answer.f (k + 1) a0 a1 a2 a3 a4 a5 a6 a7 a8 a9) := by
  intro a0 a1 a2 a3 a4 a5 a6 a7 a8 a9 k
  have ih0 := winnowref12_Answer.mono_l k
  unfold winnowref12_Answer.f
  repeat' first
      | (with_reducible exact ih0 _ _ _ _ _ _ _ _ _ _ _ _ _ _ _)
      | (with_reducible exact LeO.refl _)
      | (with_reducible exact LeO.none _)
      | (with_reducible refine LeO.ite ?_ ?_)
      | (with_reducible refine LeO.bind ?_ (fun _ => ?_))
      | exact ih0 _ _ _ _ _ _ _ _ _ _ _ _ _ _ _
      | exact LeO.none _
      | refine LeO.ite ?_ ?_
      | refine LeO.bind ?_ (fun _ => ?_)
set_option maxHeartbeats 8000000 in
set_option maxRecDepth 100000 in
theorem winnowref12_Answer.calls (k : Nat) (a0_0 : Int) (a0_1 : Int) (a0_2 : Int) (a0_3 : Int) (a0_4 : Int) (a1 : Int) (a2_0 : Int) (a2_1 : Int) (a3 : Bool) (a4 : Bool) (r1 : Int) (r2 : Int) (r3 : Int) (r4 : Int) (r5 : Int) (r6 : Int) (r7 : Int) (r8 : Bool) (r9 : List (S88)) (r10 : List (S80)) (r11 : List Int) (w : World) (h : winnowref12_Answer.f k a0_0 a0_1 a0_2 a0_3 a0_4 a1 a2_0 a2_1 a3 a4 = some (r1, r2, r3, r4, r5, r6, r7, r8, r9, r10, r11)) :
    Calls Try.prog 31 #[.agg #[.int .u64 a0_0, .int .u64 a0_1, .int .u64 a0_2, .int .u64 a0_3, .int .i64 a0_4], .int .u64 a1, .agg #[.int .u64 a2_0, .int .u64 a2_1], .bool a3, .bool a4] w fun e w' => ∃ v8_ v9_ v10_ : Value, e = .returned (.agg #[.int .i64 r1, .int .u64 r2, .int .u64 r3, .int .u64 r4, .int .u64 r5, .int .u64 r6, .int .i64 r7, .bool r8, v8_, v9_, v10_]) ∧ Kd.R k88 88 w' w.heap.size (fun _ => True) v8_ r9 ∧ Kd.R k80 80 w' w.heap.size (fun _ => True) v9_ r10 ∧ Kd.R (Kd.int .u64) 22 w' w.heap.size (fun _ => True) v10_ r11 ∧ Below w.heap.size w w' := by
  have hu40 := Try.underlying40
  have hu24 := Try.underlying24
  have hu58 := Try.underlying58
  have HB := Aside0.mk (Below.refl w.heap.size w)
  have H : (if a4 = true then (winnowref12_Answer.j0 k a3 a4 a0_0 a0_1 a0_2 a0_3 a0_4 7 a1 a2_0 a2_1 0 0 0 a3) else (winnowref12_Answer.j0 k a3 a4 a0_0 a0_1 a0_2 a0_3 a0_4 5 a1 a2_0 a2_1 0 0 0 a3)) = some (r1, r2, r3, r4, r5, r6, r7, r8, r9, r10, r11) := h
  clear h
  have HC6 := Aside0.mk H
  clear H
  go_enter Try.func31, Try.ntmps31
  go_upto_if 16 with (first | ((with_reducible refine gate_dst (N := 5) rfl ?_); refine box_event ?hg (N := 5) ?hd (cs := #[.int .u64 a0_0, .int .u64 a0_1, .int .u64 a0_2, .int .u64 a0_3, .int .i64 a0_4]) (t := 40) ?hr ?_; (case hd => rfl); (case hg => rfl); (case hr => first | (go_simp; done) | (go_simp; rfl)); intro gb329 hg w7 hbox hb; have n0_ := Aside0.mk (below_step (by repeat (first | (with_reducible first | exact HB.out | apply below_alloc | apply pw_below_drewN | apply below_drew1) | exact HB.out)) hb); have n1_ := Aside0.mk (hbox); have n2_ := Aside0.mk ((by rw [hg]; exact (below_size (by repeat (first | (with_reducible first | exact HB.out | apply below_alloc | apply pw_below_drewN | apply below_drew1) | exact HB.out))) : w.heap.size ≤ gb329)); have n3_ := n2_; clear HB; have HB := n0_; have BK329 := n1_; have GW329 := n2_; have GE329 := n3_; clear n0_ n1_ n2_ n3_; clear hb hbox hg) | ((with_reducible refine gate_dst (N := 7) rfl ?_); refine box_event ?hg (N := 7) ?hd (cs := #[.int .u64 a2_0, .int .u64 a2_1]) (t := 24) ?hr ?_; (case hd => rfl); (case hg => rfl); (case hr => first | (go_simp; done) | (go_simp; rfl)); intro gb330 hg w8 hbox hb; have n0_ := Aside0.mk (blk_below (g := gb329) (o := .cells #[.int .u64 a0_0, .int .u64 a0_1, .int .u64 a0_2, .int .u64 a0_3, .int .i64 a0_4] 40 (0, 0)) (by exact BK329.out) hb); have n1_ := Aside0.mk (below_step (by repeat (first | (with_reducible first | exact HB.out | apply below_alloc | apply pw_below_drewN | apply below_drew1 | refine below_set ?_ GE329.out) | exact HB.out)) hb); have n2_ := Aside0.mk (hbox); have n3_ := Aside0.mk ((by rw [hg]; exact (below_size (by repeat (first | (with_reducible first | exact HB.out | apply below_alloc | apply pw_below_drewN | apply below_drew1 | refine below_set ?_ GE329.out) | exact HB.out))) : w.heap.size ≤ gb330)); have n4_ := n3_; have n5_ := Aside0.mk ((by rw [hg]; exact Nat.ne_of_lt (blk_lt (g := gb329) (o := .cells #[.int .u64 a0_0, .int .u64 a0_1, .int .u64 a0_2, .int .u64 a0_3, .int .i64 a0_4] 40 (0, 0)) (by exact BK329.out)) : gb329 ≠ gb330)); have n6_ := Aside0.mk ((by rw [hg]; exact Nat.ne_of_gt (blk_lt (g := gb329) (o := .cells #[.int .u64 a0_0, .int .u64 a0_1, .int .u64 a0_2, .int .u64 a0_3, .int .i64 a0_4] 40 (0, 0)) (by exact BK329.out)) : gb330 ≠ gb329)); clear BK329; clear HB; have BK329 := n0_; have HB := n1_; have BK330 := n2_; have GW330 := n3_; have GE330 := n4_; have NB329_330 := n5_; have NB330_329 := n6_; clear n0_ n1_ n2_ n3_ n4_ n5_ n6_; clear hb hbox hg) | ((with_reducible refine gate_dst (N := 10) rfl ?_); refine box_event ?hg (N := 10) ?hd (cs := #[.int .i64 0, .int .u64 0, .int .u64 0, .int .u64 0, .int .u64 0, .int .u64 0, .int .i64 0, .bool false, .slice none 0 0, .slice none 0 0, .slice none 0 0]) (t := 58) ?hr ?_; (case hd => rfl); (case hg => rfl); (case hr => first | (go_simp; done) | (go_simp; rfl)); intro gb331 hg w9 hbox hb; have n0_ := Aside0.mk (blk_below (g := gb329) (o := .cells #[.int .u64 a0_0, .int .u64 a0_1, .int .u64 a0_2, .int .u64 a0_3, .int .i64 a0_4] 40 (0, 0)) (by exact BK329.out) hb); have n1_ := Aside0.mk (blk_below (g := gb330) (o := .cells #[.int .u64 a2_0, .int .u64 a2_1] 24 (0, 0)) (by exact BK330.out) hb); have n2_ := Aside0.mk (below_step (by repeat (first | (with_reducible first | exact HB.out | apply below_alloc | apply pw_below_drewN | apply below_drew1 | refine below_set ?_ GE329.out | refine below_set ?_ GE330.out) | exact HB.out)) hb); have n3_ := Aside0.mk (hbox); have n4_ := Aside0.mk ((by rw [hg]; exact (below_size (by repeat (first | (with_reducible first | exact HB.out | apply below_alloc | apply pw_below_drewN | apply below_drew1 | refine below_set ?_ GE329.out | refine below_set ?_ GE330.out) | exact HB.out))) : w.heap.size ≤ gb331)); have n5_ := n4_; have n6_ := Aside0.mk ((by rw [hg]; exact Nat.ne_of_lt (blk_lt (g := gb329) (o := .cells #[.int .u64 a0_0, .int .u64 a0_1, .int .u64 a0_2, .int .u64 a0_3, .int .i64 a0_4] 40 (0, 0)) (by exact BK329.out)) : gb329 ≠ gb331)); have n7_ := Aside0.mk ((by rw [hg]; exact Nat.ne_of_gt (blk_lt (g := gb329) (o := .cells #[.int .u64 a0_0, .int .u64 a0_1, .int .u64 a0_2, .int .u64 a0_3, .int .i64 a0_4] 40 (0, 0)) (by exact BK329.out)) : gb331 ≠ gb329)); have n8_ := Aside0.mk ((by rw [hg]; exact Nat.ne_of_lt (blk_lt (g := gb330) (o := .cells #[.int .u64 a2_0, .int .u64 a2_1] 24 (0, 0)) (by exact BK330.out)) : gb330 ≠ gb331)); have n9_ := Aside0.mk ((by rw [hg]; exact Nat.ne_of_gt (blk_lt (g := gb330) (o := .cells #[.int .u64 a2_0, .int .u64 a2_1] 24 (0, 0)) (by exact BK330.out)) : gb331 ≠ gb330)); clear BK329; clear BK330; clear HB; have BK329 := n0_; have BK330 := n1_; have HB := n2_; have BK331 := n3_; have GW331 := n4_; have GE331 := n5_; have NB329_331 := n6_; have NB331_329 := n7_; have NB330_331 := n8_; have NB331_330 := n9_; clear n0_ n1_ n2_ n3_ n4_ n5_ n6_ n7_ n8_ n9_; clear hb hbox hg; have hnb10 := NB330_329.out; have hnc10 := NB329_330.out; have hnb11 := NB330_331.out; have hnc11 := NB331_330.out; have hcz12_0 : w9.cell? ⟨gb330, 0, none⟩ = some (.int .u64 a2_0) := (blk_cell BK330.out 0).trans rfl; have hcz12_1 : w9.cell? ⟨gb330, 1, none⟩ = some (.int .u64 a2_1) := (blk_cell BK330.out 1).trans rfl; have hfz12_0 := blk_frozen BK330.out 0; have hfz12_1 := blk_frozen BK330.out 1) | ((with_reducible refine gate_dst (N := 11) rfl ?_); refine box_event ?hg (N := 11) ?hd (cs := #[.int .i64 0, .int .u64 0, .int .u64 0, .int .u64 0, .int .u64 0, .int .u64 0, .int .i64 0, .bool false, .slice none 0 0, .slice none 0 0, .slice none 0 0]) (t := 58) ?hr ?_; (case hd => rfl); (case hg => rfl); (case hr => first | (go_simp; done) | (go_simp; rfl)); intro gb332 hg w13 hbox hb; have n0_ := Aside0.mk (blk_below (g := gb329) (o := .cells #[.int .u64 a0_0, .int .u64 a0_1, .int .u64 a0_2, .int .u64 a0_3, .int .i64 a0_4] 40 (0, 0)) (by exact BK329.out) hb); have n1_ := Aside0.mk (blk_below (g := gb330) (o := .cells #[.int .u64 a2_0, .int .u64 a2_1] 24 (0, 0)) (by exact BK330.out) hb); have n2_ := Aside0.mk (blk_below (g := gb331) (o := .cells #[.int .i64 0, .int .u64 0, .int .u64 0, .int .u64 0, .int .u64 0, .int .u64 0, .int .i64 0, .bool false, .slice none 0 0, .slice none 0 0, .slice none 0 0] 58 (0, 0)) (by exact BK331.out) hb); have n3_ := Aside0.mk (below_step (by repeat (first | (with_reducible first | exact HB.out | apply below_alloc | apply pw_below_drewN | apply below_drew1 | refine below_set ?_ GE329.out | refine below_set ?_ GE330.out | refine below_set ?_ GE331.out) | exact HB.out)) hb); have n4_ := Aside0.mk (hbox); have n5_ := Aside0.mk ((by rw [hg]; exact (below_size (by repeat (first | (with_reducible first | exact HB.out | apply below_alloc | apply pw_below_drewN | apply below_drew1 | refine below_set ?_ GE329.out | refine below_set ?_ GE330.out | refine below_set ?_ GE331.out) | exact HB.out))) : w.heap.size ≤ gb332)); have n6_ := n5_; have n7_ := Aside0.mk ((by rw [hg]; exact Nat.ne_of_lt (blk_lt (g := gb329) (o := .cells #[.int .u64 a0_0, .int .u64 a0_1, .int .u64 a0_2, .int .u64 a0_3, .int .i64 a0_4] 40 (0, 0)) (by exact BK329.out)) : gb329 ≠ gb332)); have n8_ := Aside0.mk ((by rw [hg]; exact Nat.ne_of_gt (blk_lt (g := gb329) (o := .cells #[.int .u64 a0_0, .int .u64 a0_1, .int .u64 a0_2, .int .u64 a0_3, .int .i64 a0_4] 40 (0, 0)) (by exact BK329.out)) : gb332 ≠ gb329)); have n9_ := Aside0.mk ((by rw [hg]; exact Nat.ne_of_lt (blk_lt (g := gb330) (o := .cells #[.int .u64 a2_0, .int .u64 a2_1] 24 (0, 0)) (by exact BK330.out)) : gb330 ≠ gb332)); have n10_ := Aside0.mk ((by rw [hg]; exact Nat.ne_of_gt (blk_lt (g := gb330) (o := .cells #[.int .u64 a2_0, .int .u64 a2_1] 24 (0, 0)) (by exact BK330.out)) : gb332 ≠ gb330)); have n11_ := Aside0.mk ((by rw [hg]; exact Nat.ne_of_lt (blk_lt (g := gb331) (o := .cells #[.int .i64 0, .int .u64 0, .int .u64 0, .int .u64 0, .int .u64 0, .int .u64 0, .int .i64 0, .bool false, .slice none 0 0, .slice none 0 0, .slice none 0 0] 58 (0, 0)) (by exact BK331.out)) : gb331 ≠ gb332)); have n12_ := Aside0.mk ((by rw [hg]; exact Nat.ne_of_gt (blk_lt (g := gb331) (o := .cells #[.int .i64 0, .int .u64 0, .int .u64 0, .int .u64 0, .int .u64 0, .int .u64 0, .int .i64 0, .bool false, .slice none 0 0, .slice none 0 0, .slice none 0 0] 58 (0, 0)) (by exact BK331.out)) : gb332 ≠ gb331)); clear BK329; clear BK330; clear BK331; clear HB; have BK329 := n0_; have BK330 := n1_; have BK331 := n2_; have HB := n3_; have BK332 := n4_; have GW332 := n5_; have GE332 := n6_; have NB329_332 := n7_; have NB332_329 := n8_; have NB330_332 := n9_; have NB332_330 := n10_; have NB331_332 := n11_; have NB332_331 := n12_; clear n0_ n1_ n2_ n3_ n4_ n5_ n6_ n7_ n8_ n9_ n10_ n11_ n12_; clear hb hbox hg; have hnb14 := NB332_329.out; have hnc14 := NB329_332.out; have hnb15 := NB332_330.out; have hnc15 := NB330_332.out; have hnb16 := NB332_331.out; have hnc16 := NB331_332.out; have hcz17_0 : w13.cell? ⟨gb332, 0, none⟩ = some (.int .i64 0) := (blk_cell BK332.out 0).trans rfl; have hcz17_1 : w13.cell? ⟨gb332, 1, none⟩ = some (.int .u64 0) := (blk_cell BK332.out 1).trans rfl; have hcz17_2 : w13.cell? ⟨gb332, 2, none⟩ = some (.int .u64 0) := (blk_cell BK332.out 2).trans rfl; have hcz17_3 : w13.cell? ⟨gb332, 3, none⟩ = some (.int .u64 0) := (blk_cell BK332.out 3).trans rfl; have hcz17_4 : w13.cell? ⟨gb332, 4, none⟩ = some (.int .u64 0) := (blk_cell BK332.out 4).trans rfl; have hcz17_5 : w13.cell? ⟨gb332, 5, none⟩ = some (.int .u64 0) := (blk_cell BK332.out 5).trans rfl; have hcz17_6 : w13.cell? ⟨gb332, 6, none⟩ = some (.int .i64 0) := (blk_cell BK332.out 6).trans rfl; have hcz17_7 : w13.cell? ⟨gb332, 7, none⟩ = some (.bool false) := (blk_cell BK332.out 7).trans rfl; have hcz17_8 : w13.cell? ⟨gb332, 8, none⟩ = some (.slice none 0 0) := (blk_cell BK332.out 8).trans rfl; have hcz17_9 : w13.cell? ⟨gb332, 9, none⟩ = some (.slice none 0 0) := (blk_cell BK332.out 9).trans rfl; have hcz17_10 : w13.cell? ⟨gb332, 10, none⟩ = some (.slice none 0 0) := (blk_cell BK332.out 10).trans rfl; have hfz17_0 := blk_frozen BK332.out 0; have hfz17_1 := blk_frozen BK332.out 1; have hfz17_2 := blk_frozen BK332.out 2; have hfz17_3 := blk_frozen BK332.out 3; have hfz17_4 := blk_frozen BK332.out 4; have hfz17_5 := blk_frozen BK332.out 5; have hfz17_6 := blk_frozen BK332.out 6; have hfz17_7 := blk_frozen BK332.out 7; have hfz17_8 := blk_frozen BK332.out 8; have hfz17_9 := blk_frozen BK332.out 9; have hfz17_10 := blk_frozen BK332.out 10))
  (try simp only [Act.put, List.setIfInBounds_toArray, List.set_cons_zero, List.set_cons_succ])
  go_cut [] (fun wc => ∃ (kq : Nat) (x333000_5 : Int), Aside0 (winnowref12_Answer.j0 kq a3 a4 a0_0 a0_1 a0_2 a0_3 a0_4 x333000_5 a1 a2_0 a2_1 0 0 0 a3 = some (r1, r2, r3, r4, r5, r6, r7, r8, r9, r10, r11)) ∧ Aside0 (kq ≤ k) ∧ Aside0 (wc.heap[gb329]? = some (.cells #[.int .u64 a0_0, .int .u64 a0_1, .int .u64 a0_2, .int .u64 a0_3, .int .i64 a0_4] 40 (0, 0))) ∧ Aside0 (wc.heap[gb330]? = some (.cells #[.int .u64 a2_0, .int .u64 a2_1] 24 (0, 0))) ∧ Aside0 (wc.heap[gb331]? = some (.cells #[.int .i64 0, .int .u64 0, .int .u64 0, .int .u64 0, .int .u64 0, .int .u64 0, .int .i64 0, .bool false, (.slice none 0 0), (.slice none 0 0), (.slice none 0 0)] 58 (0, 0))) ∧ Aside0 (wc.heap[gb332]? = some (.cells #[.int .i64 x333000_5, .int .u64 a1, .int .u64 a2_0, .int .u64 a2_1, .int .u64 0, .int .u64 0, .int .i64 0, .bool a3, (.slice none 0 0), (.slice none 0 0), (.slice none 0 0)] 58 (0, 0))) ∧ Aside0 (Below w.heap.size w wc))
  case first =>
    have H := HC6.out
    clear HC6
    by_cases c18 : a4 = true
    · subst c18
      have H1 : (winnowref12_Answer.j0 k a3 true a0_0 a0_1 a0_2 a0_3 a0_4 7 a1 a2_0 a2_1 0 0 0 a3) = some (r1, r2, r3, r4, r5, r6, r7, r8, r9, r10, r11) := by rw [if_pos rfl] at H; exact H
      clear H
      have H := H1
      clear H1
      have H' := Aside0.mk H
      clear H
      have hnb19 := NB332_329.out
      have hnc19 := NB329_332.out
      have hnb20 := NB332_330.out
      have hnc20 := NB330_332.out
      have hnb21 := NB332_331.out
      have hnc21 := NB331_332.out
      have hcz22_0 : w13.cell? ⟨gb332, 0, none⟩ = some (.int .i64 0) := (blk_cell BK332.out 0).trans rfl
      have hcz22_1 : w13.cell? ⟨gb332, 1, none⟩ = some (.int .u64 0) := (blk_cell BK332.out 1).trans rfl
      have hcz22_2 : w13.cell? ⟨gb332, 2, none⟩ = some (.int .u64 0) := (blk_cell BK332.out 2).trans rfl
      have hcz22_3 : w13.cell? ⟨gb332, 3, none⟩ = some (.int .u64 0) := (blk_cell BK332.out 3).trans rfl
      have hcz22_4 : w13.cell? ⟨gb332, 4, none⟩ = some (.int .u64 0) := (blk_cell BK332.out 4).trans rfl
      have hcz22_5 : w13.cell? ⟨gb332, 5, none⟩ = some (.int .u64 0) := (blk_cell BK332.out 5).trans rfl
      have hcz22_6 : w13.cell? ⟨gb332, 6, none⟩ = some (.int .i64 0) := (blk_cell BK332.out 6).trans rfl
      have hcz22_7 : w13.cell? ⟨gb332, 7, none⟩ = some (.bool false) := (blk_cell BK332.out 7).trans rfl
      have hcz22_8 : w13.cell? ⟨gb332, 8, none⟩ = some (.slice none 0 0) := (blk_cell BK332.out 8).trans rfl
      have hcz22_9 : w13.cell? ⟨gb332, 9, none⟩ = some (.slice none 0 0) := (blk_cell BK332.out 9).trans rfl
      have hcz22_10 : w13.cell? ⟨gb332, 10, none⟩ = some (.slice none 0 0) := (blk_cell BK332.out 10).trans rfl
      have hfz22_0 := blk_frozen BK332.out 0
      have hfz22_1 := blk_frozen BK332.out 1
      have hfz22_2 := blk_frozen BK332.out 2
      have hfz22_3 := blk_frozen BK332.out 3
      have hfz22_4 := blk_frozen BK332.out 4
      have hfz22_5 := blk_frozen BK332.out 5
      have hfz22_6 := blk_frozen BK332.out 6
      have hfz22_7 := blk_frozen BK332.out 7
      have hfz22_8 := blk_frozen BK332.out 8
      have hfz22_9 := blk_frozen BK332.out 9
      have hfz22_10 := blk_frozen BK332.out 10
      go_wp2
      go_meet
      case rel => exact ⟨_, (7), H', ⟨by first | omega | exact Nat.le_refl _⟩, ⟨by refine blk_far ?_ NB329_332.out _; refine blk_far ?_ NB329_332.out _; refine blk_far ?_ NB329_332.out _; refine blk_far ?_ NB329_332.out _; refine blk_far ?_ NB329_332.out _; refine blk_far ?_ NB329_332.out _; refine blk_far ?_ NB329_332.out _; refine blk_far ?_ NB329_332.out _; refine blk_far ?_ NB329_332.out _; refine blk_far ?_ NB329_332.out _; refine blk_far ?_ NB329_332.out _; refine blk_far ?_ NB329_332.out _; exact BK329.out⟩, ⟨by refine blk_far ?_ NB330_332.out _; refine blk_far ?_ NB330_332.out _; refine blk_far ?_ NB330_332.out _; refine blk_far ?_ NB330_332.out _; refine blk_far ?_ NB330_332.out _; refine blk_far ?_ NB330_332.out _; refine blk_far ?_ NB330_332.out _; refine blk_far ?_ NB330_332.out _; refine blk_far ?_ NB330_332.out _; refine blk_far ?_ NB330_332.out _; refine blk_far ?_ NB330_332.out _; refine blk_far ?_ NB330_332.out _; exact BK330.out⟩, ⟨by refine blk_far ?_ NB331_332.out _; refine blk_far ?_ NB331_332.out _; refine blk_far ?_ NB331_332.out _; refine blk_far ?_ NB331_332.out _; refine blk_far ?_ NB331_332.out _; refine blk_far ?_ NB331_332.out _; refine blk_far ?_ NB331_332.out _; refine blk_far ?_ NB331_332.out _; refine blk_far ?_ NB331_332.out _; refine blk_far ?_ NB331_332.out _; refine blk_far ?_ NB331_332.out _; refine blk_far ?_ NB331_332.out _; exact BK331.out⟩, ⟨by refine blk_put (cs := #[.int .i64 5, .int .u64 a1, .int .u64 a2_0, .int .u64 a2_1, .int .u64 0, .int .u64 0, .int .i64 0, .bool a3, .slice none 0 0, .slice none 0 0, .slice none 0 0]) ?_ 0 _ rfl; refine blk_put (cs := #[.int .i64 5, .int .u64 a1, .int .u64 a2_0, .int .u64 a2_1, .int .u64 0, .int .u64 0, .int .i64 0, .bool a3, .slice none 0 0, .slice none 0 0, .slice none 0 0]) ?_ 10 _ rfl; refine blk_put (cs := #[.int .i64 5, .int .u64 a1, .int .u64 a2_0, .int .u64 a2_1, .int .u64 0, .int .u64 0, .int .i64 0, .bool a3, .slice none 0 0, .slice none 0 0, .slice none 0 0]) ?_ 9 _ rfl; refine blk_put (cs := #[.int .i64 5, .int .u64 a1, .int .u64 a2_0, .int .u64 a2_1, .int .u64 0, .int .u64 0, .int .i64 0, .bool a3, .slice none 0 0, .slice none 0 0, .slice none 0 0]) ?_ 8 _ rfl; refine blk_put (cs := #[.int .i64 5, .int .u64 a1, .int .u64 a2_0, .int .u64 a2_1, .int .u64 0, .int .u64 0, .int .i64 0, .bool false, .slice none 0 0, .slice none 0 0, .slice none 0 0]) ?_ 7 _ rfl; refine blk_put (cs := #[.int .i64 5, .int .u64 a1, .int .u64 a2_0, .int .u64 a2_1, .int .u64 0, .int .u64 0, .int .i64 0, .bool false, .slice none 0 0, .slice none 0 0, .slice none 0 0]) ?_ 6 _ rfl; refine blk_put (cs := #[.int .i64 5, .int .u64 a1, .int .u64 a2_0, .int .u64 a2_1, .int .u64 0, .int .u64 0, .int .i64 0, .bool false, .slice none 0 0, .slice none 0 0, .slice none 0 0]) ?_ 5 _ rfl; refine blk_put (cs := #[.int .i64 5, .int .u64 a1, .int .u64 a2_0, .int .u64 a2_1, .int .u64 0, .int .u64 0, .int .i64 0, .bool false, .slice none 0 0, .slice none 0 0, .slice none 0 0]) ?_ 4 _ rfl; refine blk_put (cs := #[.int .i64 5, .int .u64 a1, .int .u64 a2_0, .int .u64 0, .int .u64 0, .int .u64 0, .int .i64 0, .bool false, .slice none 0 0, .slice none 0 0, .slice none 0 0]) ?_ 3 _ rfl; refine blk_put (cs := #[.int .i64 5, .int .u64 a1, .int .u64 0, .int .u64 0, .int .u64 0, .int .u64 0, .int .i64 0, .bool false, .slice none 0 0, .slice none 0 0, .slice none 0 0]) ?_ 2 _ rfl; refine blk_put (cs := #[.int .i64 5, .int .u64 0, .int .u64 0, .int .u64 0, .int .u64 0, .int .u64 0, .int .i64 0, .bool false, .slice none 0 0, .slice none 0 0, .slice none 0 0]) ?_ 1 _ rfl; refine blk_put (cs := #[.int .i64 0, .int .u64 0, .int .u64 0, .int .u64 0, .int .u64 0, .int .u64 0, .int .i64 0, .bool false, .slice none 0 0, .slice none 0 0, .slice none 0 0]) ?_ 0 _ rfl; exact BK332.out⟩, ⟨by repeat (first | (with_reducible first | exact HB.out | apply below_alloc | apply pw_below_drewN | apply below_drew1 | refine below_set ?_ GE329.out | refine below_set ?_ GE330.out | refine below_set ?_ GE331.out | refine below_set ?_ GE332.out) | exact HB.out)⟩⟩
    · replace c18 := Bool.eq_false_iff.mpr c18
      subst c18
      have H1 : (winnowref12_Answer.j0 k a3 false a0_0 a0_1 a0_2 a0_3 a0_4 5 a1 a2_0 a2_1 0 0 0 a3) = some (r1, r2, r3, r4, r5, r6, r7, r8, r9, r10, r11) := by rw [if_neg (show ¬ (false = true) by decide)] at H; exact H
      clear H
      have H := H1
      clear H1
      have H' := Aside0.mk H
      clear H
      go_wp2
      go_meet
      case rel => exact ⟨_, (5), H', ⟨by first | omega | exact Nat.le_refl _⟩, ⟨by refine blk_far ?_ NB329_332.out _; refine blk_far ?_ NB329_332.out _; refine blk_far ?_ NB329_332.out _; refine blk_far ?_ NB329_332.out _; refine blk_far ?_ NB329_332.out _; refine blk_far ?_ NB329_332.out _; refine blk_far ?_ NB329_332.out _; refine blk_far ?_ NB329_332.out _; refine blk_far ?_ NB329_332.out _; refine blk_far ?_ NB329_332.out _; refine blk_far ?_ NB329_332.out _; exact BK329.out⟩, ⟨by refine blk_far ?_ NB330_332.out _; refine blk_far ?_ NB330_332.out _; refine blk_far ?_ NB330_332.out _; refine blk_far ?_ NB330_332.out _; refine blk_far ?_ NB330_332.out _; refine blk_far ?_ NB330_332.out _; refine blk_far ?_ NB330_332.out _; refine blk_far ?_ NB330_332.out _; refine blk_far ?_ NB330_332.out _; refine blk_far ?_ NB330_332.out _; refine blk_far ?_ NB330_332.out _; exact BK330.out⟩, ⟨by refine blk_far ?_ NB331_332.out _; refine blk_far ?_ NB331_332.out _; refine blk_far ?_ NB331_332.out _; refine blk_far ?_ NB331_332.out _; refine blk_far ?_ NB331_332.out _; refine blk_far ?_ NB331_332.out _; refine blk_far ?_ NB331_332.out _; refine blk_far ?_ NB331_332.out _; refine blk_far ?_ NB331_332.out _; refine blk_far ?_ NB331_332.out _; refine blk_far ?_ NB331_332.out _; exact BK331.out⟩, ⟨by refine blk_put (cs := #[.int .i64 5, .int .u64 a1, .int .u64 a2_0, .int .u64 a2_1, .int .u64 0, .int .u64 0, .int .i64 0, .bool a3, .slice none 0 0, .slice none 0 0, .slice none 0 0]) ?_ 10 _ rfl; refine blk_put (cs := #[.int .i64 5, .int .u64 a1, .int .u64 a2_0, .int .u64 a2_1, .int .u64 0, .int .u64 0, .int .i64 0, .bool a3, .slice none 0 0, .slice none 0 0, .slice none 0 0]) ?_ 9 _ rfl; refine blk_put (cs := #[.int .i64 5, .int .u64 a1, .int .u64 a2_0, .int .u64 a2_1, .int .u64 0, .int .u64 0, .int .i64 0, .bool a3, .slice none 0 0, .slice none 0 0, .slice none 0 0]) ?_ 8 _ rfl; refine blk_put (cs := #[.int .i64 5, .int .u64 a1, .int .u64 a2_0, .int .u64 a2_1, .int .u64 0, .int .u64 0, .int .i64 0, .bool false, .slice none 0 0, .slice none 0 0, .slice none 0 0]) ?_ 7 _ rfl; refine blk_put (cs := #[.int .i64 5, .int .u64 a1, .int .u64 a2_0, .int .u64 a2_1, .int .u64 0, .int .u64 0, .int .i64 0, .bool false, .slice none 0 0, .slice none 0 0, .slice none 0 0]) ?_ 6 _ rfl; refine blk_put (cs := #[.int .i64 5, .int .u64 a1, .int .u64 a2_0, .int .u64 a2_1, .int .u64 0, .int .u64 0, .int .i64 0, .bool false, .slice none 0 0, .slice none 0 0, .slice none 0 0]) ?_ 5 _ rfl; refine blk_put (cs := #[.int .i64 5, .int .u64 a1, .int .u64 a2_0, .int .u64 a2_1, .int .u64 0, .int .u64 0, .int .i64 0, .bool false, .slice none 0 0, .slice none 0 0, .slice none 0 0]) ?_ 4 _ rfl; refine blk_put (cs := #[.int .i64 5, .int .u64 a1, .int .u64 a2_0, .int .u64 0, .int .u64 0, .int .u64 0, .int .i64 0, .bool false, .slice none 0 0, .slice none 0 0, .slice none 0 0]) ?_ 3 _ rfl; refine blk_put (cs := #[.int .i64 5, .int .u64 a1, .int .u64 0, .int .u64 0, .int .u64 0, .int .u64 0, .int .i64 0, .bool false, .slice none 0 0, .slice none 0 0, .slice none 0 0]) ?_ 2 _ rfl; refine blk_put (cs := #[.int .i64 5, .int .u64 0, .int .u64 0, .int .u64 0, .int .u64 0, .int .u64 0, .int .i64 0, .bool false, .slice none 0 0, .slice none 0 0, .slice none 0 0]) ?_ 1 _ rfl; refine blk_put (cs := #[.int .i64 0, .int .u64 0, .int .u64 0, .int .u64 0, .int .u64 0, .int .u64 0, .int .i64 0, .bool false, .slice none 0 0, .slice none 0 0, .slice none 0 0]) ?_ 0 _ rfl; exact BK332.out⟩, ⟨by repeat (first | (with_reducible first | exact HB.out | apply below_alloc | apply pw_below_drewN | apply below_drew1 | refine below_set ?_ GE329.out | refine below_set ?_ GE330.out | refine below_set ?_ GE331.out | refine below_set ?_ GE332.out) | exact HB.out)⟩⟩
  case rest =>
    clear HC6
    try clear c1
    try clear c2
    try clear p2
    try clear c3
    try clear c10
    try clear c11
    try clear c14
    try clear c15
    try clear c16
    try clear c18
    try clear c19
    try clear c20
    try clear c21
    try clear hcz12_0
    try clear hcz12_1
    try clear hcz17_0
    try clear hcz17_1
    try clear hcz17_10
    try clear hcz17_2
    try clear hcz17_3
    try clear hcz17_4
    try clear hcz17_5
    try clear hcz17_6
    try clear hcz17_7
    try clear hcz17_8
    try clear hcz17_9
    try clear hcz22_0
    try clear hcz22_1
    try clear hcz22_10
    try clear hcz22_2
    try clear hcz22_3
    try clear hcz22_4
    try clear hcz22_5
    try clear hcz22_6
    try clear hcz22_7
    try clear hcz22_8
    try clear hcz22_9
    try clear hfz12_0
    try clear hfz12_1
    try clear hfz17_0
    try clear hfz17_1
    try clear hfz17_10
    try clear hfz17_2
    try clear hfz17_3
    try clear hfz17_4
    try clear hfz17_5
    try clear hfz17_6
    try clear hfz17_7
    try clear hfz17_8
    try clear hfz17_9
    try clear hfz22_0
    try clear hfz22_1
    try clear hfz22_10
    try clear hfz22_2
    try clear hfz22_3
    try clear hfz22_4
    try clear hfz22_5
    try clear hfz22_6
    try clear hfz22_7
    try clear hfz22_8
    try clear hfz22_9
    obtain ⟨kq, x333000_5, HA, HJ5, BK329, BK330, BK331, BK332, HB⟩ := hcut
    cases kq with
    | zero => exact absurd HA.out (by simp [winnowref12_Answer.j0])
    | succ kj5 =>
      have H := HA.out
      clear HA
      simp only [winnowref12_Answer.j0] at H
      by_cases c23 : a3 = true
      · subst c23
        have H1 : (if a4 = true then (some (x333000_5, a1, a2_0, a2_1, 0, 0, 0, true, ([] : List (S88)), ([] : List (S80)), ([] : List Int))) else (some (x333000_5, a1, a2_0, a2_1, a0_2, a0_3, a0_4, true, ([] : List (S88)), ([] : List (S80)), ([] : List Int)))) = some (r1, r2, r3, r4, r5, r6, r7, r8, r9, r10, r11) := by rw [if_pos rfl] at H; exact H
        clear H
        have H := H1
        clear H1
        by_cases c24 : a4 = true
        · subst c24
          have H1 : (some (x333000_5, a1, a2_0, a2_1, 0, 0, 0, true, ([] : List (S88)), ([] : List (S80)), ([] : List Int))) = some (r1, r2, r3, r4, r5, r6, r7, r8, r9, r10, r11) := by rw [if_pos rfl] at H; exact H
          clear H
          have H := H1
          clear H1
          simp only [Option.some.injEq, Prod.mk.injEq] at H
          obtain ⟨rfl, rfl, rfl, rfl, rfl, rfl, rfl, rfl, rfl, rfl, rfl⟩ := H
          have hnb25 := NB332_329.out
          have hnc25 := NB329_332.out
          have hnb26 := NB332_330.out
          have hnc26 := NB330_332.out
          have hnb27 := NB332_331.out
          have hnc27 := NB331_332.out
          have hcz28_0 : wc.cell? ⟨gb332, 0, none⟩ = some (.int .i64 x333000_5) := (blk_cell BK332.out 0).trans rfl
          have hcz28_1 : wc.cell? ⟨gb332, 1, none⟩ = some (.int .u64 a1) := (blk_cell BK332.out 1).trans rfl
          have hcz28_2 : wc.cell? ⟨gb332, 2, none⟩ = some (.int .u64 a2_0) := (blk_cell BK332.out 2).trans rfl
          have hcz28_3 : wc.cell? ⟨gb332, 3, none⟩ = some (.int .u64 a2_1) := (blk_cell BK332.out 3).trans rfl
          have hcz28_4 : wc.cell? ⟨gb332, 4, none⟩ = some (.int .u64 0) := (blk_cell BK332.out 4).trans rfl
          have hcz28_5 : wc.cell? ⟨gb332, 5, none⟩ = some (.int .u64 0) := (blk_cell BK332.out 5).trans rfl
          have hcz28_6 : wc.cell? ⟨gb332, 6, none⟩ = some (.int .i64 0) := (blk_cell BK332.out 6).trans rfl
          have hcz28_7 : wc.cell? ⟨gb332, 7, none⟩ = some (.bool true) := (blk_cell BK332.out 7).trans rfl
          have hcz28_8 : wc.cell? ⟨gb332, 8, none⟩ = some (.slice none 0 0) := (blk_cell BK332.out 8).trans rfl
          have hcz28_9 : wc.cell? ⟨gb332, 9, none⟩ = some (.slice none 0 0) := (blk_cell BK332.out 9).trans rfl
          have hcz28_10 : wc.cell? ⟨gb332, 10, none⟩ = some (.slice none 0 0) := (blk_cell BK332.out 10).trans rfl
          have hfz28_0 := blk_frozen BK332.out 0
          have hfz28_1 := blk_frozen BK332.out 1
          have hfz28_2 := blk_frozen BK332.out 2
          have hfz28_3 := blk_frozen BK332.out 3
          have hfz28_4 := blk_frozen BK332.out 4
          have hfz28_5 := blk_frozen BK332.out 5
          have hfz28_6 := blk_frozen BK332.out 6
          have hfz28_7 := blk_frozen BK332.out 7
          have hfz28_8 := blk_frozen BK332.out 8
          have hfz28_9 := blk_frozen BK332.out 9
          have hfz28_10 := blk_frozen BK332.out 10
          have hnb29 := NB331_329.out
          have hnc29 := NB329_331.out
          have hnb30 := NB331_330.out
          have hnc30 := NB330_331.out
          have hcz31_0 : wc.cell? ⟨gb331, 0, none⟩ = some (.int .i64 0) := (blk_cell BK331.out 0).trans rfl
          have hcz31_1 : wc.cell? ⟨gb331, 1, none⟩ = some (.int .u64 0) := (blk_cell BK331.out 1).trans rfl
          have hcz31_2 : wc.cell? ⟨gb331, 2, none⟩ = some (.int .u64 0) := (blk_cell BK331.out 2).trans rfl
          have hcz31_3 : wc.cell? ⟨gb331, 3, none⟩ = some (.int .u64 0) := (blk_cell BK331.out 3).trans rfl
          have hcz31_4 : wc.cell? ⟨gb331, 4, none⟩ = some (.int .u64 0) := (blk_cell BK331.out 4).trans rfl
          have hcz31_5 : wc.cell? ⟨gb331, 5, none⟩ = some (.int .u64 0) := (blk_cell BK331.out 5).trans rfl
          have hcz31_6 : wc.cell? ⟨gb331, 6, none⟩ = some (.int .i64 0) := (blk_cell BK331.out 6).trans rfl
          have hcz31_7 : wc.cell? ⟨gb331, 7, none⟩ = some (.bool false) := (blk_cell BK331.out 7).trans rfl
          have hcz31_8 : wc.cell? ⟨gb331, 8, none⟩ = some (.slice none 0 0) := (blk_cell BK331.out 8).trans rfl
          have hcz31_9 : wc.cell? ⟨gb331, 9, none⟩ = some (.slice none 0 0) := (blk_cell BK331.out 9).trans rfl
          have hcz31_10 : wc.cell? ⟨gb331, 10, none⟩ = some (.slice none 0 0) := (blk_cell BK331.out 10).trans rfl
          have hfz31_0 := blk_frozen BK331.out 0
          have hfz31_1 := blk_frozen BK331.out 1
          have hfz31_2 := blk_frozen BK331.out 2
          have hfz31_3 := blk_frozen BK331.out 3
          have hfz31_4 := blk_frozen BK331.out 4
          have hfz31_5 := blk_frozen BK331.out 5
          have hfz31_6 := blk_frozen BK331.out 6
          have hfz31_7 := blk_frozen BK331.out 7
          have hfz31_8 := blk_frozen BK331.out 8
          have hfz31_9 := blk_frozen BK331.out 9
          have hfz31_10 := blk_frozen BK331.out 10
          go_wp2
          refine bodyPost_ret (results_cell_row rfl _ _ gb331 58 #[.int .i64 x333000_5, .int .u64 a1, .int .u64 a2_0, .int .u64 a2_1, .int .u64 0, .int .u64 0, .int .i64 0, .bool true, .slice none 0 0, .slice none 0 0, .slice none 0 0] (0, 0) _ rfl (by refine blk_put (cs := #[.int .i64 x333000_5, .int .u64 a1, .int .u64 a2_0, .int .u64 a2_1, .int .u64 0, .int .u64 0, .int .i64 0, .bool true, .slice none 0 0, .slice none 0 0, .slice none 0 0]) ?_ 10 _ rfl; refine blk_put (cs := #[.int .i64 x333000_5, .int .u64 a1, .int .u64 a2_0, .int .u64 a2_1, .int .u64 0, .int .u64 0, .int .i64 0, .bool true, .slice none 0 0, .slice none 0 0, .slice none 0 0]) ?_ 9 _ rfl; refine blk_put (cs := #[.int .i64 x333000_5, .int .u64 a1, .int .u64 a2_0, .int .u64 a2_1, .int .u64 0, .int .u64 0, .int .i64 0, .bool true, .slice none 0 0, .slice none 0 0, .slice none 0 0]) ?_ 8 _ rfl; refine blk_put (cs := #[.int .i64 x333000_5, .int .u64 a1, .int .u64 a2_0, .int .u64 a2_1, .int .u64 0, .int .u64 0, .int .i64 0, .bool false, .slice none 0 0, .slice none 0 0, .slice none 0 0]) ?_ 7 _ rfl; refine blk_put (cs := #[.int .i64 x333000_5, .int .u64 a1, .int .u64 a2_0, .int .u64 a2_1, .int .u64 0, .int .u64 0, .int .i64 0, .bool false, .slice none 0 0, .slice none 0 0, .slice none 0 0]) ?_ 6 _ rfl; refine blk_put (cs := #[.int .i64 x333000_5, .int .u64 a1, .int .u64 a2_0, .int .u64 a2_1, .int .u64 0, .int .u64 0, .int .i64 0, .bool false, .slice none 0 0, .slice none 0 0, .slice none 0 0]) ?_ 5 _ rfl; refine blk_put (cs := #[.int .i64 x333000_5, .int .u64 a1, .int .u64 a2_0, .int .u64 a2_1, .int .u64 0, .int .u64 0, .int .i64 0, .bool false, .slice none 0 0, .slice none 0 0, .slice none 0 0]) ?_ 4 _ rfl; refine blk_put (cs := #[.int .i64 x333000_5, .int .u64 a1, .int .u64 a2_0, .int .u64 0, .int .u64 0, .int .u64 0, .int .i64 0, .bool false, .slice none 0 0, .slice none 0 0, .slice none 0 0]) ?_ 3 _ rfl; refine blk_put (cs := #[.int .i64 x333000_5, .int .u64 a1, .int .u64 0, .int .u64 0, .int .u64 0, .int .u64 0, .int .i64 0, .bool false, .slice none 0 0, .slice none 0 0, .slice none 0 0]) ?_ 2 _ rfl; refine blk_put (cs := #[.int .i64 x333000_5, .int .u64 0, .int .u64 0, .int .u64 0, .int .u64 0, .int .u64 0, .int .i64 0, .bool false, .slice none 0 0, .slice none 0 0, .slice none 0 0]) ?_ 1 _ rfl; refine blk_put (cs := #[.int .i64 0, .int .u64 0, .int .u64 0, .int .u64 0, .int .u64 0, .int .u64 0, .int .i64 0, .bool false, .slice none 0 0, .slice none 0 0, .slice none 0 0]) ?_ 0 _ rfl; exact BK331.out) Try.underlying58 rfl (by kernel_rfl)) rfl ?_
          exact ⟨_, _, _, by first | rfl | (simp [errW_none, errW_some] <;> rfl) | (simp [*, errW_none, errW_some] <;> rfl), by first | exact Kd.R_nil _ _ _ _ _ | exact Kd.N_nil _ _ _ _ _ | exact Kd.V_nil _ _ _ _ _ | exact Kd.Q_nil _ _ _ _ _ | exact Kd.S_nil _ _ _ _ _, by first | exact Kd.R_nil _ _ _ _ _ | exact Kd.N_nil _ _ _ _ _ | exact Kd.V_nil _ _ _ _ _ | exact Kd.Q_nil _ _ _ _ _ | exact Kd.S_nil _ _ _ _ _, by first | exact Kd.R_nil _ _ _ _ _ | exact Kd.N_nil _ _ _ _ _ | exact Kd.V_nil _ _ _ _ _ | exact Kd.Q_nil _ _ _ _ _ | exact Kd.S_nil _ _ _ _ _, by repeat (first | (with_reducible first | exact HB.out | apply below_alloc | apply pw_below_drewN | apply below_drew1 | refine below_set ?_ GE329.out | refine below_set ?_ GE330.out | refine below_set ?_ GE331.out | refine below_set ?_ GE332.out) | exact HB.out)⟩
        · replace c24 := Bool.eq_false_iff.mpr c24
          subst c24
          have H1 : (some (x333000_5, a1, a2_0, a2_1, a0_2, a0_3, a0_4, true, ([] : List (S88)), ([] : List (S80)), ([] : List Int))) = some (r1, r2, r3, r4, r5, r6, r7, r8, r9, r10, r11) := by rw [if_neg (show ¬ (false = true) by decide)] at H; exact H
          clear H
          have H := H1
          clear H1
          simp only [Option.some.injEq, Prod.mk.injEq] at H
          obtain ⟨rfl, rfl, rfl, rfl, rfl, rfl, rfl, rfl, rfl, rfl, rfl⟩ := H
          have hnb32 := NB329_330.out
          have hnc32 := NB330_329.out
          have hnb33 := NB329_331.out
          have hnc33 := NB331_329.out
          have hnb34 := NB329_332.out
          have hnc34 := NB332_329.out
          have hcz35_0 : wc.cell? ⟨gb329, 0, none⟩ = some (.int .u64 a0_0) := (blk_cell BK329.out 0).trans rfl
          have hcz35_1 : wc.cell? ⟨gb329, 1, none⟩ = some (.int .u64 a0_1) := (blk_cell BK329.out 1).trans rfl
          have hcz35_2 : wc.cell? ⟨gb329, 2, none⟩ = some (.int .u64 a0_2) := (blk_cell BK329.out 2).trans rfl
          have hcz35_3 : wc.cell? ⟨gb329, 3, none⟩ = some (.int .u64 a0_3) := (blk_cell BK329.out 3).trans rfl
          have hcz35_4 : wc.cell? ⟨gb329, 4, none⟩ = some (.int .i64 a0_4) := (blk_cell BK329.out 4).trans rfl
          have hfz35_0 := blk_frozen BK329.out 0
          have hfz35_1 := blk_frozen BK329.out 1
          have hfz35_2 := blk_frozen BK329.out 2
          have hfz35_3 := blk_frozen BK329.out 3
          have hfz35_4 := blk_frozen BK329.out 4
          have hnb36 := NB332_330.out
          have hnc36 := NB330_332.out
          have hnb37 := NB332_331.out
          have hnc37 := NB331_332.out
          have hcz38_0 : wc.cell? ⟨gb332, 0, none⟩ = some (.int .i64 x333000_5) := (blk_cell BK332.out 0).trans rfl
          have hcz38_1 : wc.cell? ⟨gb332, 1, none⟩ = some (.int .u64 a1) := (blk_cell BK332.out 1).trans rfl
          have hcz38_2 : wc.cell? ⟨gb332, 2, none⟩ = some (.int .u64 a2_0) := (blk_cell BK332.out 2).trans rfl
          have hcz38_3 : wc.cell? ⟨gb332, 3, none⟩ = some (.int .u64 a2_1) := (blk_cell BK332.out 3).trans rfl
          have hcz38_4 : wc.cell? ⟨gb332, 4, none⟩ = some (.int .u64 0) := (blk_cell BK332.out 4).trans rfl
          have hcz38_5 : wc.cell? ⟨gb332, 5, none⟩ = some (.int .u64 0) := (blk_cell BK332.out 5).trans rfl
          have hcz38_6 : wc.cell? ⟨gb332, 6, none⟩ = some (.int .i64 0) := (blk_cell BK332.out 6).trans rfl
          have hcz38_7 : wc.cell? ⟨gb332, 7, none⟩ = some (.bool true) := (blk_cell BK332.out 7).trans rfl
          have hcz38_8 : wc.cell? ⟨gb332, 8, none⟩ = some (.slice none 0 0) := (blk_cell BK332.out 8).trans rfl
          have hcz38_9 : wc.cell? ⟨gb332, 9, none⟩ = some (.slice none 0 0) := (blk_cell BK332.out 9).trans rfl
          have hcz38_10 : wc.cell? ⟨gb332, 10, none⟩ = some (.slice none 0 0) := (blk_cell BK332.out 10).trans rfl
          have hfz38_0 := blk_frozen BK332.out 0
          have hfz38_1 := blk_frozen BK332.out 1
          have hfz38_2 := blk_frozen BK332.out 2
          have hfz38_3 := blk_frozen BK332.out 3
          have hfz38_4 := blk_frozen BK332.out 4
          have hfz38_5 := blk_frozen BK332.out 5
          have hfz38_6 := blk_frozen BK332.out 6
          have hfz38_7 := blk_frozen BK332.out 7
          have hfz38_8 := blk_frozen BK332.out 8
          have hfz38_9 := blk_frozen BK332.out 9
          have hfz38_10 := blk_frozen BK332.out 10
          have hnb39 := NB331_330.out
          have hnc39 := NB330_331.out
          have hcz40_0 : wc.cell? ⟨gb331, 0, none⟩ = some (.int .i64 0) := (blk_cell BK331.out 0).trans rfl
          have hcz40_1 : wc.cell? ⟨gb331, 1, none⟩ = some (.int .u64 0) := (blk_cell BK331.out 1).trans rfl
          have hcz40_2 : wc.cell? ⟨gb331, 2, none⟩ = some (.int .u64 0) := (blk_cell BK331.out 2).trans rfl
          have hcz40_3 : wc.cell? ⟨gb331, 3, none⟩ = some (.int .u64 0) := (blk_cell BK331.out 3).trans rfl
          have hcz40_4 : wc.cell? ⟨gb331, 4, none⟩ = some (.int .u64 0) := (blk_cell BK331.out 4).trans rfl
          have hcz40_5 : wc.cell? ⟨gb331, 5, none⟩ = some (.int .u64 0) := (blk_cell BK331.out 5).trans rfl
          have hcz40_6 : wc.cell? ⟨gb331, 6, none⟩ = some (.int .i64 0) := (blk_cell BK331.out 6).trans rfl
          have hcz40_7 : wc.cell? ⟨gb331, 7, none⟩ = some (.bool false) := (blk_cell BK331.out 7).trans rfl
          have hcz40_8 : wc.cell? ⟨gb331, 8, none⟩ = some (.slice none 0 0) := (blk_cell BK331.out 8).trans rfl
          have hcz40_9 : wc.cell? ⟨gb331, 9, none⟩ = some (.slice none 0 0) := (blk_cell BK331.out 9).trans rfl
          have hcz40_10 : wc.cell? ⟨gb331, 10, none⟩ = some (.slice none 0 0) := (blk_cell BK331.out 10).trans rfl
          have hfz40_0 := blk_frozen BK331.out 0
          have hfz40_1 := blk_frozen BK331.out 1
          have hfz40_2 := blk_frozen BK331.out 2
          have hfz40_3 := blk_frozen BK331.out 3
          have hfz40_4 := blk_frozen BK331.out 4
          have hfz40_5 := blk_frozen BK331.out 5
          have hfz40_6 := blk_frozen BK331.out 6
          have hfz40_7 := blk_frozen BK331.out 7
          have hfz40_8 := blk_frozen BK331.out 8
          have hfz40_9 := blk_frozen BK331.out 9
          have hfz40_10 := blk_frozen BK331.out 10
          go_wp2
          refine bodyPost_ret (results_cell_row rfl _ _ gb331 58 #[.int .i64 x333000_5, .int .u64 a1, .int .u64 a2_0, .int .u64 a2_1, .int .u64 a0_2, .int .u64 a0_3, .int .i64 a0_4, .bool true, .slice none 0 0, .slice none 0 0, .slice none 0 0] (0, 0) _ rfl (by refine blk_put (cs := #[.int .i64 x333000_5, .int .u64 a1, .int .u64 a2_0, .int .u64 a2_1, .int .u64 a0_2, .int .u64 a0_3, .int .i64 a0_4, .bool true, .slice none 0 0, .slice none 0 0, .slice none 0 0]) ?_ 10 _ rfl; refine blk_put (cs := #[.int .i64 x333000_5, .int .u64 a1, .int .u64 a2_0, .int .u64 a2_1, .int .u64 a0_2, .int .u64 a0_3, .int .i64 a0_4, .bool true, .slice none 0 0, .slice none 0 0, .slice none 0 0]) ?_ 9 _ rfl; refine blk_put (cs := #[.int .i64 x333000_5, .int .u64 a1, .int .u64 a2_0, .int .u64 a2_1, .int .u64 a0_2, .int .u64 a0_3, .int .i64 a0_4, .bool true, .slice none 0 0, .slice none 0 0, .slice none 0 0]) ?_ 8 _ rfl; refine blk_put (cs := #[.int .i64 x333000_5, .int .u64 a1, .int .u64 a2_0, .int .u64 a2_1, .int .u64 a0_2, .int .u64 a0_3, .int .i64 a0_4, .bool false, .slice none 0 0, .slice none 0 0, .slice none 0 0]) ?_ 7 _ rfl; refine blk_put (cs := #[.int .i64 x333000_5, .int .u64 a1, .int .u64 a2_0, .int .u64 a2_1, .int .u64 a0_2, .int .u64 a0_3, .int .i64 0, .bool false, .slice none 0 0, .slice none 0 0, .slice none 0 0]) ?_ 6 _ rfl; refine blk_put (cs := #[.int .i64 x333000_5, .int .u64 a1, .int .u64 a2_0, .int .u64 a2_1, .int .u64 a0_2, .int .u64 0, .int .i64 0, .bool false, .slice none 0 0, .slice none 0 0, .slice none 0 0]) ?_ 5 _ rfl; refine blk_put (cs := #[.int .i64 x333000_5, .int .u64 a1, .int .u64 a2_0, .int .u64 a2_1, .int .u64 0, .int .u64 0, .int .i64 0, .bool false, .slice none 0 0, .slice none 0 0, .slice none 0 0]) ?_ 4 _ rfl; refine blk_put (cs := #[.int .i64 x333000_5, .int .u64 a1, .int .u64 a2_0, .int .u64 0, .int .u64 0, .int .u64 0, .int .i64 0, .bool false, .slice none 0 0, .slice none 0 0, .slice none 0 0]) ?_ 3 _ rfl; refine blk_put (cs := #[.int .i64 x333000_5, .int .u64 a1, .int .u64 0, .int .u64 0, .int .u64 0, .int .u64 0, .int .i64 0, .bool false, .slice none 0 0, .slice none 0 0, .slice none 0 0]) ?_ 2 _ rfl; refine blk_put (cs := #[.int .i64 x333000_5, .int .u64 0, .int .u64 0, .int .u64 0, .int .u64 0, .int .u64 0, .int .i64 0, .bool false, .slice none 0 0, .slice none 0 0, .slice none 0 0]) ?_ 1 _ rfl; refine blk_put (cs := #[.int .i64 0, .int .u64 0, .int .u64 0, .int .u64 0, .int .u64 0, .int .u64 0, .int .i64 0, .bool false, .slice none 0 0, .slice none 0 0, .slice none 0 0]) ?_ 0 _ rfl; refine blk_far ?_ NB331_332.out _; refine blk_far ?_ NB331_332.out _; refine blk_far ?_ NB331_332.out _; exact BK331.out) Try.underlying58 rfl (by kernel_rfl)) rfl ?_
          exact ⟨_, _, _, by first | rfl | (simp [errW_none, errW_some] <;> rfl) | (simp [*, errW_none, errW_some] <;> rfl), by first | exact Kd.R_nil _ _ _ _ _ | exact Kd.N_nil _ _ _ _ _ | exact Kd.V_nil _ _ _ _ _ | exact Kd.Q_nil _ _ _ _ _ | exact Kd.S_nil _ _ _ _ _, by first | exact Kd.R_nil _ _ _ _ _ | exact Kd.N_nil _ _ _ _ _ | exact Kd.V_nil _ _ _ _ _ | exact Kd.Q_nil _ _ _ _ _ | exact Kd.S_nil _ _ _ _ _, by first | exact Kd.R_nil _ _ _ _ _ | exact Kd.N_nil _ _ _ _ _ | exact Kd.V_nil _ _ _ _ _ | exact Kd.Q_nil _ _ _ _ _ | exact Kd.S_nil _ _ _ _ _, by repeat (first | (with_reducible first | exact HB.out | apply below_alloc | apply pw_below_drewN | apply below_drew1 | refine below_set ?_ GE329.out | refine below_set ?_ GE330.out | refine below_set ?_ GE331.out | refine below_set ?_ GE332.out) | exact HB.out)⟩
      · replace c23 := Bool.eq_false_iff.mpr c23
        subst c23
        have H1 : (some (x333000_5, a1, a2_0, a2_1, a0_0, a0_1, 0, false, ([] : List (S88)), ([] : List (S80)), ([] : List Int))) = some (r1, r2, r3, r4, r5, r6, r7, r8, r9, r10, r11) := by rw [if_neg (show ¬ (false = true) by decide)] at H; exact H
        clear H
        have H := H1
        clear H1
        simp only [Option.some.injEq, Prod.mk.injEq] at H
        obtain ⟨rfl, rfl, rfl, rfl, rfl, rfl, rfl, rfl, rfl, rfl, rfl⟩ := H
        have hnb41 := NB329_330.out
        have hnc41 := NB330_329.out
        have hnb42 := NB329_331.out
        have hnc42 := NB331_329.out
        have hnb43 := NB329_332.out
        have hnc43 := NB332_329.out
        have hcz44_0 : wc.cell? ⟨gb329, 0, none⟩ = some (.int .u64 a0_0) := (blk_cell BK329.out 0).trans rfl
        have hcz44_1 : wc.cell? ⟨gb329, 1, none⟩ = some (.int .u64 a0_1) := (blk_cell BK329.out 1).trans rfl
        have hcz44_2 : wc.cell? ⟨gb329, 2, none⟩ = some (.int .u64 a0_2) := (blk_cell BK329.out 2).trans rfl
        have hcz44_3 : wc.cell? ⟨gb329, 3, none⟩ = some (.int .u64 a0_3) := (blk_cell BK329.out 3).trans rfl
        have hcz44_4 : wc.cell? ⟨gb329, 4, none⟩ = some (.int .i64 a0_4) := (blk_cell BK329.out 4).trans rfl
        have hfz44_0 := blk_frozen BK329.out 0
        have hfz44_1 := blk_frozen BK329.out 1
        have hfz44_2 := blk_frozen BK329.out 2
        have hfz44_3 := blk_frozen BK329.out 3
        have hfz44_4 := blk_frozen BK329.out 4
        have hnb45 := NB332_330.out
        have hnc45 := NB330_332.out
        have hnb46 := NB332_331.out
        have hnc46 := NB331_332.out
        have hcz47_0 : wc.cell? ⟨gb332, 0, none⟩ = some (.int .i64 x333000_5) := (blk_cell BK332.out 0).trans rfl
        have hcz47_1 : wc.cell? ⟨gb332, 1, none⟩ = some (.int .u64 a1) := (blk_cell BK332.out 1).trans rfl
        have hcz47_2 : wc.cell? ⟨gb332, 2, none⟩ = some (.int .u64 a2_0) := (blk_cell BK332.out 2).trans rfl
        have hcz47_3 : wc.cell? ⟨gb332, 3, none⟩ = some (.int .u64 a2_1) := (blk_cell BK332.out 3).trans rfl
        have hcz47_4 : wc.cell? ⟨gb332, 4, none⟩ = some (.int .u64 0) := (blk_cell BK332.out 4).trans rfl
        have hcz47_5 : wc.cell? ⟨gb332, 5, none⟩ = some (.int .u64 0) := (blk_cell BK332.out 5).trans rfl
        have hcz47_6 : wc.cell? ⟨gb332, 6, none⟩ = some (.int .i64 0) := (blk_cell BK332.out 6).trans rfl
        have hcz47_7 : wc.cell? ⟨gb332, 7, none⟩ = some (.bool false) := (blk_cell BK332.out 7).trans rfl
        have hcz47_8 : wc.cell? ⟨gb332, 8, none⟩ = some (.slice none 0 0) := (blk_cell BK332.out 8).trans rfl
        have hcz47_9 : wc.cell? ⟨gb332, 9, none⟩ = some (.slice none 0 0) := (blk_cell BK332.out 9).trans rfl
        have hcz47_10 : wc.cell? ⟨gb332, 10, none⟩ = some (.slice none 0 0) := (blk_cell BK332.out 10).trans rfl
        have hfz47_0 := blk_frozen BK332.out 0
        have hfz47_1 := blk_frozen BK332.out 1
        have hfz47_2 := blk_frozen BK332.out 2
        have hfz47_3 := blk_frozen BK332.out 3
        have hfz47_4 := blk_frozen BK332.out 4
        have hfz47_5 := blk_frozen BK332.out 5
        have hfz47_6 := blk_frozen BK332.out 6
        have hfz47_7 := blk_frozen BK332.out 7
        have hfz47_8 := blk_frozen BK332.out 8
        have hfz47_9 := blk_frozen BK332.out 9
        have hfz47_10 := blk_frozen BK332.out 10
        have hnb48 := NB331_330.out
        have hnc48 := NB330_331.out
        have hcz49_0 : wc.cell? ⟨gb331, 0, none⟩ = some (.int .i64 0) := (blk_cell BK331.out 0).trans rfl
        have hcz49_1 : wc.cell? ⟨gb331, 1, none⟩ = some (.int .u64 0) := (blk_cell BK331.out 1).trans rfl
        have hcz49_2 : wc.cell? ⟨gb331, 2, none⟩ = some (.int .u64 0) := (blk_cell BK331.out 2).trans rfl
        have hcz49_3 : wc.cell? ⟨gb331, 3, none⟩ = some (.int .u64 0) := (blk_cell BK331.out 3).trans rfl
        have hcz49_4 : wc.cell? ⟨gb331, 4, none⟩ = some (.int .u64 0) := (blk_cell BK331.out 4).trans rfl
        have hcz49_5 : wc.cell? ⟨gb331, 5, none⟩ = some (.int .u64 0) := (blk_cell BK331.out 5).trans rfl
        have hcz49_6 : wc.cell? ⟨gb331, 6, none⟩ = some (.int .i64 0) := (blk_cell BK331.out 6).trans rfl
        have hcz49_7 : wc.cell? ⟨gb331, 7, none⟩ = some (.bool false) := (blk_cell BK331.out 7).trans rfl
        have hcz49_8 : wc.cell? ⟨gb331, 8, none⟩ = some (.slice none 0 0) := (blk_cell BK331.out 8).trans rfl
        have hcz49_9 : wc.cell? ⟨gb331, 9, none⟩ = some (.slice none 0 0) := (blk_cell BK331.out 9).trans rfl
        have hcz49_10 : wc.cell? ⟨gb331, 10, none⟩ = some (.slice none 0 0) := (blk_cell BK331.out 10).trans rfl
        have hfz49_0 := blk_frozen BK331.out 0
        have hfz49_1 := blk_frozen BK331.out 1
        have hfz49_2 := blk_frozen BK331.out 2
        have hfz49_3 := blk_frozen BK331.out 3
        have hfz49_4 := blk_frozen BK331.out 4
        have hfz49_5 := blk_frozen BK331.out 5
        have hfz49_6 := blk_frozen BK331.out 6
        have hfz49_7 := blk_frozen BK331.out 7
        have hfz49_8 := blk_frozen BK331.out 8
        have hfz49_9 := blk_frozen BK331.out 9
        have hfz49_10 := blk_frozen BK331.out 10
        go_wp2
        refine bodyPost_ret (results_cell_row rfl _ _ gb331 58 #[.int .i64 x333000_5, .int .u64 a1, .int .u64 a2_0, .int .u64 a2_1, .int .u64 a0_0, .int .u64 a0_1, .int .i64 0, .bool false, .slice none 0 0, .slice none 0 0, .slice none 0 0] (0, 0) _ rfl (by refine blk_put (cs := #[.int .i64 x333000_5, .int .u64 a1, .int .u64 a2_0, .int .u64 a2_1, .int .u64 a0_0, .int .u64 a0_1, .int .i64 0, .bool false, .slice none 0 0, .slice none 0 0, .slice none 0 0]) ?_ 10 _ rfl; refine blk_put (cs := #[.int .i64 x333000_5, .int .u64 a1, .int .u64 a2_0, .int .u64 a2_1, .int .u64 a0_0, .int .u64 a0_1, .int .i64 0, .bool false, .slice none 0 0, .slice none 0 0, .slice none 0 0]) ?_ 9 _ rfl; refine blk_put (cs := #[.int .i64 x333000_5, .int .u64 a1, .int .u64 a2_0, .int .u64 a2_1, .int .u64 a0_0, .int .u64 a0_1, .int .i64 0, .bool false, .slice none 0 0, .slice none 0 0, .slice none 0 0]) ?_ 8 _ rfl; refine blk_put (cs := #[.int .i64 x333000_5, .int .u64 a1, .int .u64 a2_0, .int .u64 a2_1, .int .u64 a0_0, .int .u64 a0_1, .int .i64 0, .bool false, .slice none 0 0, .slice none 0 0, .slice none 0 0]) ?_ 7 _ rfl; refine blk_put (cs := #[.int .i64 x333000_5, .int .u64 a1, .int .u64 a2_0, .int .u64 a2_1, .int .u64 a0_0, .int .u64 a0_1, .int .i64 0, .bool false, .slice none 0 0, .slice none 0 0, .slice none 0 0]) ?_ 6 _ rfl; refine blk_put (cs := #[.int .i64 x333000_5, .int .u64 a1, .int .u64 a2_0, .int .u64 a2_1, .int .u64 a0_0, .int .u64 0, .int .i64 0, .bool false, .slice none 0 0, .slice none 0 0, .slice none 0 0]) ?_ 5 _ rfl; refine blk_put (cs := #[.int .i64 x333000_5, .int .u64 a1, .int .u64 a2_0, .int .u64 a2_1, .int .u64 0, .int .u64 0, .int .i64 0, .bool false, .slice none 0 0, .slice none 0 0, .slice none 0 0]) ?_ 4 _ rfl; refine blk_put (cs := #[.int .i64 x333000_5, .int .u64 a1, .int .u64 a2_0, .int .u64 0, .int .u64 0, .int .u64 0, .int .i64 0, .bool false, .slice none 0 0, .slice none 0 0, .slice none 0 0]) ?_ 3 _ rfl; refine blk_put (cs := #[.int .i64 x333000_5, .int .u64 a1, .int .u64 0, .int .u64 0, .int .u64 0, .int .u64 0, .int .i64 0, .bool false, .slice none 0 0, .slice none 0 0, .slice none 0 0]) ?_ 2 _ rfl; refine blk_put (cs := #[.int .i64 x333000_5, .int .u64 0, .int .u64 0, .int .u64 0, .int .u64 0, .int .u64 0, .int .i64 0, .bool false, .slice none 0 0, .slice none 0 0, .slice none 0 0]) ?_ 1 _ rfl; refine blk_put (cs := #[.int .i64 0, .int .u64 0, .int .u64 0, .int .u64 0, .int .u64 0, .int .u64 0, .int .i64 0, .bool false, .slice none 0 0, .slice none 0 0, .slice none 0 0]) ?_ 0 _ rfl; refine blk_far ?_ NB331_332.out _; refine blk_far ?_ NB331_332.out _; exact BK331.out) Try.underlying58 rfl (by kernel_rfl)) rfl ?_
        exact ⟨_, _, _, by first | rfl | (simp [errW_none, errW_some] <;> rfl) | (simp [*, errW_none, errW_some] <;> rfl), by first | exact Kd.R_nil _ _ _ _ _ | exact Kd.N_nil _ _ _ _ _ | exact Kd.V_nil _ _ _ _ _ | exact Kd.Q_nil _ _ _ _ _ | exact Kd.S_nil _ _ _ _ _, by first | exact Kd.R_nil _ _ _ _ _ | exact Kd.N_nil _ _ _ _ _ | exact Kd.V_nil _ _ _ _ _ | exact Kd.Q_nil _ _ _ _ _ | exact Kd.S_nil _ _ _ _ _, by first | exact Kd.R_nil _ _ _ _ _ | exact Kd.N_nil _ _ _ _ _ | exact Kd.V_nil _ _ _ _ _ | exact Kd.Q_nil _ _ _ _ _ | exact Kd.S_nil _ _ _ _ _, by repeat (first | (with_reducible first | exact HB.out | apply below_alloc | apply pw_below_drewN | apply below_drew1 | refine below_set ?_ GE329.out | refine below_set ?_ GE330.out | refine below_set ?_ GE331.out | refine below_set ?_ GE332.out) | exact HB.out)⟩

end Go.Proofs.Ytjnhmdmcmmffeaa.PAll
