import Derived.Test.YtlpnpnjjmpkapaaPAllx0
import Derived.Test.YtlpnpnjjmpkapaaPAllx5
import Derived.Test.YtlpnpnjjmpkapaaPAllx16
import Derived.Test.YtlpnpnjjmpkapaaPAllx17
namespace Go.Proofs.Ytlpnpnjjmpkapaa.PAll
open Go.RowKit Go.Proofs.YtlpnpnjjmpkapaaW.PrintWords Go.Proofs.YtlpnpnjjmpkapaaW.PrintLast Go.Proofs.YtlpnpnjjmpkapaaW.PrintMore
attribute [local go_sem] max2_int min2_int max_two min_two max_three min_three max_four min_four   -- for this text's walks alone
set_option linter.unusedVariables false
set_option linter.unusedSimpArgs false

-- NOT PRINTED: function 85 (message_reader_spans)

-- NOT PRINTED: function 86 (message_reader_ballot)

-- NOT PRINTED: function 87 (message_reader_truth)

-- NOT PRINTED: function 88 (message_reader_verdict)

-- NOT PRINTED: function 46 (message_reader_rest)

-- NOT PRINTED: function 19 (message_Decode)

-- NOT PRINTED: function 25 (message_Trace)

def winnowlaw05_tell.f  : Option (Int × Int × Int × Int × Int × Int × Int × Bool × (List (S76)) × (List (S92)) × List Int) := some (8, 5, 0, 0, 0, 0, 1, false, ([] : List (S76)), ([] : List (S92)), ([] : List Int))
set_option maxHeartbeats 40000000 in
set_option maxRecDepth 100000 in
theorem winnowlaw05_tell.calls  (r1 : Int) (r2 : Int) (r3 : Int) (r4 : Int) (r5 : Int) (r6 : Int) (r7 : Int) (r8 : Bool) (r9 : List (S76)) (r10 : List (S92)) (r11 : List Int) (w : World) (h : winnowlaw05_tell.f  = some (r1, r2, r3, r4, r5, r6, r7, r8, r9, r10, r11)) :
  Calls Try.prog 36 #[] w fun e w' => ∃ v8_ v9_ v10_ : Value, e = .returned (.agg #[.int .i64 r1, .int .u64 r2, .int .u64 r3, .int .u64 r4, .int .u64 r5, .int .u64 r6, .int .i64 r7, .bool r8, v8_, v9_, v10_]) ∧ Kd.R k76 76 w' w.heap.size (fun _ => True) v8_ r9 ∧ Kd.R k92 92 w' w.heap.size (fun _ => True) v9_ r10 ∧ Kd.R (Kd.int .u64) 22 w' w.heap.size (fun _ => True) v10_ r11 ∧ Below w.heap.size w w' := by
 have hu30 := Try.underlying30; have HB := Aside0.mk (Below.refl w.heap.size w); have H : (some (8, 5, 0, 0, 0, 0, 1, false, ([] : List (S76)), ([] : List (S92)), ([] : List Int))) = some (r1, r2, r3, r4, r5, r6, r7, r8, r9, r10, r11) := h; clear h
 simp only [Option.some.injEq, Prod.mk.injEq] at H
 obtain ⟨rfl, rfl, rfl, rfl, rfl, rfl, rfl, rfl, rfl, rfl, rfl⟩ := H
 go_enter Try.func36, Try.ntmps36
 go_wp2_with ((with_reducible refine gate_dst (N := 0) rfl ?_); refine box_event ?hg (N := 0) ?hd (cs := #[.int .i64 0, .int .u64 0, .int .u64 0, .int .u64 0, .int .u64 0, .int .u64 0, .int .i64 0, .bool false, .slice none 0 0, .slice none 0 0, .slice none 0 0]) (t := 30) ?hr ?_; (case hd => rfl); (case hg => rfl); (case hr => (go_simp; done)); intro gb257 hg w1 hbox hb; have n0_ := Aside0.mk (below_step (by repeat (with_reducible (exact HB.out))) hb); have n1_ := Aside0.mk (hbox); have n2_ := Aside0.mk ((by rw [hg]; exact (below_size (by repeat (with_reducible (exact HB.out)))) : w.heap.size ≤ gb257)); have n3_ := n2_; clear HB; have HB := n0_; have BK257 := n1_; have GW257 := n2_; have GE257 := n3_; clear n0_ n1_ n2_ n3_; clear hb hbox hg; obtain ⟨z2_0, z2_1, z2_2, z2_3, z2_4, z2_5, z2_6, z2_7, z2_8, z2_9, z2_10⟩ := Hand.Cz.c11 BK257.out; obtain ⟨y2_0, y2_1, y2_2, y2_3, y2_4, y2_5, y2_6, y2_7, y2_8, y2_9, y2_10⟩ := Hand.Cz.f11 BK257.out)
 refine bodyPost_ret (results_cell_row rfl _ _ gb257 30 #[.int .i64 8, .int .u64 5, .int .u64 0, .int .u64 0, .int .u64 0, .int .u64 0, .int .i64 1, .bool false, .slice none 0 0, .slice none 0 0, .slice none 0 0] (0, 0) _ rfl (by (with_reducible skip); refine blk_put (cs := #[.int .i64 8, .int .u64 5, .int .u64 0, .int .u64 0, .int .u64 0, .int .u64 0, .int .i64 1, .bool false, .slice none 0 0, .slice none 0 0, .slice none 0 0]) ?_ 10 _ rfl; (with_reducible skip); refine blk_put (cs := #[.int .i64 8, .int .u64 5, .int .u64 0, .int .u64 0, .int .u64 0, .int .u64 0, .int .i64 1, .bool false, .slice none 0 0, .slice none 0 0, .slice none 0 0]) ?_ 9 _ rfl; (with_reducible skip); refine blk_put (cs := #[.int .i64 8, .int .u64 5, .int .u64 0, .int .u64 0, .int .u64 0, .int .u64 0, .int .i64 1, .bool false, .slice none 0 0, .slice none 0 0, .slice none 0 0]) ?_ 8 _ rfl; (with_reducible skip); refine blk_put (cs := #[.int .i64 8, .int .u64 5, .int .u64 0, .int .u64 0, .int .u64 0, .int .u64 0, .int .i64 1, .bool false, .slice none 0 0, .slice none 0 0, .slice none 0 0]) ?_ 7 _ rfl; (with_reducible skip); refine blk_put (cs := #[.int .i64 8, .int .u64 5, .int .u64 0, .int .u64 0, .int .u64 0, .int .u64 0, .int .i64 0, .bool false, .slice none 0 0, .slice none 0 0, .slice none 0 0]) ?_ 6 _ rfl; (with_reducible skip); refine blk_put (cs := #[.int .i64 8, .int .u64 5, .int .u64 0, .int .u64 0, .int .u64 0, .int .u64 0, .int .i64 0, .bool false, .slice none 0 0, .slice none 0 0, .slice none 0 0]) ?_ 5 _ rfl; (with_reducible skip); refine blk_put (cs := #[.int .i64 8, .int .u64 5, .int .u64 0, .int .u64 0, .int .u64 0, .int .u64 0, .int .i64 0, .bool false, .slice none 0 0, .slice none 0 0, .slice none 0 0]) ?_ 4 _ rfl; (with_reducible skip); refine blk_put (cs := #[.int .i64 8, .int .u64 5, .int .u64 0, .int .u64 0, .int .u64 0, .int .u64 0, .int .i64 0, .bool false, .slice none 0 0, .slice none 0 0, .slice none 0 0]) ?_ 3 _ rfl; (with_reducible skip); refine blk_put (cs := #[.int .i64 8, .int .u64 5, .int .u64 0, .int .u64 0, .int .u64 0, .int .u64 0, .int .i64 0, .bool false, .slice none 0 0, .slice none 0 0, .slice none 0 0]) ?_ 2 _ rfl; (with_reducible skip); refine blk_put (cs := #[.int .i64 8, .int .u64 0, .int .u64 0, .int .u64 0, .int .u64 0, .int .u64 0, .int .i64 0, .bool false, .slice none 0 0, .slice none 0 0, .slice none 0 0]) ?_ 1 _ rfl; (with_reducible skip); refine blk_put (cs := #[.int .i64 0, .int .u64 0, .int .u64 0, .int .u64 0, .int .u64 0, .int .u64 0, .int .i64 0, .bool false, .slice none 0 0, .slice none 0 0, .slice none 0 0]) ?_ 0 _ rfl; (with_reducible skip); exact BK257.out) Try.underlying30 rfl (by kernel_rfl)) rfl ?_
 exact ⟨_, _, _, by (rfl), by (exact Kd.R_nil _ _ _ _ _), by (exact Kd.R_nil _ _ _ _ _), by (exact Kd.R_nil _ _ _ _ _), by repeat (with_reducible first | exact HB.out | refine below_set ?_ GE257.out)⟩

end Go.Proofs.Ytlpnpnjjmpkapaa.PAll
