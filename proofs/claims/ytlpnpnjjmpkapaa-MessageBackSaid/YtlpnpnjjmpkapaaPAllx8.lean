import Derived.Test.YtlpnpnjjmpkapaaPAllx0
import Derived.Test.YtlpnpnjjmpkapaaPAllx4
import Derived.Test.YtlpnpnjjmpkapaaPAllx5
import Derived.Test.YtlpnpnjjmpkapaaPAllx6
import Derived.Test.YtlpnpnjjmpkapaaPAllx7
namespace Go.Proofs.Ytlpnpnjjmpkapaa.PAll
open Go.RowKit Go.Proofs.YtlpnpnjjmpkapaaW.PrintWords Go.Proofs.YtlpnpnjjmpkapaaW.PrintLast Go.Proofs.YtlpnpnjjmpkapaaW.PrintMore
attribute [local go_sem] max2_int min2_int max_two min_two max_three min_three max_four min_four   -- for this text's walks alone
set_option linter.unusedVariables false
set_option linter.unusedSimpArgs false

set_option maxHeartbeats 8000000 in
set_option maxRecDepth 100000 in
theorem message_Right.thing4 (tr bn bd sn sd v : Int) (ok : Bool) (A8 : Option Addr) (c8 : Nat) (l8 : List S76) (A9 : Option Addr) (c9 : Nat) (l9 : List S92) (A10 : Option Addr) (c10 : Nat) (l10 : List Int) (w : World) :
  Calls Try.prog 28 #[.agg #[.int .i64 4, .int .u64 tr, .int .u64 bn, .int .u64 bd, .int .u64 sn, .int .u64 sd, .int .i64 v, .bool ok, .slice A8 l8.length c8, .slice A9 l9.length c9, .slice A10 l10.length c10]] w fun e w' => e = .returned (.iface 57 (.agg #[.int .u64 tr, .int .u64 bn, .int .u64 bd, .int .i64 v])) ∧ Below w.heap.size w w' := by
 have hu30 := Try.underlying30; have hu24 := Try.underlying24; have hu51 := Try.underlying51; have hu54 := Try.underlying54; have hu57 := Try.underlying57; have hu60 := Try.underlying60; have hu63 := Try.underlying63; have hu66 := Try.underlying66; have hu69 := Try.underlying69
 go_enter Try.func28, Try.ntmps28
 go_wp2_with ((with_reducible refine gate_dst (N := 1) rfl ?_); refine box_event ?hg (N := 1) ?hd (cs := #[.int .i64 4, .int .u64 tr, .int .u64 bn, .int .u64 bd, .int .u64 sn, .int .u64 sd, .int .i64 v, .bool ok, .slice A8 l8.length c8, .slice A9 l9.length c9, .slice A10 l10.length c10]) (t := 30) ?hr ?_; (case hd => rfl); (case hg => rfl); (case hr => (go_simp; done)); intro g hg w1 hbox hb; have HB := Aside0.mk hb; have BK := Aside0.mk hbox; have HGE := Aside0.mk (show w.heap.size ≤ g from Nat.le_of_eq hg.symm); clear hb hbox hg; obtain ⟨hcz_0, hcz_1, hcz_2, hcz_3, hcz_4, hcz_5, hcz_6, hcz_7, hcz_8, hcz_9, hcz_10⟩ := Hand.Cz.c11 BK.out)
 go_ret
 exact ⟨rfl, HB.out⟩

set_option maxHeartbeats 8000000 in
set_option maxRecDepth 100000 in
theorem message_Right.thing6 (tr bn bd sn sd v : Int) (ok : Bool) (A8 : Option Addr) (c8 : Nat) (l8 : List S76) (A9 : Option Addr) (c9 : Nat) (l9 : List S92) (A10 : Option Addr) (c10 : Nat) (l10 : List Int) (w : World) :
  Calls Try.prog 28 #[.agg #[.int .i64 6, .int .u64 tr, .int .u64 bn, .int .u64 bd, .int .u64 sn, .int .u64 sd, .int .i64 v, .bool ok, .slice A8 l8.length c8, .slice A9 l9.length c9, .slice A10 l10.length c10]] w fun e w' => e = .returned (.iface 57 (.agg #[.int .u64 tr, .int .u64 bn, .int .u64 bd, .int .i64 v])) ∧ Below w.heap.size w w' := by
 have hu30 := Try.underlying30; have hu24 := Try.underlying24; have hu51 := Try.underlying51; have hu54 := Try.underlying54; have hu57 := Try.underlying57; have hu60 := Try.underlying60; have hu63 := Try.underlying63; have hu66 := Try.underlying66; have hu69 := Try.underlying69
 go_enter Try.func28, Try.ntmps28
 go_wp2_with ((with_reducible refine gate_dst (N := 1) rfl ?_); refine box_event ?hg (N := 1) ?hd (cs := #[.int .i64 6, .int .u64 tr, .int .u64 bn, .int .u64 bd, .int .u64 sn, .int .u64 sd, .int .i64 v, .bool ok, .slice A8 l8.length c8, .slice A9 l9.length c9, .slice A10 l10.length c10]) (t := 30) ?hr ?_; (case hd => rfl); (case hg => rfl); (case hr => (go_simp; done)); intro g hg w1 hbox hb; have HB := Aside0.mk hb; have BK := Aside0.mk hbox; have HGE := Aside0.mk (show w.heap.size ≤ g from Nat.le_of_eq hg.symm); clear hb hbox hg; obtain ⟨hcz_0, hcz_1, hcz_2, hcz_3, hcz_4, hcz_5, hcz_6, hcz_7, hcz_8, hcz_9, hcz_10⟩ := Hand.Cz.c11 BK.out)
 go_ret
 exact ⟨rfl, HB.out⟩

set_option maxHeartbeats 8000000 in
set_option maxRecDepth 100000 in
theorem message_Right.thing5 (tr bn bd sn sd v : Int) (ok : Bool) (A8 : Option Addr) (c8 : Nat) (l8 : List S76) (A9 : Option Addr) (c9 : Nat) (l9 : List S92) (A10 : Option Addr) (c10 : Nat) (l10 : List Int) (w : World) :
  Calls Try.prog 28 #[.agg #[.int .i64 5, .int .u64 tr, .int .u64 bn, .int .u64 bd, .int .u64 sn, .int .u64 sd, .int .i64 v, .bool ok, .slice A8 l8.length c8, .slice A9 l9.length c9, .slice A10 l10.length c10]] w fun e w' => e = .returned (.iface 60 (.agg #[.int .u64 tr, .int .u64 bn, .int .u64 bd, .bool ok, .int .u64 sn, .int .u64 sd, .int .i64 v, .bool false])) ∧ Below w.heap.size w w' := by
 have hu30 := Try.underlying30; have hu24 := Try.underlying24; have hu51 := Try.underlying51; have hu54 := Try.underlying54; have hu57 := Try.underlying57; have hu60 := Try.underlying60; have hu63 := Try.underlying63; have hu66 := Try.underlying66; have hu69 := Try.underlying69
 go_enter Try.func28, Try.ntmps28
 go_wp2_with ((with_reducible refine gate_dst (N := 1) rfl ?_); refine box_event ?hg (N := 1) ?hd (cs := #[.int .i64 5, .int .u64 tr, .int .u64 bn, .int .u64 bd, .int .u64 sn, .int .u64 sd, .int .i64 v, .bool ok, .slice A8 l8.length c8, .slice A9 l9.length c9, .slice A10 l10.length c10]) (t := 30) ?hr ?_; (case hd => rfl); (case hg => rfl); (case hr => (go_simp; done)); intro g hg w1 hbox hb; have HB := Aside0.mk hb; have BK := Aside0.mk hbox; have HGE := Aside0.mk (show w.heap.size ≤ g from Nat.le_of_eq hg.symm); clear hb hbox hg; obtain ⟨hcz_0, hcz_1, hcz_2, hcz_3, hcz_4, hcz_5, hcz_6, hcz_7, hcz_8, hcz_9, hcz_10⟩ := Hand.Cz.c11 BK.out)
 go_ret
 exact ⟨rfl, HB.out⟩

set_option maxHeartbeats 8000000 in
set_option maxRecDepth 100000 in
theorem message_Right.thing7 (tr bn bd sn sd v : Int) (ok : Bool) (A8 : Option Addr) (c8 : Nat) (l8 : List S76) (A9 : Option Addr) (c9 : Nat) (l9 : List S92) (A10 : Option Addr) (c10 : Nat) (l10 : List Int) (w : World) :
  Calls Try.prog 28 #[.agg #[.int .i64 7, .int .u64 tr, .int .u64 bn, .int .u64 bd, .int .u64 sn, .int .u64 sd, .int .i64 v, .bool ok, .slice A8 l8.length c8, .slice A9 l9.length c9, .slice A10 l10.length c10]] w fun e w' => e = .returned (.iface 60 (.agg #[.int .u64 tr, .int .u64 bn, .int .u64 bd, .bool ok, .int .u64 sn, .int .u64 sd, .int .i64 v, .bool true])) ∧ Below w.heap.size w w' := by
 have hu30 := Try.underlying30; have hu24 := Try.underlying24; have hu51 := Try.underlying51; have hu54 := Try.underlying54; have hu57 := Try.underlying57; have hu60 := Try.underlying60; have hu63 := Try.underlying63; have hu66 := Try.underlying66; have hu69 := Try.underlying69
 go_enter Try.func28, Try.ntmps28
 go_wp2_with ((with_reducible refine gate_dst (N := 1) rfl ?_); refine box_event ?hg (N := 1) ?hd (cs := #[.int .i64 7, .int .u64 tr, .int .u64 bn, .int .u64 bd, .int .u64 sn, .int .u64 sd, .int .i64 v, .bool ok, .slice A8 l8.length c8, .slice A9 l9.length c9, .slice A10 l10.length c10]) (t := 30) ?hr ?_; (case hd => rfl); (case hg => rfl); (case hr => (go_simp; done)); intro g hg w1 hbox hb; have HB := Aside0.mk hb; have BK := Aside0.mk hbox; have HGE := Aside0.mk (show w.heap.size ≤ g from Nat.le_of_eq hg.symm); clear hb hbox hg; obtain ⟨hcz_0, hcz_1, hcz_2, hcz_3, hcz_4, hcz_5, hcz_6, hcz_7, hcz_8, hcz_9, hcz_10⟩ := Hand.Cz.c11 BK.out)
 go_ret
 exact ⟨rfl, HB.out⟩

set_option maxHeartbeats 8000000 in
set_option maxRecDepth 100000 in
theorem message_Right.thing8 (tr bn bd sn sd v : Int) (ok : Bool) (A8 : Option Addr) (c8 : Nat) (l8 : List S76) (A9 : Option Addr) (c9 : Nat) (l9 : List S92) (A10 : Option Addr) (c10 : Nat) (l10 : List Int) (w : World) :
  Calls Try.prog 28 #[.agg #[.int .i64 8, .int .u64 tr, .int .u64 bn, .int .u64 bd, .int .u64 sn, .int .u64 sd, .int .i64 v, .bool ok, .slice A8 l8.length c8, .slice A9 l9.length c9, .slice A10 l10.length c10]] w fun e w' => e = .returned (.iface 63 (.agg #[.int .u64 tr, .int .i64 v])) ∧ Below w.heap.size w w' := by
 have hu30 := Try.underlying30; have hu24 := Try.underlying24; have hu51 := Try.underlying51; have hu54 := Try.underlying54; have hu57 := Try.underlying57; have hu60 := Try.underlying60; have hu63 := Try.underlying63; have hu66 := Try.underlying66; have hu69 := Try.underlying69
 go_enter Try.func28, Try.ntmps28
 go_wp2_with ((with_reducible refine gate_dst (N := 1) rfl ?_); refine box_event ?hg (N := 1) ?hd (cs := #[.int .i64 8, .int .u64 tr, .int .u64 bn, .int .u64 bd, .int .u64 sn, .int .u64 sd, .int .i64 v, .bool ok, .slice A8 l8.length c8, .slice A9 l9.length c9, .slice A10 l10.length c10]) (t := 30) ?hr ?_; (case hd => rfl); (case hg => rfl); (case hr => (go_simp; done)); intro g hg w1 hbox hb; have HB := Aside0.mk hb; have BK := Aside0.mk hbox; have HGE := Aside0.mk (show w.heap.size ≤ g from Nat.le_of_eq hg.symm); clear hb hbox hg; obtain ⟨hcz_0, hcz_1, hcz_2, hcz_3, hcz_4, hcz_5, hcz_6, hcz_7, hcz_8, hcz_9, hcz_10⟩ := Hand.Cz.c11 BK.out)
 go_ret
 exact ⟨rfl, HB.out⟩

set_option maxHeartbeats 8000000 in
set_option maxRecDepth 100000 in
theorem message_Right.thing3 (tr bn bd sn sd v : Int) (ok : Bool) (A8 : Option Addr) (c8 : Nat) (l8 : List S76) (A9 : Option Addr) (c9 : Nat) (l9 : List S92) (A10 : Option Addr) (c10 : Nat) (l10 : List Int) (w : World) (hC : Kd.C k92 w A9 l9.length l9) (hc : l9.length ≤ c9) (hl : l9.length ≤ 1000) :
  Calls Try.prog 28 #[.agg #[.int .i64 3, .int .u64 tr, .int .u64 bn, .int .u64 bd, .int .u64 sn, .int .u64 sd, .int .i64 v, .bool ok, .slice A8 l8.length c8, .slice A9 l9.length c9, .slice A10 l10.length c10]] w fun e w' => ∃ v1 : Value, e = .returned (.iface 54 (.agg #[v1])) ∧ Kd.R k92 92 w' w.heap.size (fun _ => True) v1 l9 ∧ Below w.heap.size w w' := by
 have hu30 := Try.underlying30; have hu24 := Try.underlying24; have hu51 := Try.underlying51; have hu54 := Try.underlying54; have hu57 := Try.underlying57; have hu60 := Try.underlying60; have hu63 := Try.underlying63; have hu66 := Try.underlying66; have hu69 := Try.underlying69; have hcl9 : api_Member_58.f l9 = some l9 := if_pos (by omega); have HC := Aside0.mk hC; have HCL := Aside0.mk hcl9; clear hC hcl9
 go_enter Try.func28, Try.ntmps28
 go_wp2_with (first | ((with_reducible refine gate_dst (N := 1) rfl ?_); refine box_event ?hg (N := 1) ?hd (cs := #[.int .i64 3, .int .u64 tr, .int .u64 bn, .int .u64 bd, .int .u64 sn, .int .u64 sd, .int .i64 v, .bool ok, .slice A8 l8.length c8, .slice A9 l9.length c9, .slice A10 l10.length c10]) (t := 30) ?hr ?_; (case hd => rfl); (case hg => rfl); (case hr => (go_simp; done)); intro g hg w1 hbox hb; have HB := Aside0.mk hb; have BK := Aside0.mk hbox; have HGE := Aside0.mk (show w.heap.size ≤ g from Nat.le_of_eq hg.symm); clear hb hbox hg; obtain ⟨hcz_0, hcz_1, hcz_2, hcz_3, hcz_4, hcz_5, hcz_6, hcz_7, hcz_8, hcz_9, hcz_10⟩ := Hand.Cz.c11 BK.out) | (go_at_call 58; refine (api_Member_58.calls A9 c9 l9 l9 _ (Kd.C_below HC.out HB.out) hc HCL.out).mono ?_; rintro e w2 ⟨v1, rfl, hR, hb⟩; obtain ⟨Av, cv, rfl⟩ := Kd.R_slice hR; have HR := Aside0.mk (Kd.R_lower hR HB.out.size); have HB2 := Aside0.mk (below_step HB.out hb); clear hR hb))
 go_ret
 exact ⟨_, rfl, HR.out, HB2.out⟩

def message_Right.T28_4 : Bool × List (List Nat × List Nat) := (true, [([], []), ([0], [0]), ([], []), ([2], [2]), ([3], [3]), ([], []), ([5], [5]), ([6], [6]), ([1, 4, 7], [1, 4, 7]), ([8], [8]), ([9, 7, 0, 1, 2, 3, 4, 5, 6, 7, 8, 9], [9])])
def message_Right.B28_4 : List Nat := [0, 1, 0, 4, 12, 0, 32, 96, 255, 511, 1023]
theorem message_Right.tab28_4 : rtab .any (opsOf Try.f28 4) = message_Right.T28_4 := by kernel_rfl
theorem message_Right.bits28_4 : waitsOk message_Right.T28_4.2 message_Right.B28_4 = true := by kernel_rfl

set_option maxHeartbeats 8000000 in
set_option maxRecDepth 100000 in
theorem message_Right.thing1 (tr bn bd sn sd v : Int) (ok : Bool) (A8 : Option Addr) (c8 : Nat) (l8 : List S76) (A9 : Option Addr) (c9 : Nat) (l9 : List S92) (A10 : Option Addr) (c10 : Nat) (l10 : List Int) (w : World) (hC : Kd.C k76 w A8 l8.length l8) (hc : l8.length ≤ c8) (hl : l8.length ≤ 1000) :
  Calls Try.prog 28 #[.agg #[.int .i64 1, .int .u64 tr, .int .u64 bn, .int .u64 bd, .int .u64 sn, .int .u64 sd, .int .i64 v, .bool ok, .slice A8 l8.length c8, .slice A9 l9.length c9, .slice A10 l10.length c10]] w fun e w' => ∃ v1 : Value, e = .returned (.iface 51 (.agg #[.int .u64 tr, .bool false, v1])) ∧ Kd.R k76 76 w' w.heap.size (fun _ => True) v1 l8 ∧ Below w.heap.size w w' := by
 have hu30 := Try.underlying30; have hu24 := Try.underlying24; have hu51 := Try.underlying51; have hu54 := Try.underlying54; have hu57 := Try.underlying57; have hu60 := Try.underlying60; have hu63 := Try.underlying63; have hu66 := Try.underlying66; have hu69 := Try.underlying69; have hcl8 : api_Span_57.f l8 = some l8 := if_pos (by omega); have HC := Aside0.mk hC; have HCL := Aside0.mk hcl8; clear hC hcl8
 go_enter Try.func28, Try.ntmps28
 go_wp2_with ((with_reducible refine gate_dst (N := 1) rfl ?_); refine box_event ?hg (N := 1) ?hd (cs := #[.int .i64 1, .int .u64 tr, .int .u64 bn, .int .u64 bd, .int .u64 sn, .int .u64 sd, .int .i64 v, .bool ok, .slice A8 l8.length c8, .slice A9 l9.length c9, .slice A10 l10.length c10]) (t := 30) ?hr ?_; (case hd => rfl); (case hg => rfl); (case hr => (go_simp; done)); intro g hg w1 hbox hb; have HB := Aside0.mk hb; have BK := Aside0.mk hbox; have HGE := Aside0.mk (show w.heap.size ≤ g from Nat.le_of_eq hg.symm); clear hb hbox hg; obtain ⟨hcz_0, hcz_1, hcz_2, hcz_3, hcz_4, hcz_5, hcz_6, hcz_7, hcz_8, hcz_9, hcz_10⟩ := Hand.Cz.c11 BK.out)
 clear hcz_0; clear hcz_1; clear hcz_2; clear hcz_3; clear hcz_4; clear hcz_5; clear hcz_6; clear hcz_7; clear hcz_8; clear hcz_9; clear hcz_10
 refine start_ (n := 11) (S := fun w' => w'.heap[g]? = some (.cells #[.int .i64 1, .int .u64 tr, .int .u64 bn, .int .u64 bd, .int .u64 sn, .int .u64 sd, .int .i64 v, .bool ok, .slice A8 l8.length c8, .slice A9 l9.length c9, .slice A10 l10.length c10] 30 (0, 0)) ∧ Below w.heap.size w w') (ds := []) #[false, false, false, false, false, false, false, false, false, false, false] (by kernel_rfl) rfl rfl ⟨blk_drew BK.out, below_drew1 HB.out⟩ (fun hHeld => ?_)
 refine with_tabW message_Right.tab28_4 message_Right.bits28_4 (fun HT_ HW_ => ?_)
 generalize w1.drew = wd at hHeld ⊢
 refine pure_ (i := 0) (N := some 8) (v := ?_) (a' := ?_) #[true, false, false, false, false, false, false, false, false, false, false] rfl rfl (any_of HT_.out (by kernel_rfl)) (fun _ _ _ h => h) (Or.inl ⟨by rfl, ?_⟩) ?_ ?_
 rotate_left
 ·intro w'; go_simp; with_reducible rfl
 rotate_left
 ·simp only [Act.put, List.setIfInBounds_toArray, List.set_cons_zero, List.set_cons_succ, i64_w, i32_w]; rfl
 refine take_ (i := 1) (N := some 9) (v := ?_) (a' := ?_) #[true, true, false, false, false, false, false, false, false, false, false] rfl rfl (take_ofW HT_.out HW_.out (by kernel_rfl)) (fun _ _ _ h => h) (Or.inl ⟨by rfl, ?_⟩) hHeld ?_ ?_
 rotate_left
 ·rintro w' ⟨E, I⟩
  have z1 : w'.cell? ⟨g, 1, none⟩ = some (.int .u64 tr) := (blk_cell E 1).trans rfl
  go_simp
  with_reducible rfl
 rotate_left
 ·simp only [Act.put, List.setIfInBounds_toArray, List.set_cons_zero, List.set_cons_succ, i64_w, i32_w]; rfl
 refine pure_ (i := 2) (N := some 10) (v := ?_) (a' := ?_) #[true, true, true, false, false, false, false, false, false, false, false] rfl rfl (any_of HT_.out (by kernel_rfl)) (fun _ _ _ h => h) (Or.inl ⟨by rfl, ?_⟩) ?_ ?_
 rotate_left
 ·intro w'; go_simp; with_reducible rfl
 rotate_left
 ·simp only [Act.put, List.setIfInBounds_toArray, List.set_cons_zero, List.set_cons_succ, i64_w, i32_w]; rfl
 refine take_ (i := 3) (N := some 11) (v := ?_) (a' := ?_) #[true, true, true, true, false, false, false, false, false, false, false] rfl rfl (take_ofW HT_.out HW_.out (by kernel_rfl)) (fun _ _ _ h => h) (Or.inl ⟨by rfl, ?_⟩) hHeld ?_ ?_
 rotate_left
 ·rintro w' ⟨E, I⟩
  have z0 : w'.cell? ⟨g, 0, none⟩ = some (.int .i64 1) := (blk_cell E 0).trans rfl
  go_simp
  with_reducible rfl
 rotate_left
 ·simp only [Act.put, List.setIfInBounds_toArray, List.set_cons_zero, List.set_cons_succ, i64_w, i32_w]; rfl
 refine pure_ (i := 4) (N := some 12) (v := ?_) (a' := ?_) #[true, true, true, true, true, false, false, false, false, false, false] rfl rfl (any_of HT_.out (by kernel_rfl)) (fun _ _ _ h => h) (Or.inl ⟨by rfl, ?_⟩) ?_ ?_
 rotate_left
 ·intro w'; go_simp; with_reducible rfl
 rotate_left
 ·simp only [Act.put, List.setIfInBounds_toArray, List.set_cons_zero, List.set_cons_succ, i64_w, i32_w]; rfl
 refine pure_ (i := 5) (N := some 13) (v := ?_) (a' := ?_) #[true, true, true, true, true, true, false, false, false, false, false] rfl rfl (any_of HT_.out (by kernel_rfl)) (fun _ _ _ h => h) (Or.inl ⟨by rfl, ?_⟩) ?_ ?_
 rotate_left
 ·intro w'; go_simp; with_reducible rfl
 rotate_left
 ·simp only [Act.put, List.setIfInBounds_toArray, List.set_cons_zero, List.set_cons_succ, i64_w, i32_w]; rfl
 refine take_ (i := 6) (N := some 14) (v := ?_) (a' := ?_) #[true, true, true, true, true, true, true, false, false, false, false] rfl rfl (take_ofW HT_.out HW_.out (by kernel_rfl)) (fun _ _ _ h => h) (Or.inl ⟨by rfl, ?_⟩) hHeld ?_ ?_
 rotate_left
 ·rintro w' ⟨E, I⟩
  have z8 : w'.cell? ⟨g, 8, none⟩ = some (.slice A8 l8.length c8) := (blk_cell E 8).trans rfl
  go_simp
  with_reducible rfl
 rotate_left
 ·simp only [Act.put, List.setIfInBounds_toArray, List.set_cons_zero, List.set_cons_succ, i64_w, i32_w]; rfl
 refine one_ (i := 7) (N := some 15) #[true, true, true, true, true, true, true, true, false, false, false] rfl rfl (one_of HT_.out (by kernel_rfl)) (by decide) (fun K hK => ?_)
 refine goes_ Try.func57 (by kernel_rfl) rfl #[.slice A8 l8.length c8] (by rfl) rfl rfl (by (try simp only [List.map_toArray, List.map_cons, List.map_nil]); (rfl)) ?_
 with_reducible refine (api_Span_57.calls A8 c8 l8 l8 _ (Kd.C_below HC.out hHeld.2) hc HCL.out).mono ?_
 rintro e w2 ⟨v1, rfl, hR, hb⟩ ; obtain ⟨Av, cv, rfl⟩ := Kd.R_slice hR
 refine ⟨_, rfl, ?_⟩
 have HR := Aside0.mk (Kd.R_lower hR hHeld.2.size); clear hR
 refine hK.out _ _ ⟨blk_below hHeld.1 hb, below_step hHeld.2 hb⟩ (fun hHeld => ?_)
 clear hK K
 refine norm_ (a' := ?_) ?_ ?_
 rotate_left
 ·show Act.put _ (some 15) _ = _; simp only [Act.put, List.setIfInBounds_toArray, List.set_cons_zero, List.set_cons_succ, i64_w, i32_w]; rfl
 refine pure_ (i := 8) (N := some 16) (v := ?_) (a' := ?_) #[true, true, true, true, true, true, true, true, true, false, false] rfl rfl (any_of HT_.out (by kernel_rfl)) (fun _ _ _ h => h) (Or.inl ⟨by rfl, ?_⟩) ?_ ?_
 rotate_left
 ·intro w'; go_simp; with_reducible rfl
 rotate_left
 ·simp only [Act.put, List.setIfInBounds_toArray, List.set_cons_zero, List.set_cons_succ, i64_w, i32_w]; rfl
 refine pure_ (i := 9) (N := some 17) (v := ?_) (a' := ?_) #[true, true, true, true, true, true, true, true, true, true, false] rfl rfl (any_of HT_.out (by kernel_rfl)) (fun _ _ _ h => h) (Or.inl ⟨by rfl, ?_⟩) ?_ ?_
 rotate_left
 ·intro w'; go_simp; with_reducible rfl
 rotate_left
 ·simp only [Act.put, List.setIfInBounds_toArray, List.set_cons_zero, List.set_cons_succ, i64_w, i32_w]; rfl
 refine pure_ (i := 10) (N := some 2) (v := ?_) (a' := ?_) #[true, true, true, true, true, true, true, true, true, true, true] rfl rfl (any_of HT_.out (by kernel_rfl)) (fun _ _ _ h => h) (Or.inl ⟨by rfl, ?_⟩) ?_ ?_
 rotate_left
 ·intro w'; go_simp; with_reducible rfl
 rotate_left
 ·simp only [Act.put, List.setIfInBounds_toArray, List.set_cons_zero, List.set_cons_succ, i64_w, i32_w]; rfl
 refine done_ (done_of HT_.out (by kernel_rfl)) ?_
 go_wp2
 go_ret
 exact ⟨_, rfl, HR.out, hHeld.2⟩

set_option maxHeartbeats 8000000 in
set_option maxRecDepth 100000 in
theorem message_Right.thing2 (tr bn bd sn sd v : Int) (ok : Bool) (A8 : Option Addr) (c8 : Nat) (l8 : List S76) (A9 : Option Addr) (c9 : Nat) (l9 : List S92) (A10 : Option Addr) (c10 : Nat) (l10 : List Int) (w : World) (hC : Kd.C k76 w A8 l8.length l8) (hc : l8.length ≤ c8) (hl : l8.length ≤ 1000) :
  Calls Try.prog 28 #[.agg #[.int .i64 2, .int .u64 tr, .int .u64 bn, .int .u64 bd, .int .u64 sn, .int .u64 sd, .int .i64 v, .bool ok, .slice A8 l8.length c8, .slice A9 l9.length c9, .slice A10 l10.length c10]] w fun e w' => ∃ v1 : Value, e = .returned (.iface 51 (.agg #[.int .u64 tr, .bool true, v1])) ∧ Kd.R k76 76 w' w.heap.size (fun _ => True) v1 l8 ∧ Below w.heap.size w w' := by
 have hu30 := Try.underlying30; have hu24 := Try.underlying24; have hu51 := Try.underlying51; have hu54 := Try.underlying54; have hu57 := Try.underlying57; have hu60 := Try.underlying60; have hu63 := Try.underlying63; have hu66 := Try.underlying66; have hu69 := Try.underlying69; have hcl8 : api_Span_57.f l8 = some l8 := if_pos (by omega); have HC := Aside0.mk hC; have HCL := Aside0.mk hcl8; clear hC hcl8
 go_enter Try.func28, Try.ntmps28
 go_wp2_with ((with_reducible refine gate_dst (N := 1) rfl ?_); refine box_event ?hg (N := 1) ?hd (cs := #[.int .i64 2, .int .u64 tr, .int .u64 bn, .int .u64 bd, .int .u64 sn, .int .u64 sd, .int .i64 v, .bool ok, .slice A8 l8.length c8, .slice A9 l9.length c9, .slice A10 l10.length c10]) (t := 30) ?hr ?_; (case hd => rfl); (case hg => rfl); (case hr => (go_simp; done)); intro g hg w1 hbox hb; have HB := Aside0.mk hb; have BK := Aside0.mk hbox; have HGE := Aside0.mk (show w.heap.size ≤ g from Nat.le_of_eq hg.symm); clear hb hbox hg; obtain ⟨hcz_0, hcz_1, hcz_2, hcz_3, hcz_4, hcz_5, hcz_6, hcz_7, hcz_8, hcz_9, hcz_10⟩ := Hand.Cz.c11 BK.out)
 clear hcz_0; clear hcz_1; clear hcz_2; clear hcz_3; clear hcz_4; clear hcz_5; clear hcz_6; clear hcz_7; clear hcz_8; clear hcz_9; clear hcz_10
 refine start_ (n := 11) (S := fun w' => w'.heap[g]? = some (.cells #[.int .i64 2, .int .u64 tr, .int .u64 bn, .int .u64 bd, .int .u64 sn, .int .u64 sd, .int .i64 v, .bool ok, .slice A8 l8.length c8, .slice A9 l9.length c9, .slice A10 l10.length c10] 30 (0, 0)) ∧ Below w.heap.size w w') (ds := []) #[false, false, false, false, false, false, false, false, false, false, false] (by kernel_rfl) rfl rfl ⟨blk_drew BK.out, below_drew1 HB.out⟩ (fun hHeld => ?_)
 refine with_tabW message_Right.tab28_4 message_Right.bits28_4 (fun HT_ HW_ => ?_)
 generalize w1.drew = wd at hHeld ⊢
 refine pure_ (i := 0) (N := some 8) (v := ?_) (a' := ?_) #[true, false, false, false, false, false, false, false, false, false, false] rfl rfl (any_of HT_.out (by kernel_rfl)) (fun _ _ _ h => h) (Or.inl ⟨by rfl, ?_⟩) ?_ ?_
 rotate_left
 ·intro w'; go_simp; with_reducible rfl
 rotate_left
 ·simp only [Act.put, List.setIfInBounds_toArray, List.set_cons_zero, List.set_cons_succ, i64_w, i32_w]; rfl
 refine take_ (i := 1) (N := some 9) (v := ?_) (a' := ?_) #[true, true, false, false, false, false, false, false, false, false, false] rfl rfl (take_ofW HT_.out HW_.out (by kernel_rfl)) (fun _ _ _ h => h) (Or.inl ⟨by rfl, ?_⟩) hHeld ?_ ?_
 rotate_left
 ·rintro w' ⟨E, I⟩
  have z1 : w'.cell? ⟨g, 1, none⟩ = some (.int .u64 tr) := (blk_cell E 1).trans rfl
  go_simp
  with_reducible rfl
 rotate_left
 ·simp only [Act.put, List.setIfInBounds_toArray, List.set_cons_zero, List.set_cons_succ, i64_w, i32_w]; rfl
 refine pure_ (i := 2) (N := some 10) (v := ?_) (a' := ?_) #[true, true, true, false, false, false, false, false, false, false, false] rfl rfl (any_of HT_.out (by kernel_rfl)) (fun _ _ _ h => h) (Or.inl ⟨by rfl, ?_⟩) ?_ ?_
 rotate_left
 ·intro w'; go_simp; with_reducible rfl
 rotate_left
 ·simp only [Act.put, List.setIfInBounds_toArray, List.set_cons_zero, List.set_cons_succ, i64_w, i32_w]; rfl
 refine take_ (i := 3) (N := some 11) (v := ?_) (a' := ?_) #[true, true, true, true, false, false, false, false, false, false, false] rfl rfl (take_ofW HT_.out HW_.out (by kernel_rfl)) (fun _ _ _ h => h) (Or.inl ⟨by rfl, ?_⟩) hHeld ?_ ?_
 rotate_left
 ·rintro w' ⟨E, I⟩
  have z0 : w'.cell? ⟨g, 0, none⟩ = some (.int .i64 2) := (blk_cell E 0).trans rfl
  go_simp
  with_reducible rfl
 rotate_left
 ·simp only [Act.put, List.setIfInBounds_toArray, List.set_cons_zero, List.set_cons_succ, i64_w, i32_w]; rfl
 refine pure_ (i := 4) (N := some 12) (v := ?_) (a' := ?_) #[true, true, true, true, true, false, false, false, false, false, false] rfl rfl (any_of HT_.out (by kernel_rfl)) (fun _ _ _ h => h) (Or.inl ⟨by rfl, ?_⟩) ?_ ?_
 rotate_left
 ·intro w'; go_simp; with_reducible rfl
 rotate_left
 ·simp only [Act.put, List.setIfInBounds_toArray, List.set_cons_zero, List.set_cons_succ, i64_w, i32_w]; rfl
 refine pure_ (i := 5) (N := some 13) (v := ?_) (a' := ?_) #[true, true, true, true, true, true, false, false, false, false, false] rfl rfl (any_of HT_.out (by kernel_rfl)) (fun _ _ _ h => h) (Or.inl ⟨by rfl, ?_⟩) ?_ ?_
 rotate_left
 ·intro w'; go_simp; with_reducible rfl
 rotate_left
 ·simp only [Act.put, List.setIfInBounds_toArray, List.set_cons_zero, List.set_cons_succ, i64_w, i32_w]; rfl
 refine take_ (i := 6) (N := some 14) (v := ?_) (a' := ?_) #[true, true, true, true, true, true, true, false, false, false, false] rfl rfl (take_ofW HT_.out HW_.out (by kernel_rfl)) (fun _ _ _ h => h) (Or.inl ⟨by rfl, ?_⟩) hHeld ?_ ?_
 rotate_left
 ·rintro w' ⟨E, I⟩
  have z8 : w'.cell? ⟨g, 8, none⟩ = some (.slice A8 l8.length c8) := (blk_cell E 8).trans rfl
  go_simp
  with_reducible rfl
 rotate_left
 ·simp only [Act.put, List.setIfInBounds_toArray, List.set_cons_zero, List.set_cons_succ, i64_w, i32_w]; rfl
 refine one_ (i := 7) (N := some 15) #[true, true, true, true, true, true, true, true, false, false, false] rfl rfl (one_of HT_.out (by kernel_rfl)) (by decide) (fun K hK => ?_)
 refine goes_ Try.func57 (by kernel_rfl) rfl #[.slice A8 l8.length c8] (by rfl) rfl rfl (by (try simp only [List.map_toArray, List.map_cons, List.map_nil]); (rfl)) ?_
 with_reducible refine (api_Span_57.calls A8 c8 l8 l8 _ (Kd.C_below HC.out hHeld.2) hc HCL.out).mono ?_
 rintro e w2 ⟨v1, rfl, hR, hb⟩ ; obtain ⟨Av, cv, rfl⟩ := Kd.R_slice hR
 refine ⟨_, rfl, ?_⟩
 have HR := Aside0.mk (Kd.R_lower hR hHeld.2.size); clear hR
 refine hK.out _ _ ⟨blk_below hHeld.1 hb, below_step hHeld.2 hb⟩ (fun hHeld => ?_)
 clear hK K
 refine norm_ (a' := ?_) ?_ ?_
 rotate_left
 ·show Act.put _ (some 15) _ = _; simp only [Act.put, List.setIfInBounds_toArray, List.set_cons_zero, List.set_cons_succ, i64_w, i32_w]; rfl
 refine pure_ (i := 8) (N := some 16) (v := ?_) (a' := ?_) #[true, true, true, true, true, true, true, true, true, false, false] rfl rfl (any_of HT_.out (by kernel_rfl)) (fun _ _ _ h => h) (Or.inl ⟨by rfl, ?_⟩) ?_ ?_
 rotate_left
 ·intro w'; go_simp; with_reducible rfl
 rotate_left
 ·simp only [Act.put, List.setIfInBounds_toArray, List.set_cons_zero, List.set_cons_succ, i64_w, i32_w]; rfl
 refine pure_ (i := 9) (N := some 17) (v := ?_) (a' := ?_) #[true, true, true, true, true, true, true, true, true, true, false] rfl rfl (any_of HT_.out (by kernel_rfl)) (fun _ _ _ h => h) (Or.inl ⟨by rfl, ?_⟩) ?_ ?_
 rotate_left
 ·intro w'; go_simp; with_reducible rfl
 rotate_left
 ·simp only [Act.put, List.setIfInBounds_toArray, List.set_cons_zero, List.set_cons_succ, i64_w, i32_w]; rfl
 refine pure_ (i := 10) (N := some 2) (v := ?_) (a' := ?_) #[true, true, true, true, true, true, true, true, true, true, true] rfl rfl (any_of HT_.out (by kernel_rfl)) (fun _ _ _ h => h) (Or.inl ⟨by rfl, ?_⟩) ?_ ?_
 rotate_left
 ·intro w'; go_simp; with_reducible rfl
 rotate_left
 ·simp only [Act.put, List.setIfInBounds_toArray, List.set_cons_zero, List.set_cons_succ, i64_w, i32_w]; rfl
 refine done_ (done_of HT_.out (by kernel_rfl)) ?_
 go_wp2
 go_ret
 exact ⟨_, rfl, HR.out, hHeld.2⟩

def message_Right.T28_16 : Bool × List (List Nat × List Nat) := (true, [([], []), ([0], [0]), ([], []), ([2], [2]), ([], []), ([4], [4]), ([5], [5]), ([1, 3, 6], [1, 3, 6]), ([7], [7]), ([8, 6, 0, 1, 2, 3, 4, 5, 6, 7, 8], [8])])
def message_Right.B28_16 : List Nat := [0, 1, 0, 4, 0, 16, 48, 127, 255, 511]
theorem message_Right.tab28_16 : rtab .any (opsOf Try.f28 16) = message_Right.T28_16 := by kernel_rfl
theorem message_Right.bits28_16 : waitsOk message_Right.T28_16.2 message_Right.B28_16 = true := by kernel_rfl

set_option maxHeartbeats 8000000 in
set_option maxRecDepth 100000 in
theorem message_Right.thing9 (tr bn bd sn sd v : Int) (ok : Bool) (A8 : Option Addr) (c8 : Nat) (l8 : List S76) (A9 : Option Addr) (c9 : Nat) (l9 : List S92) (A10 : Option Addr) (c10 : Nat) (l10 : List Int) (w : World) (hC : Kd.C k76 w A8 l8.length l8) (hc : l8.length ≤ c8) (hl : l8.length ≤ 1000) :
  Calls Try.prog 28 #[.agg #[.int .i64 9, .int .u64 tr, .int .u64 bn, .int .u64 bd, .int .u64 sn, .int .u64 sd, .int .i64 v, .bool ok, .slice A8 l8.length c8, .slice A9 l9.length c9, .slice A10 l10.length c10]] w fun e w' => ∃ v1 : Value, e = .returned (.iface 66 (.agg #[.int .u64 tr, .int .u64 bn, .int .u64 bd, v1])) ∧ Kd.R k76 76 w' w.heap.size (fun _ => True) v1 l8 ∧ Below w.heap.size w w' := by
 have hu30 := Try.underlying30; have hu24 := Try.underlying24; have hu51 := Try.underlying51; have hu54 := Try.underlying54; have hu57 := Try.underlying57; have hu60 := Try.underlying60; have hu63 := Try.underlying63; have hu66 := Try.underlying66; have hu69 := Try.underlying69; have hcl8 : api_Span_57.f l8 = some l8 := if_pos (by omega); have HC := Aside0.mk hC; have HCL := Aside0.mk hcl8; clear hC hcl8
 go_enter Try.func28, Try.ntmps28
 go_wp2_with ((with_reducible refine gate_dst (N := 1) rfl ?_); refine box_event ?hg (N := 1) ?hd (cs := #[.int .i64 9, .int .u64 tr, .int .u64 bn, .int .u64 bd, .int .u64 sn, .int .u64 sd, .int .i64 v, .bool ok, .slice A8 l8.length c8, .slice A9 l9.length c9, .slice A10 l10.length c10]) (t := 30) ?hr ?_; (case hd => rfl); (case hg => rfl); (case hr => (go_simp; done)); intro g hg w1 hbox hb; have HB := Aside0.mk hb; have BK := Aside0.mk hbox; have HGE := Aside0.mk (show w.heap.size ≤ g from Nat.le_of_eq hg.symm); clear hb hbox hg; obtain ⟨hcz_0, hcz_1, hcz_2, hcz_3, hcz_4, hcz_5, hcz_6, hcz_7, hcz_8, hcz_9, hcz_10⟩ := Hand.Cz.c11 BK.out)
 clear hcz_0; clear hcz_1; clear hcz_2; clear hcz_3; clear hcz_4; clear hcz_5; clear hcz_6; clear hcz_7; clear hcz_8; clear hcz_9; clear hcz_10
 refine start_ (n := 10) (S := fun w' => w'.heap[g]? = some (.cells #[.int .i64 9, .int .u64 tr, .int .u64 bn, .int .u64 bd, .int .u64 sn, .int .u64 sd, .int .i64 v, .bool ok, .slice A8 l8.length c8, .slice A9 l9.length c9, .slice A10 l10.length c10] 30 (0, 0)) ∧ Below w.heap.size w w') (ds := []) #[false, false, false, false, false, false, false, false, false, false] (by kernel_rfl) rfl rfl ⟨blk_drew BK.out, below_drew1 HB.out⟩ (fun hHeld => ?_)
 refine with_tabW message_Right.tab28_16 message_Right.bits28_16 (fun HT_ HW_ => ?_)
 generalize w1.drew = wd at hHeld ⊢
 refine pure_ (i := 0) (N := some 64) (v := ?_) (a' := ?_) #[true, false, false, false, false, false, false, false, false, false] rfl rfl (any_of HT_.out (by kernel_rfl)) (fun _ _ _ h => h) (Or.inl ⟨by rfl, ?_⟩) ?_ ?_
 rotate_left
 ·intro w'; go_simp; with_reducible rfl
 rotate_left
 ·simp only [Act.put, List.setIfInBounds_toArray, List.set_cons_zero, List.set_cons_succ, i64_w, i32_w]; rfl
 refine take_ (i := 1) (N := some 65) (v := ?_) (a' := ?_) #[true, true, false, false, false, false, false, false, false, false] rfl rfl (take_ofW HT_.out HW_.out (by kernel_rfl)) (fun _ _ _ h => h) (Or.inl ⟨by rfl, ?_⟩) hHeld ?_ ?_
 rotate_left
 ·rintro w' ⟨E, I⟩
  have z1 : w'.cell? ⟨g, 1, none⟩ = some (.int .u64 tr) := (blk_cell E 1).trans rfl
  go_simp
  with_reducible rfl
 rotate_left
 ·simp only [Act.put, List.setIfInBounds_toArray, List.set_cons_zero, List.set_cons_succ, i64_w, i32_w]; rfl
 refine pure_ (i := 2) (N := some 66) (v := ?_) (a' := ?_) #[true, true, true, false, false, false, false, false, false, false] rfl rfl (any_of HT_.out (by kernel_rfl)) (fun _ _ _ h => h) (Or.inl ⟨by rfl, ?_⟩) ?_ ?_
 rotate_left
 ·intro w'; go_simp; with_reducible rfl
 rotate_left
 ·simp only [Act.put, List.setIfInBounds_toArray, List.set_cons_zero, List.set_cons_succ, i64_w, i32_w]; rfl
 refine take_ (i := 3) (N := some 67) (v := ?_) (a' := ?_) #[true, true, true, true, false, false, false, false, false, false] rfl rfl (take_ofW HT_.out HW_.out (by kernel_rfl)) (fun _ _ _ h => h) (Or.inl ⟨by rfl, ?_⟩) hHeld ?_ ?_
 rotate_left
 ·rintro w' ⟨E, I⟩
  have z2 : w'.cell? ⟨g, 2, none⟩ = some (.int .u64 bn) := (blk_cell E 2).trans rfl; have z3 : w'.cell? ⟨g, 3, none⟩ = some (.int .u64 bd) := (blk_cell E 3).trans rfl
  go_simp
  with_reducible rfl
 rotate_left
 ·simp only [Act.put, List.setIfInBounds_toArray, List.set_cons_zero, List.set_cons_succ, i64_w, i32_w]; rfl
 refine pure_ (i := 4) (N := some 68) (v := ?_) (a' := ?_) #[true, true, true, true, true, false, false, false, false, false] rfl rfl (any_of HT_.out (by kernel_rfl)) (fun _ _ _ h => h) (Or.inl ⟨by rfl, ?_⟩) ?_ ?_
 rotate_left
 ·intro w'; go_simp; with_reducible rfl
 rotate_left
 ·simp only [Act.put, List.setIfInBounds_toArray, List.set_cons_zero, List.set_cons_succ, i64_w, i32_w]; rfl
 refine take_ (i := 5) (N := some 69) (v := ?_) (a' := ?_) #[true, true, true, true, true, true, false, false, false, false] rfl rfl (take_ofW HT_.out HW_.out (by kernel_rfl)) (fun _ _ _ h => h) (Or.inl ⟨by rfl, ?_⟩) hHeld ?_ ?_
 rotate_left
 ·rintro w' ⟨E, I⟩
  have z8 : w'.cell? ⟨g, 8, none⟩ = some (.slice A8 l8.length c8) := (blk_cell E 8).trans rfl
  go_simp
  with_reducible rfl
 rotate_left
 ·simp only [Act.put, List.setIfInBounds_toArray, List.set_cons_zero, List.set_cons_succ, i64_w, i32_w]; rfl
 refine one_ (i := 6) (N := some 70) #[true, true, true, true, true, true, true, false, false, false] rfl rfl (one_of HT_.out (by kernel_rfl)) (by decide) (fun K hK => ?_)
 refine goes_ Try.func57 (by kernel_rfl) rfl #[.slice A8 l8.length c8] (by rfl) rfl rfl (by (try simp only [List.map_toArray, List.map_cons, List.map_nil]); (rfl)) ?_
 with_reducible refine (api_Span_57.calls A8 c8 l8 l8 _ (Kd.C_below HC.out hHeld.2) hc HCL.out).mono ?_
 rintro e w2 ⟨v1, rfl, hR, hb⟩ ; obtain ⟨Av, cv, rfl⟩ := Kd.R_slice hR
 refine ⟨_, rfl, ?_⟩
 have HR := Aside0.mk (Kd.R_lower hR hHeld.2.size); clear hR
 refine hK.out _ _ ⟨blk_below hHeld.1 hb, below_step hHeld.2 hb⟩ (fun hHeld => ?_)
 clear hK K
 refine norm_ (a' := ?_) ?_ ?_
 rotate_left
 ·show Act.put _ (some 70) _ = _; simp only [Act.put, List.setIfInBounds_toArray, List.set_cons_zero, List.set_cons_succ, i64_w, i32_w]; rfl
 refine pure_ (i := 7) (N := some 71) (v := ?_) (a' := ?_) #[true, true, true, true, true, true, true, true, false, false] rfl rfl (any_of HT_.out (by kernel_rfl)) (fun _ _ _ h => h) (Or.inl ⟨by rfl, ?_⟩) ?_ ?_
 rotate_left
 ·intro w'; go_simp; with_reducible rfl
 rotate_left
 ·simp only [Act.put, List.setIfInBounds_toArray, List.set_cons_zero, List.set_cons_succ, i64_w, i32_w]; rfl
 refine pure_ (i := 8) (N := some 72) (v := ?_) (a' := ?_) #[true, true, true, true, true, true, true, true, true, false] rfl rfl (any_of HT_.out (by kernel_rfl)) (fun _ _ _ h => h) (Or.inl ⟨by rfl, ?_⟩) ?_ ?_
 rotate_left
 ·intro w'; go_simp; with_reducible rfl
 rotate_left
 ·simp only [Act.put, List.setIfInBounds_toArray, List.set_cons_zero, List.set_cons_succ, i64_w, i32_w]; rfl
 refine pure_ (i := 9) (N := some 2) (v := ?_) (a' := ?_) #[true, true, true, true, true, true, true, true, true, true] rfl rfl (any_of HT_.out (by kernel_rfl)) (fun _ _ _ h => h) (Or.inl ⟨by rfl, ?_⟩) ?_ ?_
 rotate_left
 ·intro w'; go_simp; with_reducible rfl
 rotate_left
 ·simp only [Act.put, List.setIfInBounds_toArray, List.set_cons_zero, List.set_cons_succ, i64_w, i32_w]; rfl
 refine done_ (done_of HT_.out (by kernel_rfl)) ?_
 go_wp2
 go_ret
 exact ⟨_, rfl, HR.out, hHeld.2⟩

def message_Right.T28_18 : Bool × List (List Nat × List Nat) := (true, [([], []), ([0], [0]), ([], []), ([2], [2]), ([3], [3]), ([1, 4], [1, 4]), ([5], [5]), ([6, 4, 0, 1, 2, 3, 4, 5, 6], [6])])
def message_Right.B28_18 : List Nat := [0, 1, 0, 4, 12, 31, 63, 127]
theorem message_Right.tab28_18 : rtab .any (opsOf Try.f28 18) = message_Right.T28_18 := by kernel_rfl
theorem message_Right.bits28_18 : waitsOk message_Right.T28_18.2 message_Right.B28_18 = true := by kernel_rfl

set_option maxHeartbeats 8000000 in
set_option maxRecDepth 100000 in
theorem message_Right.thing10 (tr bn bd sn sd v : Int) (ok : Bool) (A8 : Option Addr) (c8 : Nat) (l8 : List S76) (A9 : Option Addr) (c9 : Nat) (l9 : List S92) (A10 : Option Addr) (c10 : Nat) (l10 : List Int) (w : World) (hC : Kd.C (Kd.int .u64) w A10 l10.length l10) (hc : l10.length ≤ c10) (hl : l10.length ≤ 1000) :
  Calls Try.prog 28 #[.agg #[.int .i64 10, .int .u64 tr, .int .u64 bn, .int .u64 bd, .int .u64 sn, .int .u64 sd, .int .i64 v, .bool ok, .slice A8 l8.length c8, .slice A9 l9.length c9, .slice A10 l10.length c10]] w fun e w' => ∃ v1 : Value, e = .returned (.iface 69 (.agg #[.int .u64 tr, v1])) ∧ Kd.R (Kd.int .u64) 22 w' w.heap.size (fun _ => True) v1 l10 ∧ Below w.heap.size w w' := by
 have hu30 := Try.underlying30; have hu24 := Try.underlying24; have hu51 := Try.underlying51; have hu54 := Try.underlying54; have hu57 := Try.underlying57; have hu60 := Try.underlying60; have hu63 := Try.underlying63; have hu66 := Try.underlying66; have hu69 := Try.underlying69; have hcl10 : slices_Clone_uint64_uint64.f l10 = some l10 := if_pos (by omega); have HC := Aside0.mk hC; have HCL := Aside0.mk hcl10; clear hC hcl10
 go_enter Try.func28, Try.ntmps28
 go_wp2_with ((with_reducible refine gate_dst (N := 1) rfl ?_); refine box_event ?hg (N := 1) ?hd (cs := #[.int .i64 10, .int .u64 tr, .int .u64 bn, .int .u64 bd, .int .u64 sn, .int .u64 sd, .int .i64 v, .bool ok, .slice A8 l8.length c8, .slice A9 l9.length c9, .slice A10 l10.length c10]) (t := 30) ?hr ?_; (case hd => rfl); (case hg => rfl); (case hr => (go_simp; done)); intro g hg w1 hbox hb; have HB := Aside0.mk hb; have BK := Aside0.mk hbox; have HGE := Aside0.mk (show w.heap.size ≤ g from Nat.le_of_eq hg.symm); clear hb hbox hg; obtain ⟨hcz_0, hcz_1, hcz_2, hcz_3, hcz_4, hcz_5, hcz_6, hcz_7, hcz_8, hcz_9, hcz_10⟩ := Hand.Cz.c11 BK.out)
 clear hcz_0; clear hcz_1; clear hcz_2; clear hcz_3; clear hcz_4; clear hcz_5; clear hcz_6; clear hcz_7; clear hcz_8; clear hcz_9; clear hcz_10
 refine start_ (n := 8) (S := fun w' => w'.heap[g]? = some (.cells #[.int .i64 10, .int .u64 tr, .int .u64 bn, .int .u64 bd, .int .u64 sn, .int .u64 sd, .int .i64 v, .bool ok, .slice A8 l8.length c8, .slice A9 l9.length c9, .slice A10 l10.length c10] 30 (0, 0)) ∧ Below w.heap.size w w') (ds := []) #[false, false, false, false, false, false, false, false] (by kernel_rfl) rfl rfl ⟨blk_drew BK.out, below_drew1 HB.out⟩ (fun hHeld => ?_)
 refine with_tabW message_Right.tab28_18 message_Right.bits28_18 (fun HT_ HW_ => ?_)
 generalize w1.drew = wd at hHeld ⊢
 refine pure_ (i := 0) (N := some 75) (v := ?_) (a' := ?_) #[true, false, false, false, false, false, false, false] rfl rfl (any_of HT_.out (by kernel_rfl)) (fun _ _ _ h => h) (Or.inl ⟨by rfl, ?_⟩) ?_ ?_
 rotate_left
 ·intro w'; go_simp; with_reducible rfl
 rotate_left
 ·simp only [Act.put, List.setIfInBounds_toArray, List.set_cons_zero, List.set_cons_succ, i64_w, i32_w]; rfl
 refine take_ (i := 1) (N := some 76) (v := ?_) (a' := ?_) #[true, true, false, false, false, false, false, false] rfl rfl (take_ofW HT_.out HW_.out (by kernel_rfl)) (fun _ _ _ h => h) (Or.inl ⟨by rfl, ?_⟩) hHeld ?_ ?_
 rotate_left
 ·rintro w' ⟨E, I⟩
  have z1 : w'.cell? ⟨g, 1, none⟩ = some (.int .u64 tr) := (blk_cell E 1).trans rfl
  go_simp
  with_reducible rfl
 rotate_left
 ·simp only [Act.put, List.setIfInBounds_toArray, List.set_cons_zero, List.set_cons_succ, i64_w, i32_w]; rfl
 refine pure_ (i := 2) (N := some 77) (v := ?_) (a' := ?_) #[true, true, true, false, false, false, false, false] rfl rfl (any_of HT_.out (by kernel_rfl)) (fun _ _ _ h => h) (Or.inl ⟨by rfl, ?_⟩) ?_ ?_
 rotate_left
 ·intro w'; go_simp; with_reducible rfl
 rotate_left
 ·simp only [Act.put, List.setIfInBounds_toArray, List.set_cons_zero, List.set_cons_succ, i64_w, i32_w]; rfl
 refine take_ (i := 3) (N := some 78) (v := ?_) (a' := ?_) #[true, true, true, true, false, false, false, false] rfl rfl (take_ofW HT_.out HW_.out (by kernel_rfl)) (fun _ _ _ h => h) (Or.inl ⟨by rfl, ?_⟩) hHeld ?_ ?_
 rotate_left
 ·rintro w' ⟨E, I⟩
  have z10 : w'.cell? ⟨g, 10, none⟩ = some (.slice A10 l10.length c10) := (blk_cell E 10).trans rfl
  go_simp
  with_reducible rfl
 rotate_left
 ·simp only [Act.put, List.setIfInBounds_toArray, List.set_cons_zero, List.set_cons_succ, i64_w, i32_w]; rfl
 refine one_ (i := 4) (N := some 79) #[true, true, true, true, true, false, false, false] rfl rfl (one_of HT_.out (by kernel_rfl)) (by decide) (fun K hK => ?_)
 refine goes_ Try.func59 (by kernel_rfl) rfl #[.slice A10 l10.length c10] (by rfl) rfl rfl (by (try simp only [List.map_toArray, List.map_cons, List.map_nil]); (rfl)) ?_
 with_reducible refine (slices_Clone_uint64_uint64.calls A10 c10 l10 l10 _ (Kd.C_below HC.out hHeld.2) hc HCL.out).mono ?_
 rintro e w2 ⟨v1, rfl, hR, hb⟩ ; obtain ⟨Av, cv, rfl⟩ := Kd.R_slice hR
 refine ⟨_, rfl, ?_⟩
 have HR := Aside0.mk (Kd.R_lower hR hHeld.2.size); clear hR
 refine hK.out _ _ ⟨blk_below hHeld.1 hb, below_step hHeld.2 hb⟩ (fun hHeld => ?_)
 clear hK K
 refine norm_ (a' := ?_) ?_ ?_
 rotate_left
 ·show Act.put _ (some 79) _ = _; simp only [Act.put, List.setIfInBounds_toArray, List.set_cons_zero, List.set_cons_succ, i64_w, i32_w]; rfl
 refine pure_ (i := 5) (N := some 80) (v := ?_) (a' := ?_) #[true, true, true, true, true, true, false, false] rfl rfl (any_of HT_.out (by kernel_rfl)) (fun _ _ _ h => h) (Or.inl ⟨by rfl, ?_⟩) ?_ ?_
 rotate_left
 ·intro w'; go_simp; with_reducible rfl
 rotate_left
 ·simp only [Act.put, List.setIfInBounds_toArray, List.set_cons_zero, List.set_cons_succ, i64_w, i32_w]; rfl
 refine pure_ (i := 6) (N := some 81) (v := ?_) (a' := ?_) #[true, true, true, true, true, true, true, false] rfl rfl (any_of HT_.out (by kernel_rfl)) (fun _ _ _ h => h) (Or.inl ⟨by rfl, ?_⟩) ?_ ?_
 rotate_left
 ·intro w'; go_simp; with_reducible rfl
 rotate_left
 ·simp only [Act.put, List.setIfInBounds_toArray, List.set_cons_zero, List.set_cons_succ, i64_w, i32_w]; rfl
 refine pure_ (i := 7) (N := some 2) (v := ?_) (a' := ?_) #[true, true, true, true, true, true, true, true] rfl rfl (any_of HT_.out (by kernel_rfl)) (fun _ _ _ h => h) (Or.inl ⟨by rfl, ?_⟩) ?_ ?_
 rotate_left
 ·intro w'; go_simp; with_reducible rfl
 rotate_left
 ·simp only [Act.put, List.setIfInBounds_toArray, List.set_cons_zero, List.set_cons_succ, i64_w, i32_w]; rfl
 refine done_ (done_of HT_.out (by kernel_rfl)) ?_
 go_wp2
 go_ret
 exact ⟨_, rfl, HR.out, hHeld.2⟩

set_option maxHeartbeats 8000000 in
set_option maxRecDepth 100000 in
theorem message_Right.thing0 (kd tr bn bd sn sd v : Int) (ok : Bool) (A8 : Option Addr) (c8 : Nat) (l8 : List S76) (A9 : Option Addr) (c9 : Nat) (l9 : List S92) (A10 : Option Addr) (c10 : Nat) (l10 : List Int) (w : World) (hk : kd < 1 ∨ 10 < kd) :
  Calls Try.prog 28 #[.agg #[.int .i64 kd, .int .u64 tr, .int .u64 bn, .int .u64 bd, .int .u64 sn, .int .u64 sd, .int .i64 v, .bool ok, .slice A8 l8.length c8, .slice A9 l9.length c9, .slice A10 l10.length c10]] w fun e w' => e = .returned .nilIface ∧ Below w.heap.size w w' := by
 have hu30 := Try.underlying30; have hu24 := Try.underlying24; have hu51 := Try.underlying51; have hu54 := Try.underlying54; have hu57 := Try.underlying57; have hu60 := Try.underlying60; have hu63 := Try.underlying63; have hu66 := Try.underlying66; have hu69 := Try.underlying69; have h1 : (kd == 1) = false := beq_eq_false_iff_ne.mpr (by omega); have h2 : (kd == 2) = false := beq_eq_false_iff_ne.mpr (by omega); have h3 : (kd == 3) = false := beq_eq_false_iff_ne.mpr (by omega); have h4 : (kd == 4) = false := beq_eq_false_iff_ne.mpr (by omega); have h5 : (kd == 5) = false := beq_eq_false_iff_ne.mpr (by omega); have h6 : (kd == 6) = false := beq_eq_false_iff_ne.mpr (by omega); have h7 : (kd == 7) = false := beq_eq_false_iff_ne.mpr (by omega); have h8 : (kd == 8) = false := beq_eq_false_iff_ne.mpr (by omega); have h9 : (kd == 9) = false := beq_eq_false_iff_ne.mpr (by omega); have h10 : (kd == 10) = false := beq_eq_false_iff_ne.mpr (by omega)
 go_enter Try.func28, Try.ntmps28
 go_wp2_with ((with_reducible refine gate_dst (N := 1) rfl ?_); refine box_event ?hg (N := 1) ?hd (cs := #[.int .i64 kd, .int .u64 tr, .int .u64 bn, .int .u64 bd, .int .u64 sn, .int .u64 sd, .int .i64 v, .bool ok, .slice A8 l8.length c8, .slice A9 l9.length c9, .slice A10 l10.length c10]) (t := 30) ?hr ?_; (case hd => rfl); (case hg => rfl); (case hr => (go_simp; done)); intro g hg w1 hbox hb; have HB := Aside0.mk hb; have BK := Aside0.mk hbox; have HGE := Aside0.mk (show w.heap.size ≤ g from Nat.le_of_eq hg.symm); clear hb hbox hg; obtain ⟨hcz_0, hcz_1, hcz_2, hcz_3, hcz_4, hcz_5, hcz_6, hcz_7, hcz_8, hcz_9, hcz_10⟩ := Hand.Cz.c11 BK.out)
 go_ret
 exact ⟨rfl, HB.out⟩

theorem message_Right.ta51_51 (x : Value) : ∀ W, (Instr.typeAssert (.iface 51 x) 20 51 true).run Try.prog W = .ok (.tuple #[x, .bool true]) W := fun W => by kernel_rfl
theorem message_Right.ta54_51 (x : Value) : ∀ W, (Instr.typeAssert (.iface 54 x) 20 51 true).run Try.prog W = .ok (.tuple #[.agg #[.int .u64 0, .bool false, .slice none 0 0], .bool false]) W := fun W => by kernel_rfl
theorem message_Right.ta54_54 (x : Value) : ∀ W, (Instr.typeAssert (.iface 54 x) 20 54 true).run Try.prog W = .ok (.tuple #[x, .bool true]) W := fun W => by kernel_rfl
theorem message_Right.ta57_51 (x : Value) : ∀ W, (Instr.typeAssert (.iface 57 x) 20 51 true).run Try.prog W = .ok (.tuple #[.agg #[.int .u64 0, .bool false, .slice none 0 0], .bool false]) W := fun W => by kernel_rfl
theorem message_Right.ta57_54 (x : Value) : ∀ W, (Instr.typeAssert (.iface 57 x) 20 54 true).run Try.prog W = .ok (.tuple #[.agg #[.slice none 0 0], .bool false]) W := fun W => by kernel_rfl
theorem message_Right.ta57_57 (x : Value) : ∀ W, (Instr.typeAssert (.iface 57 x) 20 57 true).run Try.prog W = .ok (.tuple #[x, .bool true]) W := fun W => by kernel_rfl
theorem message_Right.ta60_51 (x : Value) : ∀ W, (Instr.typeAssert (.iface 60 x) 20 51 true).run Try.prog W = .ok (.tuple #[.agg #[.int .u64 0, .bool false, .slice none 0 0], .bool false]) W := fun W => by kernel_rfl
theorem message_Right.ta60_54 (x : Value) : ∀ W, (Instr.typeAssert (.iface 60 x) 20 54 true).run Try.prog W = .ok (.tuple #[.agg #[.slice none 0 0], .bool false]) W := fun W => by kernel_rfl
theorem message_Right.ta60_57 (x : Value) : ∀ W, (Instr.typeAssert (.iface 60 x) 20 57 true).run Try.prog W = .ok (.tuple #[.agg #[.int .u64 0, .int .u64 0, .int .u64 0, .int .i64 0], .bool false]) W := fun W => by kernel_rfl
theorem message_Right.ta60_60 (x : Value) : ∀ W, (Instr.typeAssert (.iface 60 x) 20 60 true).run Try.prog W = .ok (.tuple #[x, .bool true]) W := fun W => by kernel_rfl
theorem message_Right.ta63_51 (x : Value) : ∀ W, (Instr.typeAssert (.iface 63 x) 20 51 true).run Try.prog W = .ok (.tuple #[.agg #[.int .u64 0, .bool false, .slice none 0 0], .bool false]) W := fun W => by kernel_rfl
theorem message_Right.ta63_54 (x : Value) : ∀ W, (Instr.typeAssert (.iface 63 x) 20 54 true).run Try.prog W = .ok (.tuple #[.agg #[.slice none 0 0], .bool false]) W := fun W => by kernel_rfl
theorem message_Right.ta63_57 (x : Value) : ∀ W, (Instr.typeAssert (.iface 63 x) 20 57 true).run Try.prog W = .ok (.tuple #[.agg #[.int .u64 0, .int .u64 0, .int .u64 0, .int .i64 0], .bool false]) W := fun W => by kernel_rfl
theorem message_Right.ta63_60 (x : Value) : ∀ W, (Instr.typeAssert (.iface 63 x) 20 60 true).run Try.prog W = .ok (.tuple #[.agg #[.int .u64 0, .int .u64 0, .int .u64 0, .bool false, .int .u64 0, .int .u64 0, .int .i64 0, .bool false], .bool false]) W := fun W => by kernel_rfl
theorem message_Right.ta63_63 (x : Value) : ∀ W, (Instr.typeAssert (.iface 63 x) 20 63 true).run Try.prog W = .ok (.tuple #[x, .bool true]) W := fun W => by kernel_rfl
theorem message_Right.ta66_51 (x : Value) : ∀ W, (Instr.typeAssert (.iface 66 x) 20 51 true).run Try.prog W = .ok (.tuple #[.agg #[.int .u64 0, .bool false, .slice none 0 0], .bool false]) W := fun W => by kernel_rfl
theorem message_Right.ta66_54 (x : Value) : ∀ W, (Instr.typeAssert (.iface 66 x) 20 54 true).run Try.prog W = .ok (.tuple #[.agg #[.slice none 0 0], .bool false]) W := fun W => by kernel_rfl
theorem message_Right.ta66_57 (x : Value) : ∀ W, (Instr.typeAssert (.iface 66 x) 20 57 true).run Try.prog W = .ok (.tuple #[.agg #[.int .u64 0, .int .u64 0, .int .u64 0, .int .i64 0], .bool false]) W := fun W => by kernel_rfl
theorem message_Right.ta66_60 (x : Value) : ∀ W, (Instr.typeAssert (.iface 66 x) 20 60 true).run Try.prog W = .ok (.tuple #[.agg #[.int .u64 0, .int .u64 0, .int .u64 0, .bool false, .int .u64 0, .int .u64 0, .int .i64 0, .bool false], .bool false]) W := fun W => by kernel_rfl
theorem message_Right.ta66_63 (x : Value) : ∀ W, (Instr.typeAssert (.iface 66 x) 20 63 true).run Try.prog W = .ok (.tuple #[.agg #[.int .u64 0, .int .i64 0], .bool false]) W := fun W => by kernel_rfl
theorem message_Right.ta66_66 (x : Value) : ∀ W, (Instr.typeAssert (.iface 66 x) 20 66 true).run Try.prog W = .ok (.tuple #[x, .bool true]) W := fun W => by kernel_rfl
theorem message_Right.ta69_51 (x : Value) : ∀ W, (Instr.typeAssert (.iface 69 x) 20 51 true).run Try.prog W = .ok (.tuple #[.agg #[.int .u64 0, .bool false, .slice none 0 0], .bool false]) W := fun W => by kernel_rfl
theorem message_Right.ta69_54 (x : Value) : ∀ W, (Instr.typeAssert (.iface 69 x) 20 54 true).run Try.prog W = .ok (.tuple #[.agg #[.slice none 0 0], .bool false]) W := fun W => by kernel_rfl
theorem message_Right.ta69_57 (x : Value) : ∀ W, (Instr.typeAssert (.iface 69 x) 20 57 true).run Try.prog W = .ok (.tuple #[.agg #[.int .u64 0, .int .u64 0, .int .u64 0, .int .i64 0], .bool false]) W := fun W => by kernel_rfl
theorem message_Right.ta69_60 (x : Value) : ∀ W, (Instr.typeAssert (.iface 69 x) 20 60 true).run Try.prog W = .ok (.tuple #[.agg #[.int .u64 0, .int .u64 0, .int .u64 0, .bool false, .int .u64 0, .int .u64 0, .int .i64 0, .bool false], .bool false]) W := fun W => by kernel_rfl
theorem message_Right.ta69_63 (x : Value) : ∀ W, (Instr.typeAssert (.iface 69 x) 20 63 true).run Try.prog W = .ok (.tuple #[.agg #[.int .u64 0, .int .i64 0], .bool false]) W := fun W => by kernel_rfl
theorem message_Right.ta69_66 (x : Value) : ∀ W, (Instr.typeAssert (.iface 69 x) 20 66 true).run Try.prog W = .ok (.tuple #[.agg #[.int .u64 0, .int .u64 0, .int .u64 0, .slice none 0 0], .bool false]) W := fun W => by kernel_rfl
theorem message_Right.ta69_69 (x : Value) : ∀ W, (Instr.typeAssert (.iface 69 x) 20 69 true).run Try.prog W = .ok (.tuple #[x, .bool true]) W := fun W => by kernel_rfl
def message_Right.tB (v : Int) : Bool := decide (1 ≤ v) && decide (v ≤ 3)
def message_Right.zB (a b : Int) : Bool := a == 0 && b == 0
def message_Right.rReply (tr bn : Int) (ok : Bool) (sn sd v : Int) (took : Bool) : Bool :=
 !(tr == 0) && (!(bn == 0) && (bif ok then (bif took then (v == 0 && message_Right.zB sn sd) else (message_Right.tB v && !message_Right.zB sn sd || v == 0 && message_Right.zB sn sd)) else (v == 0 && !message_Right.zB sn sd)))
def message_Right.rAsk (tr bn v : Int) : Bool := decide (0 < tr) && (decide (0 < bn) && (v == 0 || message_Right.tB v))
theorem message_Right.told_eq (v : Int) : message_told.f v = some (message_Right.tB v) := by
 unfold message_told.f message_Right.tB
 by_cases h : 1 ≤ v
 ·rw [if_pos h, decide_eq_true h, Bool.true_and]
 rw [if_neg h, decide_eq_false h, Bool.false_and]
theorem message_Right.ret_bool {a b : Bool} (h : a = b) : Ending.returned (.bool a) = .returned (.bool b) := by rw [h]

set_option maxHeartbeats 8000000 in
set_option maxRecDepth 100000 in
theorem message_Right.right63 (tr v : Int) (w : World) :
  Calls Try.prog 29 #[.iface 63 (.agg #[.int .u64 tr, .int .i64 v])] w fun e w' => e = .returned (.bool (decide (0 < tr) && message_Right.tB v)) ∧ Below w.heap.size w w' := by
 have hu30 := Try.underlying30; have hu24 := Try.underlying24; have hu51 := Try.underlying51; have hu54 := Try.underlying54; have hu57 := Try.underlying57; have hu60 := Try.underlying60; have hu63 := Try.underlying63; have hu66 := Try.underlying66; have hu69 := Try.underlying69; have ta51 := message_Right.ta63_51 (.agg #[.int .u64 tr, .int .i64 v]); have ta54 := message_Right.ta63_54 (.agg #[.int .u64 tr, .int .i64 v]); have ta57 := message_Right.ta63_57 (.agg #[.int .u64 tr, .int .i64 v]); have ta60 := message_Right.ta63_60 (.agg #[.int .u64 tr, .int .i64 v]); have ta63 := message_Right.ta63_63 (.agg #[.int .u64 tr, .int .i64 v])
 all_goals (obtain ⟨hv, hb⟩ : ∃ b : Bool, decide (0 < tr) = b := ⟨_, rfl⟩; cases hv)
 all_goals
  go_enter Try.func29, Try.ntmps29
  go_wp2_with (go_at_call 65; (with_reducible refine (message_told.calls v _ _ (message_Right.told_eq v)).mono ?_); rintro e w2 ⟨rfl, ⟨nd, rfl⟩⟩)
  go_ret
  exact ⟨message_Right.ret_bool (by (simp only [hb, Bool.true_and, Bool.false_and, Bool.and_true, Bool.and_false, Bool.true_or, Bool.false_or, Bool.or_false, Bool.or_true, Bool.not_true, Bool.not_false, cond_true, cond_false]; done)), (by (exact (by repeat (first | exact Below.refl _ _ | (with_reducible apply below_alloc) | (with_reducible apply pw_below_drewN)))))⟩

set_option maxHeartbeats 8000000 in
set_option maxRecDepth 100000 in
theorem message_Right.right57 (tr bn bd v : Int) (w : World) :
  Calls Try.prog 29 #[.iface 57 (.agg #[.int .u64 tr, .int .u64 bn, .int .u64 bd, .int .i64 v])] w fun e w' => e = .returned (.bool (message_Right.rAsk tr bn v)) ∧ Below w.heap.size w w' := by
 have hu30 := Try.underlying30; have hu24 := Try.underlying24; have hu51 := Try.underlying51; have hu54 := Try.underlying54; have hu57 := Try.underlying57; have hu60 := Try.underlying60; have hu63 := Try.underlying63; have hu66 := Try.underlying66; have hu69 := Try.underlying69; have ta51 := message_Right.ta57_51 (.agg #[.int .u64 tr, .int .u64 bn, .int .u64 bd, .int .i64 v]); have ta54 := message_Right.ta57_54 (.agg #[.int .u64 tr, .int .u64 bn, .int .u64 bd, .int .i64 v]); have ta57 := message_Right.ta57_57 (.agg #[.int .u64 tr, .int .u64 bn, .int .u64 bd, .int .i64 v])
 all_goals (obtain ⟨hv, hb⟩ : ∃ b : Bool, decide (0 < tr) = b := ⟨_, rfl⟩; cases hv)
 all_goals (obtain ⟨h1v, h1b⟩ : ∃ b : Bool, decide (0 < bn) = b := ⟨_, rfl⟩; cases h1v)
 all_goals (obtain ⟨h2v, h2c⟩ : ∃ b : Bool, (v == 0) = b := ⟨_, rfl⟩; have h2d : (v != 0) = !h2v := by rw [← h2c]; rfl)
 all_goals (cases h2v <;> simp only [Bool.not_true, Bool.not_false] at h2d)
 all_goals
  go_enter Try.func29, Try.ntmps29
  go_wp2_with (go_at_call 65; (with_reducible refine (message_told.calls v _ _ (message_Right.told_eq v)).mono ?_); rintro e w2 ⟨rfl, ⟨nd, rfl⟩⟩)
  go_ret
  exact ⟨message_Right.ret_bool (by (simp only [message_Right.rAsk, hb, h1b, h2c, Bool.true_and, Bool.false_and, Bool.and_true, Bool.and_false, Bool.true_or, Bool.false_or, Bool.or_false, Bool.or_true, Bool.not_true, Bool.not_false, cond_true, cond_false]; done)), (by (exact (by repeat (first | exact Below.refl _ _ | (with_reducible apply below_alloc) | (with_reducible apply pw_below_drewN)))))⟩

set_option maxHeartbeats 8000000 in
set_option maxRecDepth 100000 in
theorem message_Right.right60 (tr bn bd : Int) (ok : Bool) (sn sd v : Int) (took : Bool) (w : World) :
  Calls Try.prog 29 #[.iface 60 (.agg #[.int .u64 tr, .int .u64 bn, .int .u64 bd, .bool ok, .int .u64 sn, .int .u64 sd, .int .i64 v, .bool took])] w fun e w' => e = .returned (.bool (message_Right.rReply tr bn ok sn sd v took)) ∧ Below w.heap.size w w' := by
 have hu30 := Try.underlying30; have hu24 := Try.underlying24; have hu51 := Try.underlying51; have hu54 := Try.underlying54; have hu57 := Try.underlying57; have hu60 := Try.underlying60; have hu63 := Try.underlying63; have hu66 := Try.underlying66; have hu69 := Try.underlying69; have ta51 := message_Right.ta60_51 (.agg #[.int .u64 tr, .int .u64 bn, .int .u64 bd, .bool ok, .int .u64 sn, .int .u64 sd, .int .i64 v, .bool took]); have ta54 := message_Right.ta60_54 (.agg #[.int .u64 tr, .int .u64 bn, .int .u64 bd, .bool ok, .int .u64 sn, .int .u64 sd, .int .i64 v, .bool took]); have ta57 := message_Right.ta60_57 (.agg #[.int .u64 tr, .int .u64 bn, .int .u64 bd, .bool ok, .int .u64 sn, .int .u64 sd, .int .i64 v, .bool took]); have ta60 := message_Right.ta60_60 (.agg #[.int .u64 tr, .int .u64 bn, .int .u64 bd, .bool ok, .int .u64 sn, .int .u64 sd, .int .i64 v, .bool took])
 obtain ⟨htv, htc⟩ : ∃ b : Bool, (tr == 0) = b := ⟨_, rfl⟩
 have htd : (tr != 0) = !htv := by rw [← htc]; rfl
 cases htv
 ·rw [Bool.not_false] at htd
  obtain ⟨hbv, hbc⟩ : ∃ b : Bool, (bn == 0) = b := ⟨_, rfl⟩
  have hbd : (bn != 0) = !hbv := by rw [← hbc]; rfl
  cases hbv
  ·rw [Bool.not_false] at hbd
   cases ok
   ·obtain ⟨hvv, hvc⟩ : ∃ b : Bool, (v == 0) = b := ⟨_, rfl⟩
    have hvd : (v != 0) = !hvv := by rw [← hvc]; rfl
    cases hvv
    ·rw [Bool.not_false] at hvd
     go_enter Try.func29, Try.ntmps29
     go_wp2_with fail
     go_ret
     exact ⟨message_Right.ret_bool (by simp only [htc, hbc, hvc, message_Right.rReply, Bool.true_and, Bool.false_and, Bool.and_true, Bool.and_false, Bool.true_or, Bool.false_or, Bool.or_false, Bool.or_true, Bool.not_true, Bool.not_false, cond_true, cond_false]), (by repeat (first | exact Below.refl _ _ | (with_reducible apply below_alloc)))⟩
    rw [Bool.not_true] at hvd
    obtain ⟨hsv, hsc⟩ : ∃ b : Bool, (sn == 0) = b := ⟨_, rfl⟩
    have hsd : (sn != 0) = !hsv := by rw [← hsc]; rfl
    cases hsv
    ·rw [Bool.not_false] at hsd
     obtain ⟨hdv, hdc⟩ : ∃ b : Bool, (sd == 0) = b := ⟨_, rfl⟩
     have hdd : (sd != 0) = !hdv := by rw [← hdc]; rfl
     cases hdv
     ·rw [Bool.not_false] at hdd
      go_enter Try.func29, Try.ntmps29
      go_wp2_with fail
      go_ret
      exact ⟨message_Right.ret_bool (by simp only [htc, hbc, hvc, hsc, hdc, message_Right.rReply, message_Right.zB, Bool.true_and, Bool.false_and, Bool.and_true, Bool.and_false, Bool.true_or, Bool.false_or, Bool.or_false, Bool.or_true, Bool.not_true, Bool.not_false, cond_true, cond_false]), (by repeat (first | exact Below.refl _ _ | (with_reducible apply below_alloc)))⟩
     rw [Bool.not_true] at hdd
     go_enter Try.func29, Try.ntmps29
     go_wp2_with fail
     go_ret
     exact ⟨message_Right.ret_bool (by simp only [htc, hbc, hvc, hsc, hdc, message_Right.rReply, message_Right.zB, Bool.true_and, Bool.false_and, Bool.and_true, Bool.and_false, Bool.true_or, Bool.false_or, Bool.or_false, Bool.or_true, Bool.not_true, Bool.not_false, cond_true, cond_false]), (by repeat (first | exact Below.refl _ _ | (with_reducible apply below_alloc)))⟩
    rw [Bool.not_true] at hsd
    obtain ⟨hdv, hdc⟩ : ∃ b : Bool, (sd == 0) = b := ⟨_, rfl⟩
    have hdd : (sd != 0) = !hdv := by rw [← hdc]; rfl
    cases hdv
    ·rw [Bool.not_false] at hdd
     go_enter Try.func29, Try.ntmps29
     go_wp2_with fail
     go_ret
     exact ⟨message_Right.ret_bool (by simp only [htc, hbc, hvc, hsc, hdc, message_Right.rReply, message_Right.zB, Bool.true_and, Bool.false_and, Bool.and_true, Bool.and_false, Bool.true_or, Bool.false_or, Bool.or_false, Bool.or_true, Bool.not_true, Bool.not_false, cond_true, cond_false]), (by repeat (first | exact Below.refl _ _ | (with_reducible apply below_alloc)))⟩
    rw [Bool.not_true] at hdd
    go_enter Try.func29, Try.ntmps29
    go_wp2_with fail
    go_ret
    exact ⟨message_Right.ret_bool (by simp only [htc, hbc, hvc, hsc, hdc, message_Right.rReply, message_Right.zB, Bool.true_and, Bool.false_and, Bool.and_true, Bool.and_false, Bool.true_or, Bool.false_or, Bool.or_false, Bool.or_true, Bool.not_true, Bool.not_false, cond_true, cond_false]), (by repeat (first | exact Below.refl _ _ | (with_reducible apply below_alloc)))⟩
   cases took
   ·obtain ⟨hTv, hTb⟩ : ∃ b : Bool, message_Right.tB v = b := ⟨_, rfl⟩
    cases hTv
    ·obtain ⟨hvv, hvc⟩ : ∃ b : Bool, (v == 0) = b := ⟨_, rfl⟩
     have hvd : (v != 0) = !hvv := by rw [← hvc]; rfl
     cases hvv
     ·rw [Bool.not_false] at hvd
      go_enter Try.func29, Try.ntmps29
      go_wp2_with (go_at_call 65; (with_reducible refine (message_told.calls v _ _ ((message_Right.told_eq v).trans (congrArg some hTb))).mono ?_); rintro e w2 ⟨rfl, ⟨nd, rfl⟩⟩)
      go_ret
      exact ⟨message_Right.ret_bool (by simp only [htc, hbc, hTb, hvc, message_Right.rReply, Bool.true_and, Bool.false_and, Bool.and_true, Bool.and_false, Bool.true_or, Bool.false_or, Bool.or_false, Bool.or_true, Bool.not_true, Bool.not_false, cond_true, cond_false]), (by repeat (first | exact Below.refl _ _ | (with_reducible apply below_alloc) | (with_reducible apply pw_below_drewN)))⟩
     rw [Bool.not_true] at hvd
     obtain ⟨hsv, hsc⟩ : ∃ b : Bool, (sn == 0) = b := ⟨_, rfl⟩
     have hsd : (sn != 0) = !hsv := by rw [← hsc]; rfl
     cases hsv
     ·rw [Bool.not_false] at hsd
      obtain ⟨hdv, hdc⟩ : ∃ b : Bool, (sd == 0) = b := ⟨_, rfl⟩
      have hdd : (sd != 0) = !hdv := by rw [← hdc]; rfl
      cases hdv
      ·rw [Bool.not_false] at hdd
       go_enter Try.func29, Try.ntmps29
       go_wp2_with (go_at_call 65; (with_reducible refine (message_told.calls v _ _ ((message_Right.told_eq v).trans (congrArg some hTb))).mono ?_); rintro e w2 ⟨rfl, ⟨nd, rfl⟩⟩)
       go_ret
       exact ⟨message_Right.ret_bool (by simp only [htc, hbc, hTb, hvc, hsc, hdc, message_Right.rReply, message_Right.zB, Bool.true_and, Bool.false_and, Bool.and_true, Bool.and_false, Bool.true_or, Bool.false_or, Bool.or_false, Bool.or_true, Bool.not_true, Bool.not_false, cond_true, cond_false]), (by repeat (first | exact Below.refl _ _ | (with_reducible apply below_alloc) | (with_reducible apply pw_below_drewN)))⟩
      rw [Bool.not_true] at hdd
      go_enter Try.func29, Try.ntmps29
      go_wp2_with (go_at_call 65; (with_reducible refine (message_told.calls v _ _ ((message_Right.told_eq v).trans (congrArg some hTb))).mono ?_); rintro e w2 ⟨rfl, ⟨nd, rfl⟩⟩)
      go_ret
      exact ⟨message_Right.ret_bool (by simp only [htc, hbc, hTb, hvc, hsc, hdc, message_Right.rReply, message_Right.zB, Bool.true_and, Bool.false_and, Bool.and_true, Bool.and_false, Bool.true_or, Bool.false_or, Bool.or_false, Bool.or_true, Bool.not_true, Bool.not_false, cond_true, cond_false]), (by repeat (first | exact Below.refl _ _ | (with_reducible apply below_alloc) | (with_reducible apply pw_below_drewN)))⟩
     rw [Bool.not_true] at hsd
     obtain ⟨hdv, hdc⟩ : ∃ b : Bool, (sd == 0) = b := ⟨_, rfl⟩
     have hdd : (sd != 0) = !hdv := by rw [← hdc]; rfl
     cases hdv
     ·rw [Bool.not_false] at hdd
      go_enter Try.func29, Try.ntmps29
      go_wp2_with (go_at_call 65; (with_reducible refine (message_told.calls v _ _ ((message_Right.told_eq v).trans (congrArg some hTb))).mono ?_); rintro e w2 ⟨rfl, ⟨nd, rfl⟩⟩)
      go_ret
      exact ⟨message_Right.ret_bool (by simp only [htc, hbc, hTb, hvc, hsc, hdc, message_Right.rReply, message_Right.zB, Bool.true_and, Bool.false_and, Bool.and_true, Bool.and_false, Bool.true_or, Bool.false_or, Bool.or_false, Bool.or_true, Bool.not_true, Bool.not_false, cond_true, cond_false]), (by repeat (first | exact Below.refl _ _ | (with_reducible apply below_alloc) | (with_reducible apply pw_below_drewN)))⟩
     rw [Bool.not_true] at hdd
     go_enter Try.func29, Try.ntmps29
     go_wp2_with (go_at_call 65; (with_reducible refine (message_told.calls v _ _ ((message_Right.told_eq v).trans (congrArg some hTb))).mono ?_); rintro e w2 ⟨rfl, ⟨nd, rfl⟩⟩)
     go_ret
     exact ⟨message_Right.ret_bool (by simp only [htc, hbc, hTb, hvc, hsc, hdc, message_Right.rReply, message_Right.zB, Bool.true_and, Bool.false_and, Bool.and_true, Bool.and_false, Bool.true_or, Bool.false_or, Bool.or_false, Bool.or_true, Bool.not_true, Bool.not_false, cond_true, cond_false]), (by repeat (first | exact Below.refl _ _ | (with_reducible apply below_alloc) | (with_reducible apply pw_below_drewN)))⟩
    obtain ⟨hsv, hsc⟩ : ∃ b : Bool, (sn == 0) = b := ⟨_, rfl⟩
    have hsd : (sn != 0) = !hsv := by rw [← hsc]; rfl
    cases hsv
    ·rw [Bool.not_false] at hsd
     obtain ⟨hdv, hdc⟩ : ∃ b : Bool, (sd == 0) = b := ⟨_, rfl⟩
     have hdd : (sd != 0) = !hdv := by rw [← hdc]; rfl
     cases hdv
     ·rw [Bool.not_false] at hdd
      go_enter Try.func29, Try.ntmps29
      go_wp2_with (go_at_call 65; (with_reducible refine (message_told.calls v _ _ ((message_Right.told_eq v).trans (congrArg some hTb))).mono ?_); rintro e w2 ⟨rfl, ⟨nd, rfl⟩⟩)
      go_ret
      exact ⟨message_Right.ret_bool (by simp only [htc, hbc, hTb, hsc, hdc, message_Right.rReply, message_Right.zB, Bool.true_and, Bool.false_and, Bool.and_true, Bool.and_false, Bool.true_or, Bool.false_or, Bool.or_false, Bool.or_true, Bool.not_true, Bool.not_false, cond_true, cond_false]), (by repeat (first | exact Below.refl _ _ | (with_reducible apply below_alloc) | (with_reducible apply pw_below_drewN)))⟩
     rw [Bool.not_true] at hdd
     go_enter Try.func29, Try.ntmps29
     go_wp2_with (go_at_call 65; (with_reducible refine (message_told.calls v _ _ ((message_Right.told_eq v).trans (congrArg some hTb))).mono ?_); rintro e w2 ⟨rfl, ⟨nd, rfl⟩⟩)
     go_ret
     exact ⟨message_Right.ret_bool (by simp only [htc, hbc, hTb, hsc, hdc, message_Right.rReply, message_Right.zB, Bool.true_and, Bool.false_and, Bool.and_true, Bool.and_false, Bool.true_or, Bool.false_or, Bool.or_false, Bool.or_true, Bool.not_true, Bool.not_false, cond_true, cond_false]), (by repeat (first | exact Below.refl _ _ | (with_reducible apply below_alloc) | (with_reducible apply pw_below_drewN)))⟩
    rw [Bool.not_true] at hsd
    obtain ⟨hdv, hdc⟩ : ∃ b : Bool, (sd == 0) = b := ⟨_, rfl⟩
    have hdd : (sd != 0) = !hdv := by rw [← hdc]; rfl
    cases hdv
    ·rw [Bool.not_false] at hdd
     go_enter Try.func29, Try.ntmps29
     go_wp2_with (go_at_call 65; (with_reducible refine (message_told.calls v _ _ ((message_Right.told_eq v).trans (congrArg some hTb))).mono ?_); rintro e w2 ⟨rfl, ⟨nd, rfl⟩⟩)
     go_ret
     exact ⟨message_Right.ret_bool (by simp only [htc, hbc, hTb, hsc, hdc, message_Right.rReply, message_Right.zB, Bool.true_and, Bool.false_and, Bool.and_true, Bool.and_false, Bool.true_or, Bool.false_or, Bool.or_false, Bool.or_true, Bool.not_true, Bool.not_false, cond_true, cond_false]), (by repeat (first | exact Below.refl _ _ | (with_reducible apply below_alloc) | (with_reducible apply pw_below_drewN)))⟩
    rw [Bool.not_true] at hdd
    obtain ⟨hvv, hvc⟩ : ∃ b : Bool, (v == 0) = b := ⟨_, rfl⟩
    have hvd : (v != 0) = !hvv := by rw [← hvc]; rfl
    cases hvv
    ·rw [Bool.not_false] at hvd
     go_enter Try.func29, Try.ntmps29
     go_wp2_with (go_at_call 65; (with_reducible refine (message_told.calls v _ _ ((message_Right.told_eq v).trans (congrArg some hTb))).mono ?_); rintro e w2 ⟨rfl, ⟨nd, rfl⟩⟩)
     go_ret
     exact ⟨message_Right.ret_bool (by simp only [htc, hbc, hTb, hsc, hdc, hvc, message_Right.rReply, message_Right.zB, Bool.true_and, Bool.false_and, Bool.and_true, Bool.and_false, Bool.true_or, Bool.false_or, Bool.or_false, Bool.or_true, Bool.not_true, Bool.not_false, cond_true, cond_false]), (by repeat (first | exact Below.refl _ _ | (with_reducible apply below_alloc) | (with_reducible apply pw_below_drewN)))⟩
    rw [Bool.not_true] at hvd
    go_enter Try.func29, Try.ntmps29
    go_wp2_with (go_at_call 65; (with_reducible refine (message_told.calls v _ _ ((message_Right.told_eq v).trans (congrArg some hTb))).mono ?_); rintro e w2 ⟨rfl, ⟨nd, rfl⟩⟩)
    go_ret
    exact ⟨message_Right.ret_bool (by simp only [htc, hbc, hTb, hsc, hdc, hvc, message_Right.rReply, message_Right.zB, Bool.true_and, Bool.false_and, Bool.and_true, Bool.and_false, Bool.true_or, Bool.false_or, Bool.or_false, Bool.or_true, Bool.not_true, Bool.not_false, cond_true, cond_false]), (by repeat (first | exact Below.refl _ _ | (with_reducible apply below_alloc) | (with_reducible apply pw_below_drewN)))⟩
   obtain ⟨hvv, hvc⟩ : ∃ b : Bool, (v == 0) = b := ⟨_, rfl⟩
   have hvd : (v != 0) = !hvv := by rw [← hvc]; rfl
   cases hvv
   ·rw [Bool.not_false] at hvd
    go_enter Try.func29, Try.ntmps29
    go_wp2_with fail
    go_ret
    exact ⟨message_Right.ret_bool (by simp only [htc, hbc, hvc, message_Right.rReply, Bool.true_and, Bool.false_and, Bool.and_true, Bool.and_false, Bool.true_or, Bool.false_or, Bool.or_false, Bool.or_true, Bool.not_true, Bool.not_false, cond_true, cond_false]), (by repeat (first | exact Below.refl _ _ | (with_reducible apply below_alloc)))⟩
   rw [Bool.not_true] at hvd
   obtain ⟨hsv, hsc⟩ : ∃ b : Bool, (sn == 0) = b := ⟨_, rfl⟩
   have hsd : (sn != 0) = !hsv := by rw [← hsc]; rfl
   cases hsv
   ·rw [Bool.not_false] at hsd
    obtain ⟨hdv, hdc⟩ : ∃ b : Bool, (sd == 0) = b := ⟨_, rfl⟩
    have hdd : (sd != 0) = !hdv := by rw [← hdc]; rfl
    cases hdv
    ·rw [Bool.not_false] at hdd
     go_enter Try.func29, Try.ntmps29
     go_wp2_with fail
     go_ret
     exact ⟨message_Right.ret_bool (by simp only [htc, hbc, hvc, hsc, hdc, message_Right.rReply, message_Right.zB, Bool.true_and, Bool.false_and, Bool.and_true, Bool.and_false, Bool.true_or, Bool.false_or, Bool.or_false, Bool.or_true, Bool.not_true, Bool.not_false, cond_true, cond_false]), (by repeat (first | exact Below.refl _ _ | (with_reducible apply below_alloc)))⟩
    rw [Bool.not_true] at hdd
    go_enter Try.func29, Try.ntmps29
    go_wp2_with fail
    go_ret
    exact ⟨message_Right.ret_bool (by simp only [htc, hbc, hvc, hsc, hdc, message_Right.rReply, message_Right.zB, Bool.true_and, Bool.false_and, Bool.and_true, Bool.and_false, Bool.true_or, Bool.false_or, Bool.or_false, Bool.or_true, Bool.not_true, Bool.not_false, cond_true, cond_false]), (by repeat (first | exact Below.refl _ _ | (with_reducible apply below_alloc)))⟩
   rw [Bool.not_true] at hsd
   obtain ⟨hdv, hdc⟩ : ∃ b : Bool, (sd == 0) = b := ⟨_, rfl⟩
   have hdd : (sd != 0) = !hdv := by rw [← hdc]; rfl
   cases hdv
   ·rw [Bool.not_false] at hdd
    go_enter Try.func29, Try.ntmps29
    go_wp2_with fail
    go_ret
    exact ⟨message_Right.ret_bool (by simp only [htc, hbc, hvc, hsc, hdc, message_Right.rReply, message_Right.zB, Bool.true_and, Bool.false_and, Bool.and_true, Bool.and_false, Bool.true_or, Bool.false_or, Bool.or_false, Bool.or_true, Bool.not_true, Bool.not_false, cond_true, cond_false]), (by repeat (first | exact Below.refl _ _ | (with_reducible apply below_alloc)))⟩
   rw [Bool.not_true] at hdd
   go_enter Try.func29, Try.ntmps29
   go_wp2_with fail
   go_ret
   exact ⟨message_Right.ret_bool (by simp only [htc, hbc, hvc, hsc, hdc, message_Right.rReply, message_Right.zB, Bool.true_and, Bool.false_and, Bool.and_true, Bool.and_false, Bool.true_or, Bool.false_or, Bool.or_false, Bool.or_true, Bool.not_true, Bool.not_false, cond_true, cond_false]), (by repeat (first | exact Below.refl _ _ | (with_reducible apply below_alloc)))⟩
  rw [Bool.not_true] at hbd
  go_enter Try.func29, Try.ntmps29
  go_wp2_with fail
  go_ret
  exact ⟨message_Right.ret_bool (by simp only [htc, hbc, message_Right.rReply, Bool.true_and, Bool.false_and, Bool.and_true, Bool.and_false, Bool.true_or, Bool.false_or, Bool.or_false, Bool.or_true, Bool.not_true, Bool.not_false, cond_true, cond_false]), (by repeat (first | exact Below.refl _ _ | (with_reducible apply below_alloc)))⟩
 rw [Bool.not_true] at htd
 go_enter Try.func29, Try.ntmps29
 go_wp2_with fail
 go_ret
 exact ⟨message_Right.ret_bool (by simp only [htc, message_Right.rReply, Bool.true_and, Bool.false_and, Bool.and_true, Bool.and_false, Bool.true_or, Bool.false_or, Bool.or_false, Bool.or_true, Bool.not_true, Bool.not_false, cond_true, cond_false]), (by repeat (first | exact Below.refl _ _ | (with_reducible apply below_alloc)))⟩

set_option maxHeartbeats 8000000 in
set_option maxRecDepth 100000 in
theorem message_Right.right51 (tr : Int) (hd : Bool) (A : Option Addr) (c : Nat) (l : List S76) (w : World) (hC : Kd.C k76 w A l.length l) (hc : l.length ≤ c) (b : Bool) (hs : message_spans.f tr l = some b) :
  Calls Try.prog 29 #[.iface 51 (.agg #[.int .u64 tr, .bool hd, .slice A l.length c])] w fun e w' => e = .returned (.bool (decide (0 < tr) && b)) ∧ Below w.heap.size w w' := by
 have hu30 := Try.underlying30; have hu24 := Try.underlying24; have hu51 := Try.underlying51; have hu54 := Try.underlying54; have hu57 := Try.underlying57; have hu60 := Try.underlying60; have hu63 := Try.underlying63; have hu66 := Try.underlying66; have hu69 := Try.underlying69; have ta51 := message_Right.ta51_51 (.agg #[.int .u64 tr, .bool hd, .slice A l.length c]); have HC := Aside0.mk hC; have HS := Aside0.mk hs; clear hC hs
 all_goals (obtain ⟨hv, hb⟩ : ∃ b : Bool, decide (0 < tr) = b := ⟨_, rfl⟩; cases hv)
 all_goals
  go_enter Try.func29, Try.ntmps29
  go_wp2_with (go_at_call 60; (with_reducible refine (message_spans.calls tr A c l b _ (Kd.C_below HC.out (show Below w.heap.size w _ from (by repeat (first | exact Below.refl _ _ | (with_reducible apply below_alloc))))) hc HS.out).mono ?_); rintro e w2 ⟨rfl, hb⟩; have HB2 := Aside0.mk (show Below w.heap.size w w2 from below_step (by repeat (first | exact Below.refl _ _ | (with_reducible apply below_alloc))) hb); clear hb)
  go_ret
  exact ⟨message_Right.ret_bool (by (simp only [hb, Bool.true_and, Bool.false_and, Bool.and_true, Bool.and_false, Bool.true_or, Bool.false_or, Bool.or_false, Bool.or_true, Bool.not_true, Bool.not_false, cond_true, cond_false]; done)), (by first | exact HB2.out | exact (by repeat (first | exact Below.refl _ _ | (with_reducible apply below_alloc))))⟩

set_option maxHeartbeats 8000000 in
set_option maxRecDepth 100000 in
theorem message_Right.right66 (tr bn bd : Int) (A : Option Addr) (c : Nat) (l : List S76) (w : World) (hC : Kd.C k76 w A l.length l) (hc : l.length ≤ c) (b : Bool) (hs : message_spans.f tr l = some b) :
  Calls Try.prog 29 #[.iface 66 (.agg #[.int .u64 tr, .int .u64 bn, .int .u64 bd, .slice A l.length c])] w fun e w' => e = .returned (.bool (decide (0 < tr) && (decide (0 < bn) && b))) ∧ Below w.heap.size w w' := by
 have hu30 := Try.underlying30; have hu24 := Try.underlying24; have hu51 := Try.underlying51; have hu54 := Try.underlying54; have hu57 := Try.underlying57; have hu60 := Try.underlying60; have hu63 := Try.underlying63; have hu66 := Try.underlying66; have hu69 := Try.underlying69; have ta51 := message_Right.ta66_51 (.agg #[.int .u64 tr, .int .u64 bn, .int .u64 bd, .slice A l.length c]); have ta54 := message_Right.ta66_54 (.agg #[.int .u64 tr, .int .u64 bn, .int .u64 bd, .slice A l.length c]); have ta57 := message_Right.ta66_57 (.agg #[.int .u64 tr, .int .u64 bn, .int .u64 bd, .slice A l.length c]); have ta60 := message_Right.ta66_60 (.agg #[.int .u64 tr, .int .u64 bn, .int .u64 bd, .slice A l.length c]); have ta63 := message_Right.ta66_63 (.agg #[.int .u64 tr, .int .u64 bn, .int .u64 bd, .slice A l.length c]); have ta66 := message_Right.ta66_66 (.agg #[.int .u64 tr, .int .u64 bn, .int .u64 bd, .slice A l.length c]); have HC := Aside0.mk hC; have HS := Aside0.mk hs; clear hC hs
 all_goals (obtain ⟨hv, hb⟩ : ∃ b : Bool, decide (0 < tr) = b := ⟨_, rfl⟩; cases hv)
 all_goals (obtain ⟨h1v, h1b⟩ : ∃ b : Bool, decide (0 < bn) = b := ⟨_, rfl⟩; cases h1v)
 all_goals
  go_enter Try.func29, Try.ntmps29
  go_wp2_with (go_at_call 60; (with_reducible refine (message_spans.calls tr A c l b _ (Kd.C_below HC.out (show Below w.heap.size w _ from (by repeat (first | exact Below.refl _ _ | (with_reducible apply below_alloc))))) hc HS.out).mono ?_); rintro e w2 ⟨rfl, hb⟩; have HB2 := Aside0.mk (show Below w.heap.size w w2 from below_step (by repeat (first | exact Below.refl _ _ | (with_reducible apply below_alloc))) hb); clear hb)
  go_ret
  exact ⟨message_Right.ret_bool (by (simp only [hb, h1b, Bool.true_and, Bool.false_and, Bool.and_true, Bool.and_false, Bool.true_or, Bool.false_or, Bool.or_false, Bool.or_true, Bool.not_true, Bool.not_false, cond_true, cond_false]; done)), (by first | exact HB2.out | exact (by repeat (first | exact Below.refl _ _ | (with_reducible apply below_alloc))))⟩

set_option maxHeartbeats 8000000 in
set_option maxRecDepth 100000 in
theorem message_Right.right69 (tr : Int) (A : Option Addr) (c : Nat) (l : List Int) (w : World) (hC : Kd.C (Kd.int .u64) w A l.length l) (hc : l.length ≤ c) (K : Nat) (b : Bool) (hs : message_rise_uint64.f K l 16 = some b) :
  Calls Try.prog 29 #[.iface 69 (.agg #[.int .u64 tr, .slice A l.length c])] w fun e w' => e = .returned (.bool (decide (0 < tr) && b)) ∧ Below w.heap.size w w' := by
 have hu30 := Try.underlying30; have hu24 := Try.underlying24; have hu51 := Try.underlying51; have hu54 := Try.underlying54; have hu57 := Try.underlying57; have hu60 := Try.underlying60; have hu63 := Try.underlying63; have hu66 := Try.underlying66; have hu69 := Try.underlying69; have ta51 := message_Right.ta69_51 (.agg #[.int .u64 tr, .slice A l.length c]); have ta54 := message_Right.ta69_54 (.agg #[.int .u64 tr, .slice A l.length c]); have ta57 := message_Right.ta69_57 (.agg #[.int .u64 tr, .slice A l.length c]); have ta60 := message_Right.ta69_60 (.agg #[.int .u64 tr, .slice A l.length c]); have ta63 := message_Right.ta69_63 (.agg #[.int .u64 tr, .slice A l.length c]); have ta66 := message_Right.ta69_66 (.agg #[.int .u64 tr, .slice A l.length c]); have ta69 := message_Right.ta69_69 (.agg #[.int .u64 tr, .slice A l.length c]); have HC := Aside0.mk hC; have HS := Aside0.mk hs; clear hC hs
 all_goals (obtain ⟨hv, hb⟩ : ∃ b : Bool, decide (0 < tr) = b := ⟨_, rfl⟩; cases hv)
 all_goals
  go_enter Try.func29, Try.ntmps29
  go_wp2_with (go_at_call 66; (with_reducible refine (message_rise_uint64.calls K A c l 16 b _ (Kd.C_below HC.out (show Below w.heap.size w _ from (by repeat (first | exact Below.refl _ _ | (with_reducible apply below_alloc))))) hc HS.out).mono ?_); rintro e w2 ⟨rfl, hb⟩; have HB2 := Aside0.mk (show Below w.heap.size w w2 from below_step (by repeat (first | exact Below.refl _ _ | (with_reducible apply below_alloc))) hb); clear hb)
  go_ret
  exact ⟨message_Right.ret_bool (by (simp only [hb, Bool.true_and, Bool.false_and, Bool.and_true, Bool.and_false, Bool.true_or, Bool.false_or, Bool.or_false, Bool.or_true, Bool.not_true, Bool.not_false, cond_true, cond_false]; done)), (by first | exact HB2.out | exact (by repeat (first | exact Below.refl _ _ | (with_reducible apply below_alloc))))⟩

set_option maxHeartbeats 8000000 in
set_option maxRecDepth 100000 in
theorem message_Right.right54 (A : Option Addr) (c : Nat) (l : List S92) (w : World) (hC : Kd.C k92 w A l.length l) (hc : l.length ≤ c) (K : Nat) (b b2 : Bool) (hs : api_Member_62.f K l 16 = some b) (hs2 : api_Member_64.f K l = some b2) :
  Calls Try.prog 29 #[.iface 54 (.agg #[.slice A l.length c])] w fun e w' => e = .returned (.bool (b && !b2)) ∧ Below w.heap.size w w' := by
 have hu30 := Try.underlying30; have hu24 := Try.underlying24; have hu51 := Try.underlying51; have hu54 := Try.underlying54; have hu57 := Try.underlying57; have hu60 := Try.underlying60; have hu63 := Try.underlying63; have hu66 := Try.underlying66; have hu69 := Try.underlying69; have ta51 := message_Right.ta54_51 (.agg #[.slice A l.length c]); have ta54 := message_Right.ta54_54 (.agg #[.slice A l.length c]); have HC := Aside0.mk hC; have HS := Aside0.mk hs; clear hC hs; have HS2 := Aside0.mk hs2; clear hs2
 all_goals cases b
 all_goals
  go_enter Try.func29, Try.ntmps29
  go_wp2_with (first | (go_at_call 62; (with_reducible refine (api_Member_62.calls K A c l 16 _ _ (Kd.C_below HC.out (show Below w.heap.size w _ from (by repeat (first | exact Below.refl _ _ | (with_reducible apply below_alloc))))) hc HS.out).mono ?_); rintro e w2 ⟨rfl, hb⟩; have HB2 := Aside0.mk (show Below w.heap.size w w2 from below_step (by repeat (first | exact Below.refl _ _ | (with_reducible apply below_alloc))) hb); have hcc : w2.cell? ⟨w.heap.size + 1, 0, none⟩ = some (.slice A l.length c) := (hb.cell (p := ⟨w.heap.size + 1, 0, none⟩) (by simp)).trans (by go_simp); clear hb) | (go_at_call 64; (with_reducible refine (api_Member_64.calls K A c l b2 _ (Kd.C_below HC.out HB2.out) hc HS2.out).mono ?_); rintro e w3 ⟨rfl, hb⟩; have HB3 := Aside0.mk (show Below w.heap.size w w3 from below_step HB2.out hb); clear hb))
  go_ret
  exact ⟨message_Right.ret_bool (by (simp only [Bool.true_and, Bool.false_and, Bool.and_true, Bool.and_false, Bool.true_or, Bool.false_or, Bool.or_false, Bool.or_true, Bool.not_true, Bool.not_false, cond_true, cond_false]; done)), (by first | exact HB3.out | exact HB2.out)⟩

set_option maxHeartbeats 8000000 in
set_option maxRecDepth 100000 in
theorem message_Right.packet63 (tr v : Int) (w : World) :
  Calls Try.prog 31 #[.iface 63 (.agg #[.int .u64 tr, .int .i64 v])] w fun e w' => e = .returned (.agg #[.int .i64 8, .int .u64 tr, .int .u64 0, .int .u64 0, .int .u64 0, .int .u64 0, .int .i64 v, .bool false, .slice none 0 0, .slice none 0 0, .slice none 0 0]) ∧ Below w.heap.size w w' := by
 have hu30 := Try.underlying30; have hu24 := Try.underlying24; have hu51 := Try.underlying51; have hu54 := Try.underlying54; have hu57 := Try.underlying57; have hu60 := Try.underlying60; have hu63 := Try.underlying63; have hu66 := Try.underlying66; have hu69 := Try.underlying69; have ta51 := message_Right.ta63_51 (.agg #[.int .u64 tr, .int .i64 v]); have ta54 := message_Right.ta63_54 (.agg #[.int .u64 tr, .int .i64 v]); have ta57 := message_Right.ta63_57 (.agg #[.int .u64 tr, .int .i64 v]); have ta60 := message_Right.ta63_60 (.agg #[.int .u64 tr, .int .i64 v]); have ta63 := message_Right.ta63_63 (.agg #[.int .u64 tr, .int .i64 v])
 go_enter Try.func31, Try.ntmps31
 go_upto_region 22 with (first | ((with_reducible refine gate_dst (N := 2) rfl ?_); refine box_event ?hg (N := 2) ?hd (cs := #[.int .i64 0, .int .u64 0, .int .u64 0, .int .u64 0, .int .u64 0, .int .u64 0, .int .i64 0, .bool false, .slice none 0 0, .slice none 0 0, .slice none 0 0]) (t := 30) ?hr ?_; (case hd => rfl); (case hg => rfl); (case hr => (go_simp; done)); intro gp hg w1 hbox hb; have HGP := Aside0.mk (show w.heap.size ≤ gp from Nat.le_of_eq hg.symm); have BP1 := Aside0.mk hbox; have HB1 := Aside0.mk hb; have HLT := Aside0.mk (show gp < w1.heap.size from blk_lt hbox); clear hg hbox hb) | ((with_reducible refine gate_dst (N := 7) rfl ?_); refine box_event ?hg (N := 7) ?hd (cs := #[.int .u64 0, .int .i64 0]) (t := 63) ?hr ?_; (case hd => rfl); (case hg => rfl); (case hr => (go_simp; done)); intro gx hg w2 hbox hb; have hne : gp ≠ gx := (by have := HLT.out; omega); have hne2 : gx ≠ gp := hne.symm; have HGX := Aside0.mk (show w.heap.size ≤ gx from by have := HLT.out; have := HGP.out; omega); have BX2 := Aside0.mk hbox; have BP2 := Aside0.mk (blk_below BP1.out hb); have HB2 := Aside0.mk (below_step HB1.out hb); clear hg hbox hb BP1 HB1; obtain ⟨hxz_0, hxz_1⟩ := Hand.Cz.c2 BX2.out; obtain ⟨hxf_0, hxf_1⟩ := Hand.Cz.f2 BX2.out))
 generalize hW1 : World.setCell _ (Addr.mk gx 1 none) _ = W1
 have BX := Aside0.mk (show W1.heap[gx]? = some (.cells #[.int .u64 tr, .int .i64 v] 63 (0, 0)) from by rw [← hW1]; exact Hand.Cz.p2 BX2.out)
 have BP := Aside0.mk (show W1.heap[gp]? = some (.cells #[.int .i64 0, .int .u64 0, .int .u64 0, .int .u64 0, .int .u64 0, .int .u64 0, .int .i64 0, .bool false, .slice none 0 0, .slice none 0 0, .slice none 0 0] 30 (0, 0)) from by rw [← hW1]; exact (Hand.Cz.o2 BP2.out hne))
 have HB := Aside0.mk (show Below w.heap.size w W1 from by rw [← hW1]; exact (Hand.Cz.b2 HB2.out HGX.out))
 clear hW1 BX2 BP2 HB2 hxz_0 hxf_0 hxz_1 hxf_1
 obtain ⟨hx_0, hx_1⟩ := Hand.Cz.c2 BX.out
 obtain ⟨hp_0, hp_1, hp_2, hp_3, hp_4, hp_5, hp_6, hp_7, hp_8, hp_9, hp_10⟩ := Hand.Cz.c11 BP.out
 obtain ⟨hf_0, hf_1, hf_2, hf_3, hf_4, hf_5, hf_6, hf_7, hf_8, hf_9, hf_10⟩ := Hand.Cz.f11 BP.out
 go_upto_region 29 with fail
 generalize hW2 : World.setCell _ (Addr.mk gp 10 none) _ = W2
 have BQ := Aside0.mk (show W2.heap[gp]? = some (.cells #[.int .i64 8, .int .u64 tr, .int .u64 0, .int .u64 0, .int .u64 0, .int .u64 0, .int .i64 v, .bool false, .slice none 0 0, .slice none 0 0, .slice none 0 0] 30 (0, 0)) from by rw [← hW2]; exact Hand.Cz.p11 BP.out)
 have HBQ := Aside0.mk (show Below w.heap.size w W2 from by rw [← hW2]; exact (Hand.Cz.b11 HB.out HGP.out))
 clear hW2 BX BP HB hp_0 hf_0 hp_1 hf_1 hp_2 hf_2 hp_3 hf_3 hp_4 hf_4 hp_5 hf_5 hp_6 hf_6 hp_7 hf_7 hp_8 hf_8 hp_9 hf_9 hp_10 hf_10 hx_0 hx_1
 obtain ⟨hq_0, hq_1, hq_2, hq_3, hq_4, hq_5, hq_6, hq_7, hq_8, hq_9, hq_10⟩ := Hand.Cz.c11 BQ.out
 obtain ⟨hg_0, hg_1, hg_2, hg_3, hg_4, hg_5, hg_6, hg_7, hg_8, hg_9, hg_10⟩ := Hand.Cz.f11 BQ.out
 go_wp2
 refine bodyPost_ret (results_cell_row rfl _ _ gp 30 #[.int .i64 8, .int .u64 tr, .int .u64 0, .int .u64 0, .int .u64 0, .int .u64 0, .int .i64 v, .bool false, .slice none 0 0, .slice none 0 0, .slice none 0 0] (0, 0) _ rfl (Hand.Cz.p11 BQ.out) Try.underlying30 rfl (by kernel_rfl)) rfl ?_
 exact ⟨rfl, (Hand.Cz.b11 HBQ.out HGP.out)⟩

set_option maxHeartbeats 8000000 in
set_option maxRecDepth 100000 in
theorem message_Right.packet57a (tr bn bd v : Int) (hv : v = 0) (w : World) :
  Calls Try.prog 31 #[.iface 57 (.agg #[.int .u64 tr, .int .u64 bn, .int .u64 bd, .int .i64 v])] w fun e w' => e = .returned (.agg #[.int .i64 4, .int .u64 tr, .int .u64 bn, .int .u64 bd, .int .u64 0, .int .u64 0, .int .i64 v, .bool false, .slice none 0 0, .slice none 0 0, .slice none 0 0]) ∧ Below w.heap.size w w' := by
 have hu30 := Try.underlying30; have hu24 := Try.underlying24; have hu51 := Try.underlying51; have hu54 := Try.underlying54; have hu57 := Try.underlying57; have hu60 := Try.underlying60; have hu63 := Try.underlying63; have hu66 := Try.underlying66; have hu69 := Try.underlying69; have ta51 := message_Right.ta57_51 (.agg #[.int .u64 tr, .int .u64 bn, .int .u64 bd, .int .i64 v]); have ta54 := message_Right.ta57_54 (.agg #[.int .u64 tr, .int .u64 bn, .int .u64 bd, .int .i64 v]); have ta57 := message_Right.ta57_57 (.agg #[.int .u64 tr, .int .u64 bn, .int .u64 bd, .int .i64 v]); have hvb : (v != 0) = false := bne_eq_false_iff_eq.mpr hv; clear hv
 go_enter Try.func31, Try.ntmps31
 go_upto_region 12 with (first | ((with_reducible refine gate_dst (N := 2) rfl ?_); refine box_event ?hg (N := 2) ?hd (cs := #[.int .i64 0, .int .u64 0, .int .u64 0, .int .u64 0, .int .u64 0, .int .u64 0, .int .i64 0, .bool false, .slice none 0 0, .slice none 0 0, .slice none 0 0]) (t := 30) ?hr ?_; (case hd => rfl); (case hg => rfl); (case hr => (go_simp; done)); intro gp hg w1 hbox hb; have HGP := Aside0.mk (show w.heap.size ≤ gp from Nat.le_of_eq hg.symm); have BP1 := Aside0.mk hbox; have HB1 := Aside0.mk hb; have HLT := Aside0.mk (show gp < w1.heap.size from blk_lt hbox); clear hg hbox hb) | ((with_reducible refine gate_dst (N := 5) rfl ?_); refine box_event ?hg (N := 5) ?hd (cs := #[.int .u64 0, .int .u64 0, .int .u64 0, .int .i64 0]) (t := 57) ?hr ?_; (case hd => rfl); (case hg => rfl); (case hr => (go_simp; done)); intro gx hg w2 hbox hb; have hne : gp ≠ gx := (by have := HLT.out; omega); have hne2 : gx ≠ gp := hne.symm; have HGX := Aside0.mk (show w.heap.size ≤ gx from by have := HLT.out; have := HGP.out; omega); have BX2 := Aside0.mk hbox; have BP2 := Aside0.mk (blk_below BP1.out hb); have HB2 := Aside0.mk (below_step HB1.out hb); clear hg hbox hb BP1 HB1; obtain ⟨hxz_0, hxz_1, hxz_2, hxz_3⟩ := Hand.Cz.c4 BX2.out; obtain ⟨hxf_0, hxf_1, hxf_2, hxf_3⟩ := Hand.Cz.f4 BX2.out))
 generalize hW1 : World.setCell _ (Addr.mk gx 3 none) _ = W1
 have BX := Aside0.mk (show W1.heap[gx]? = some (.cells #[.int .u64 tr, .int .u64 bn, .int .u64 bd, .int .i64 v] 57 (0, 0)) from by rw [← hW1]; exact Hand.Cz.p4 BX2.out)
 have BP := Aside0.mk (show W1.heap[gp]? = some (.cells #[.int .i64 0, .int .u64 0, .int .u64 0, .int .u64 0, .int .u64 0, .int .u64 0, .int .i64 0, .bool false, .slice none 0 0, .slice none 0 0, .slice none 0 0] 30 (0, 0)) from by rw [← hW1]; exact (Hand.Cz.o4 BP2.out hne))
 have HB := Aside0.mk (show Below w.heap.size w W1 from by rw [← hW1]; exact (Hand.Cz.b4 HB2.out HGX.out))
 clear hW1 BX2 BP2 HB2 hxz_0 hxf_0 hxz_1 hxf_1 hxz_2 hxf_2 hxz_3 hxf_3
 obtain ⟨hx_0, hx_1, hx_2, hx_3⟩ := Hand.Cz.c4 BX.out
 obtain ⟨hp_0, hp_1, hp_2, hp_3, hp_4, hp_5, hp_6, hp_7, hp_8, hp_9, hp_10⟩ := Hand.Cz.c11 BP.out
 obtain ⟨hf_0, hf_1, hf_2, hf_3, hf_4, hf_5, hf_6, hf_7, hf_8, hf_9, hf_10⟩ := Hand.Cz.f11 BP.out
 go_upto_region 29 with fail
 generalize hW2 : World.setCell _ (Addr.mk gp 10 none) _ = W2
 have BQ := Aside0.mk (show W2.heap[gp]? = some (.cells #[.int .i64 4, .int .u64 tr, .int .u64 bn, .int .u64 bd, .int .u64 0, .int .u64 0, .int .i64 v, .bool false, .slice none 0 0, .slice none 0 0, .slice none 0 0] 30 (0, 0)) from by rw [← hW2]; exact Hand.Cz.p11 BP.out)
 have HBQ := Aside0.mk (show Below w.heap.size w W2 from by rw [← hW2]; exact (Hand.Cz.b11 HB.out HGP.out))
 clear hW2 BX BP HB hp_0 hf_0 hp_1 hf_1 hp_2 hf_2 hp_3 hf_3 hp_4 hf_4 hp_5 hf_5 hp_6 hf_6 hp_7 hf_7 hp_8 hf_8 hp_9 hf_9 hp_10 hf_10 hx_0 hx_1 hx_2 hx_3
 obtain ⟨hq_0, hq_1, hq_2, hq_3, hq_4, hq_5, hq_6, hq_7, hq_8, hq_9, hq_10⟩ := Hand.Cz.c11 BQ.out
 obtain ⟨hg_0, hg_1, hg_2, hg_3, hg_4, hg_5, hg_6, hg_7, hg_8, hg_9, hg_10⟩ := Hand.Cz.f11 BQ.out
 go_wp2
 refine bodyPost_ret (results_cell_row rfl _ _ gp 30 #[.int .i64 4, .int .u64 tr, .int .u64 bn, .int .u64 bd, .int .u64 0, .int .u64 0, .int .i64 v, .bool false, .slice none 0 0, .slice none 0 0, .slice none 0 0] (0, 0) _ rfl (Hand.Cz.p11 BQ.out) Try.underlying30 rfl (by kernel_rfl)) rfl ?_
 exact ⟨rfl, (Hand.Cz.b11 HBQ.out HGP.out)⟩

set_option maxHeartbeats 8000000 in
set_option maxRecDepth 100000 in
theorem message_Right.packet57b (tr bn bd v : Int) (hv : v ≠ 0) (w : World) :
  Calls Try.prog 31 #[.iface 57 (.agg #[.int .u64 tr, .int .u64 bn, .int .u64 bd, .int .i64 v])] w fun e w' => e = .returned (.agg #[.int .i64 6, .int .u64 tr, .int .u64 bn, .int .u64 bd, .int .u64 0, .int .u64 0, .int .i64 v, .bool false, .slice none 0 0, .slice none 0 0, .slice none 0 0]) ∧ Below w.heap.size w w' := by
 have hu30 := Try.underlying30; have hu24 := Try.underlying24; have hu51 := Try.underlying51; have hu54 := Try.underlying54; have hu57 := Try.underlying57; have hu60 := Try.underlying60; have hu63 := Try.underlying63; have hu66 := Try.underlying66; have hu69 := Try.underlying69; have ta51 := message_Right.ta57_51 (.agg #[.int .u64 tr, .int .u64 bn, .int .u64 bd, .int .i64 v]); have ta54 := message_Right.ta57_54 (.agg #[.int .u64 tr, .int .u64 bn, .int .u64 bd, .int .i64 v]); have ta57 := message_Right.ta57_57 (.agg #[.int .u64 tr, .int .u64 bn, .int .u64 bd, .int .i64 v]); have hvb : (v != 0) = true := bne_iff_ne.mpr hv; clear hv
 go_enter Try.func31, Try.ntmps31
 go_upto_region 12 with (first | ((with_reducible refine gate_dst (N := 2) rfl ?_); refine box_event ?hg (N := 2) ?hd (cs := #[.int .i64 0, .int .u64 0, .int .u64 0, .int .u64 0, .int .u64 0, .int .u64 0, .int .i64 0, .bool false, .slice none 0 0, .slice none 0 0, .slice none 0 0]) (t := 30) ?hr ?_; (case hd => rfl); (case hg => rfl); (case hr => (go_simp; done)); intro gp hg w1 hbox hb; have HGP := Aside0.mk (show w.heap.size ≤ gp from Nat.le_of_eq hg.symm); have BP1 := Aside0.mk hbox; have HB1 := Aside0.mk hb; have HLT := Aside0.mk (show gp < w1.heap.size from blk_lt hbox); clear hg hbox hb) | ((with_reducible refine gate_dst (N := 5) rfl ?_); refine box_event ?hg (N := 5) ?hd (cs := #[.int .u64 0, .int .u64 0, .int .u64 0, .int .i64 0]) (t := 57) ?hr ?_; (case hd => rfl); (case hg => rfl); (case hr => (go_simp; done)); intro gx hg w2 hbox hb; have hne : gp ≠ gx := (by have := HLT.out; omega); have hne2 : gx ≠ gp := hne.symm; have HGX := Aside0.mk (show w.heap.size ≤ gx from by have := HLT.out; have := HGP.out; omega); have BX2 := Aside0.mk hbox; have BP2 := Aside0.mk (blk_below BP1.out hb); have HB2 := Aside0.mk (below_step HB1.out hb); clear hg hbox hb BP1 HB1; obtain ⟨hxz_0, hxz_1, hxz_2, hxz_3⟩ := Hand.Cz.c4 BX2.out; obtain ⟨hxf_0, hxf_1, hxf_2, hxf_3⟩ := Hand.Cz.f4 BX2.out))
 generalize hW1 : World.setCell _ (Addr.mk gx 3 none) _ = W1
 have BX := Aside0.mk (show W1.heap[gx]? = some (.cells #[.int .u64 tr, .int .u64 bn, .int .u64 bd, .int .i64 v] 57 (0, 0)) from by rw [← hW1]; exact Hand.Cz.p4 BX2.out)
 have BP := Aside0.mk (show W1.heap[gp]? = some (.cells #[.int .i64 0, .int .u64 0, .int .u64 0, .int .u64 0, .int .u64 0, .int .u64 0, .int .i64 0, .bool false, .slice none 0 0, .slice none 0 0, .slice none 0 0] 30 (0, 0)) from by rw [← hW1]; exact (Hand.Cz.o4 BP2.out hne))
 have HB := Aside0.mk (show Below w.heap.size w W1 from by rw [← hW1]; exact (Hand.Cz.b4 HB2.out HGX.out))
 clear hW1 BX2 BP2 HB2 hxz_0 hxf_0 hxz_1 hxf_1 hxz_2 hxf_2 hxz_3 hxf_3
 obtain ⟨hx_0, hx_1, hx_2, hx_3⟩ := Hand.Cz.c4 BX.out
 obtain ⟨hp_0, hp_1, hp_2, hp_3, hp_4, hp_5, hp_6, hp_7, hp_8, hp_9, hp_10⟩ := Hand.Cz.c11 BP.out
 obtain ⟨hf_0, hf_1, hf_2, hf_3, hf_4, hf_5, hf_6, hf_7, hf_8, hf_9, hf_10⟩ := Hand.Cz.f11 BP.out
 go_upto_region 29 with fail
 generalize hW2 : World.setCell _ (Addr.mk gp 0 none) (.int .i64 6) = W2
 have BQ := Aside0.mk (show W2.heap[gp]? = some (.cells #[.int .i64 6, .int .u64 tr, .int .u64 bn, .int .u64 bd, .int .u64 0, .int .u64 0, .int .i64 v, .bool false, .slice none 0 0, .slice none 0 0, .slice none 0 0] 30 (0, 0)) from by rw [← hW2]; exact (blk_set (Hand.Cz.p11 BP.out) 0 _).trans rfl)
 have HBQ := Aside0.mk (show Below w.heap.size w W2 from by rw [← hW2]; exact below_set (Hand.Cz.b11 HB.out HGP.out) HGP.out)
 clear hW2 BX BP HB hp_0 hf_0 hp_1 hf_1 hp_2 hf_2 hp_3 hf_3 hp_4 hf_4 hp_5 hf_5 hp_6 hf_6 hp_7 hf_7 hp_8 hf_8 hp_9 hf_9 hp_10 hf_10 hx_0 hx_1 hx_2 hx_3
 obtain ⟨hq_0, hq_1, hq_2, hq_3, hq_4, hq_5, hq_6, hq_7, hq_8, hq_9, hq_10⟩ := Hand.Cz.c11 BQ.out
 obtain ⟨hg_0, hg_1, hg_2, hg_3, hg_4, hg_5, hg_6, hg_7, hg_8, hg_9, hg_10⟩ := Hand.Cz.f11 BQ.out
 go_wp2
 refine bodyPost_ret (results_cell_row rfl _ _ gp 30 #[.int .i64 6, .int .u64 tr, .int .u64 bn, .int .u64 bd, .int .u64 0, .int .u64 0, .int .i64 v, .bool false, .slice none 0 0, .slice none 0 0, .slice none 0 0] (0, 0) _ rfl (Hand.Cz.p11 BQ.out) Try.underlying30 rfl (by kernel_rfl)) rfl ?_
 exact ⟨rfl, (Hand.Cz.b11 HBQ.out HGP.out)⟩

set_option maxHeartbeats 8000000 in
set_option maxRecDepth 100000 in
theorem message_Right.packet60a (tr bn bd : Int) (ok : Bool) (sn sd v : Int) (w : World) :
  Calls Try.prog 31 #[.iface 60 (.agg #[.int .u64 tr, .int .u64 bn, .int .u64 bd, .bool ok, .int .u64 sn, .int .u64 sd, .int .i64 v, .bool false])] w fun e w' => e = .returned (.agg #[.int .i64 5, .int .u64 tr, .int .u64 bn, .int .u64 bd, .int .u64 sn, .int .u64 sd, .int .i64 v, .bool ok, .slice none 0 0, .slice none 0 0, .slice none 0 0]) ∧ Below w.heap.size w w' := by
 have hu30 := Try.underlying30; have hu24 := Try.underlying24; have hu51 := Try.underlying51; have hu54 := Try.underlying54; have hu57 := Try.underlying57; have hu60 := Try.underlying60; have hu63 := Try.underlying63; have hu66 := Try.underlying66; have hu69 := Try.underlying69; have ta51 := message_Right.ta60_51 (.agg #[.int .u64 tr, .int .u64 bn, .int .u64 bd, .bool ok, .int .u64 sn, .int .u64 sd, .int .i64 v, .bool false]); have ta54 := message_Right.ta60_54 (.agg #[.int .u64 tr, .int .u64 bn, .int .u64 bd, .bool ok, .int .u64 sn, .int .u64 sd, .int .i64 v, .bool false]); have ta57 := message_Right.ta60_57 (.agg #[.int .u64 tr, .int .u64 bn, .int .u64 bd, .bool ok, .int .u64 sn, .int .u64 sd, .int .i64 v, .bool false]); have ta60 := message_Right.ta60_60 (.agg #[.int .u64 tr, .int .u64 bn, .int .u64 bd, .bool ok, .int .u64 sn, .int .u64 sd, .int .i64 v, .bool false])
 go_enter Try.func31, Try.ntmps31
 go_upto_region 17 with (first | ((with_reducible refine gate_dst (N := 2) rfl ?_); refine box_event ?hg (N := 2) ?hd (cs := #[.int .i64 0, .int .u64 0, .int .u64 0, .int .u64 0, .int .u64 0, .int .u64 0, .int .i64 0, .bool false, .slice none 0 0, .slice none 0 0, .slice none 0 0]) (t := 30) ?hr ?_; (case hd => rfl); (case hg => rfl); (case hr => (go_simp; done)); intro gp hg w1 hbox hb; have HGP := Aside0.mk (show w.heap.size ≤ gp from Nat.le_of_eq hg.symm); have BP1 := Aside0.mk hbox; have HB1 := Aside0.mk hb; have HLT := Aside0.mk (show gp < w1.heap.size from blk_lt hbox); clear hg hbox hb) | ((with_reducible refine gate_dst (N := 6) rfl ?_); refine box_event ?hg (N := 6) ?hd (cs := #[.int .u64 0, .int .u64 0, .int .u64 0, .bool false, .int .u64 0, .int .u64 0, .int .i64 0, .bool false]) (t := 60) ?hr ?_; (case hd => rfl); (case hg => rfl); (case hr => (go_simp; done)); intro gx hg w2 hbox hb; have hne : gp ≠ gx := (by have := HLT.out; omega); have hne2 : gx ≠ gp := hne.symm; have HGX := Aside0.mk (show w.heap.size ≤ gx from by have := HLT.out; have := HGP.out; omega); have BX2 := Aside0.mk hbox; have BP2 := Aside0.mk (blk_below BP1.out hb); have HB2 := Aside0.mk (below_step HB1.out hb); clear hg hbox hb BP1 HB1; obtain ⟨hxz_0, hxz_1, hxz_2, hxz_3, hxz_4, hxz_5, hxz_6, hxz_7⟩ := Hand.Cz.c8 BX2.out; obtain ⟨hxf_0, hxf_1, hxf_2, hxf_3, hxf_4, hxf_5, hxf_6, hxf_7⟩ := Hand.Cz.f8 BX2.out))
 generalize hW1 : World.setCell _ (Addr.mk gx 7 none) _ = W1
 have BX := Aside0.mk (show W1.heap[gx]? = some (.cells #[.int .u64 tr, .int .u64 bn, .int .u64 bd, .bool ok, .int .u64 sn, .int .u64 sd, .int .i64 v, .bool false] 60 (0, 0)) from by rw [← hW1]; exact Hand.Cz.p8 BX2.out)
 have BP := Aside0.mk (show W1.heap[gp]? = some (.cells #[.int .i64 0, .int .u64 0, .int .u64 0, .int .u64 0, .int .u64 0, .int .u64 0, .int .i64 0, .bool false, .slice none 0 0, .slice none 0 0, .slice none 0 0] 30 (0, 0)) from by rw [← hW1]; exact (Hand.Cz.o8 BP2.out hne))
 have HB := Aside0.mk (show Below w.heap.size w W1 from by rw [← hW1]; exact (Hand.Cz.b8 HB2.out HGX.out))
 clear hW1 BX2 BP2 HB2 hxz_0 hxf_0 hxz_1 hxf_1 hxz_2 hxf_2 hxz_3 hxf_3 hxz_4 hxf_4 hxz_5 hxf_5 hxz_6 hxf_6 hxz_7 hxf_7
 obtain ⟨hx_0, hx_1, hx_2, hx_3, hx_4, hx_5, hx_6, hx_7⟩ := Hand.Cz.c8 BX.out
 obtain ⟨hp_0, hp_1, hp_2, hp_3, hp_4, hp_5, hp_6, hp_7, hp_8, hp_9, hp_10⟩ := Hand.Cz.c11 BP.out
 obtain ⟨hf_0, hf_1, hf_2, hf_3, hf_4, hf_5, hf_6, hf_7, hf_8, hf_9, hf_10⟩ := Hand.Cz.f11 BP.out
 go_upto_region 29 with fail
 generalize hW2 : World.setCell _ (Addr.mk gp 10 none) _ = W2
 have BQ := Aside0.mk (show W2.heap[gp]? = some (.cells #[.int .i64 5, .int .u64 tr, .int .u64 bn, .int .u64 bd, .int .u64 sn, .int .u64 sd, .int .i64 v, .bool ok, .slice none 0 0, .slice none 0 0, .slice none 0 0] 30 (0, 0)) from by rw [← hW2]; exact Hand.Cz.p11 BP.out)
 have HBQ := Aside0.mk (show Below w.heap.size w W2 from by rw [← hW2]; exact (Hand.Cz.b11 HB.out HGP.out))
 clear hW2 BX BP HB hp_0 hf_0 hp_1 hf_1 hp_2 hf_2 hp_3 hf_3 hp_4 hf_4 hp_5 hf_5 hp_6 hf_6 hp_7 hf_7 hp_8 hf_8 hp_9 hf_9 hp_10 hf_10 hx_0 hx_1 hx_2 hx_3 hx_4 hx_5 hx_6 hx_7
 obtain ⟨hq_0, hq_1, hq_2, hq_3, hq_4, hq_5, hq_6, hq_7, hq_8, hq_9, hq_10⟩ := Hand.Cz.c11 BQ.out
 obtain ⟨hg_0, hg_1, hg_2, hg_3, hg_4, hg_5, hg_6, hg_7, hg_8, hg_9, hg_10⟩ := Hand.Cz.f11 BQ.out
 go_wp2
 refine bodyPost_ret (results_cell_row rfl _ _ gp 30 #[.int .i64 5, .int .u64 tr, .int .u64 bn, .int .u64 bd, .int .u64 sn, .int .u64 sd, .int .i64 v, .bool ok, .slice none 0 0, .slice none 0 0, .slice none 0 0] (0, 0) _ rfl (Hand.Cz.p11 BQ.out) Try.underlying30 rfl (by kernel_rfl)) rfl ?_
 exact ⟨rfl, (Hand.Cz.b11 HBQ.out HGP.out)⟩

set_option maxHeartbeats 8000000 in
set_option maxRecDepth 100000 in
theorem message_Right.packet60b (tr bn bd : Int) (ok : Bool) (sn sd v : Int) (w : World) :
  Calls Try.prog 31 #[.iface 60 (.agg #[.int .u64 tr, .int .u64 bn, .int .u64 bd, .bool ok, .int .u64 sn, .int .u64 sd, .int .i64 v, .bool true])] w fun e w' => e = .returned (.agg #[.int .i64 7, .int .u64 tr, .int .u64 bn, .int .u64 bd, .int .u64 sn, .int .u64 sd, .int .i64 v, .bool ok, .slice none 0 0, .slice none 0 0, .slice none 0 0]) ∧ Below w.heap.size w w' := by
 have hu30 := Try.underlying30; have hu24 := Try.underlying24; have hu51 := Try.underlying51; have hu54 := Try.underlying54; have hu57 := Try.underlying57; have hu60 := Try.underlying60; have hu63 := Try.underlying63; have hu66 := Try.underlying66; have hu69 := Try.underlying69; have ta51 := message_Right.ta60_51 (.agg #[.int .u64 tr, .int .u64 bn, .int .u64 bd, .bool ok, .int .u64 sn, .int .u64 sd, .int .i64 v, .bool true]); have ta54 := message_Right.ta60_54 (.agg #[.int .u64 tr, .int .u64 bn, .int .u64 bd, .bool ok, .int .u64 sn, .int .u64 sd, .int .i64 v, .bool true]); have ta57 := message_Right.ta60_57 (.agg #[.int .u64 tr, .int .u64 bn, .int .u64 bd, .bool ok, .int .u64 sn, .int .u64 sd, .int .i64 v, .bool true]); have ta60 := message_Right.ta60_60 (.agg #[.int .u64 tr, .int .u64 bn, .int .u64 bd, .bool ok, .int .u64 sn, .int .u64 sd, .int .i64 v, .bool true])
 go_enter Try.func31, Try.ntmps31
 go_upto_region 17 with (first | ((with_reducible refine gate_dst (N := 2) rfl ?_); refine box_event ?hg (N := 2) ?hd (cs := #[.int .i64 0, .int .u64 0, .int .u64 0, .int .u64 0, .int .u64 0, .int .u64 0, .int .i64 0, .bool false, .slice none 0 0, .slice none 0 0, .slice none 0 0]) (t := 30) ?hr ?_; (case hd => rfl); (case hg => rfl); (case hr => (go_simp; done)); intro gp hg w1 hbox hb; have HGP := Aside0.mk (show w.heap.size ≤ gp from Nat.le_of_eq hg.symm); have BP1 := Aside0.mk hbox; have HB1 := Aside0.mk hb; have HLT := Aside0.mk (show gp < w1.heap.size from blk_lt hbox); clear hg hbox hb) | ((with_reducible refine gate_dst (N := 6) rfl ?_); refine box_event ?hg (N := 6) ?hd (cs := #[.int .u64 0, .int .u64 0, .int .u64 0, .bool false, .int .u64 0, .int .u64 0, .int .i64 0, .bool false]) (t := 60) ?hr ?_; (case hd => rfl); (case hg => rfl); (case hr => (go_simp; done)); intro gx hg w2 hbox hb; have hne : gp ≠ gx := (by have := HLT.out; omega); have hne2 : gx ≠ gp := hne.symm; have HGX := Aside0.mk (show w.heap.size ≤ gx from by have := HLT.out; have := HGP.out; omega); have BX2 := Aside0.mk hbox; have BP2 := Aside0.mk (blk_below BP1.out hb); have HB2 := Aside0.mk (below_step HB1.out hb); clear hg hbox hb BP1 HB1; obtain ⟨hxz_0, hxz_1, hxz_2, hxz_3, hxz_4, hxz_5, hxz_6, hxz_7⟩ := Hand.Cz.c8 BX2.out; obtain ⟨hxf_0, hxf_1, hxf_2, hxf_3, hxf_4, hxf_5, hxf_6, hxf_7⟩ := Hand.Cz.f8 BX2.out))
 generalize hW1 : World.setCell _ (Addr.mk gx 7 none) _ = W1
 have BX := Aside0.mk (show W1.heap[gx]? = some (.cells #[.int .u64 tr, .int .u64 bn, .int .u64 bd, .bool ok, .int .u64 sn, .int .u64 sd, .int .i64 v, .bool true] 60 (0, 0)) from by rw [← hW1]; exact Hand.Cz.p8 BX2.out)
 have BP := Aside0.mk (show W1.heap[gp]? = some (.cells #[.int .i64 0, .int .u64 0, .int .u64 0, .int .u64 0, .int .u64 0, .int .u64 0, .int .i64 0, .bool false, .slice none 0 0, .slice none 0 0, .slice none 0 0] 30 (0, 0)) from by rw [← hW1]; exact (Hand.Cz.o8 BP2.out hne))
 have HB := Aside0.mk (show Below w.heap.size w W1 from by rw [← hW1]; exact (Hand.Cz.b8 HB2.out HGX.out))
 clear hW1 BX2 BP2 HB2 hxz_0 hxf_0 hxz_1 hxf_1 hxz_2 hxf_2 hxz_3 hxf_3 hxz_4 hxf_4 hxz_5 hxf_5 hxz_6 hxf_6 hxz_7 hxf_7
 obtain ⟨hx_0, hx_1, hx_2, hx_3, hx_4, hx_5, hx_6, hx_7⟩ := Hand.Cz.c8 BX.out
 obtain ⟨hp_0, hp_1, hp_2, hp_3, hp_4, hp_5, hp_6, hp_7, hp_8, hp_9, hp_10⟩ := Hand.Cz.c11 BP.out
 obtain ⟨hf_0, hf_1, hf_2, hf_3, hf_4, hf_5, hf_6, hf_7, hf_8, hf_9, hf_10⟩ := Hand.Cz.f11 BP.out
 go_upto_region 29 with fail
 generalize hW2 : World.setCell _ (Addr.mk gp 0 none) (.int .i64 7) = W2
 have BQ := Aside0.mk (show W2.heap[gp]? = some (.cells #[.int .i64 7, .int .u64 tr, .int .u64 bn, .int .u64 bd, .int .u64 sn, .int .u64 sd, .int .i64 v, .bool ok, .slice none 0 0, .slice none 0 0, .slice none 0 0] 30 (0, 0)) from by rw [← hW2]; exact (blk_set (Hand.Cz.p11 BP.out) 0 _).trans rfl)
 have HBQ := Aside0.mk (show Below w.heap.size w W2 from by rw [← hW2]; exact below_set (Hand.Cz.b11 HB.out HGP.out) HGP.out)
 clear hW2 BX BP HB hp_0 hf_0 hp_1 hf_1 hp_2 hf_2 hp_3 hf_3 hp_4 hf_4 hp_5 hf_5 hp_6 hf_6 hp_7 hf_7 hp_8 hf_8 hp_9 hf_9 hp_10 hf_10 hx_0 hx_1 hx_2 hx_3 hx_4 hx_5 hx_6 hx_7
 obtain ⟨hq_0, hq_1, hq_2, hq_3, hq_4, hq_5, hq_6, hq_7, hq_8, hq_9, hq_10⟩ := Hand.Cz.c11 BQ.out
 obtain ⟨hg_0, hg_1, hg_2, hg_3, hg_4, hg_5, hg_6, hg_7, hg_8, hg_9, hg_10⟩ := Hand.Cz.f11 BQ.out
 go_wp2
 refine bodyPost_ret (results_cell_row rfl _ _ gp 30 #[.int .i64 7, .int .u64 tr, .int .u64 bn, .int .u64 bd, .int .u64 sn, .int .u64 sd, .int .i64 v, .bool ok, .slice none 0 0, .slice none 0 0, .slice none 0 0] (0, 0) _ rfl (Hand.Cz.p11 BQ.out) Try.underlying30 rfl (by kernel_rfl)) rfl ?_
 exact ⟨rfl, (Hand.Cz.b11 HBQ.out HGP.out)⟩

set_option maxHeartbeats 8000000 in
set_option maxRecDepth 100000 in
theorem message_Right.packet54 (A : Option Addr) (c : Nat) (l : List S92) (w : World) (hC : Kd.C k92 w A l.length l) (hc : l.length ≤ c) (hl : l.length ≤ 1000) :
  Calls Try.prog 31 #[.iface 54 (.agg #[.slice A l.length c])] w fun e w' => ∃ v1_ : Value, e = .returned (.agg #[.int .i64 3, .int .u64 0, .int .u64 0, .int .u64 0, .int .u64 0, .int .u64 0, .int .i64 0, .bool false, .slice none 0 0, v1_, .slice none 0 0]) ∧ Kd.R k92 92 w' w.heap.size (fun _ => True) v1_ l ∧ Below w.heap.size w w' := by
 have hu30 := Try.underlying30; have hu24 := Try.underlying24; have hu51 := Try.underlying51; have hu54 := Try.underlying54; have hu57 := Try.underlying57; have hu60 := Try.underlying60; have hu63 := Try.underlying63; have hu66 := Try.underlying66; have hu69 := Try.underlying69; have ta51 := message_Right.ta54_51 (.agg #[.slice A l.length c]); have ta54 := message_Right.ta54_54 (.agg #[.slice A l.length c]); have HC := Aside0.mk hC; have HCL := Aside0.mk (show api_Member_58.f l = some l from if_pos (by omega)); clear hC
 go_enter Try.func31, Try.ntmps31
 go_upto_region 9 with (first | ((with_reducible refine gate_dst (N := 2) rfl ?_); refine box_event ?hg (N := 2) ?hd (cs := #[.int .i64 0, .int .u64 0, .int .u64 0, .int .u64 0, .int .u64 0, .int .u64 0, .int .i64 0, .bool false, .slice none 0 0, .slice none 0 0, .slice none 0 0]) (t := 30) ?hr ?_; (case hd => rfl); (case hg => rfl); (case hr => (go_simp; done)); intro gp hg w1 hbox hb; have HGP := Aside0.mk (show w.heap.size ≤ gp from Nat.le_of_eq hg.symm); have BP1 := Aside0.mk hbox; have HB1 := Aside0.mk hb; have HLT := Aside0.mk (show gp < w1.heap.size from blk_lt hbox); clear hg hbox hb) | ((with_reducible refine gate_dst (N := 4) rfl ?_); refine box_event ?hg (N := 4) ?hd (cs := #[.slice none 0 0]) (t := 54) ?hr ?_; (case hd => rfl); (case hg => rfl); (case hr => (go_simp; done)); intro gx hg w2 hbox hb; have hne : gp ≠ gx := (by have := HLT.out; omega); have hne2 : gx ≠ gp := hne.symm; have HGX := Aside0.mk (show w.heap.size ≤ gx from by have := HLT.out; have := HGP.out; omega); have BX2 := Aside0.mk hbox; have BP2 := Aside0.mk (blk_below BP1.out hb); have HB2 := Aside0.mk (below_step HB1.out hb); clear hg hbox hb BP1 HB1; have hxz_0 : w2.cell? ⟨gx, 0, none⟩ = some (.slice none 0 0) := (blk_cell BX2.out 0).trans rfl; have hxf_0 := blk_frozen BX2.out 0))
 generalize hW1 : World.setCell _ (Addr.mk gx 0 none) _ = W1
 have BX := Aside0.mk (show W1.heap[gx]? = some (.cells #[.slice A l.length c] 54 (0, 0)) from by rw [← hW1]; exact Hand.Cz.p1 BX2.out)
 have BP := Aside0.mk (show W1.heap[gp]? = some (.cells #[.int .i64 0, .int .u64 0, .int .u64 0, .int .u64 0, .int .u64 0, .int .u64 0, .int .i64 0, .bool false, .slice none 0 0, .slice none 0 0, .slice none 0 0] 30 (0, 0)) from by rw [← hW1]; exact (Hand.Cz.o1 BP2.out hne))
 have HB := Aside0.mk (show Below w.heap.size w W1 from by rw [← hW1]; exact (Hand.Cz.b1 HB2.out HGX.out))
 clear hW1 BX2 BP2 HB2 hxz_0 hxf_0; have hx_0 : W1.cell? ⟨gx, 0, none⟩ = some (.slice A l.length c) := (blk_cell BX.out 0).trans rfl
 obtain ⟨hp_0, hp_1, hp_2, hp_3, hp_4, hp_5, hp_6, hp_7, hp_8, hp_9, hp_10⟩ := Hand.Cz.c11 BP.out
 obtain ⟨hf_0, hf_1, hf_2, hf_3, hf_4, hf_5, hf_6, hf_7, hf_8, hf_9, hf_10⟩ := Hand.Cz.f11 BP.out
 go_upto_region 29 with (go_at_call 58; refine (api_Member_58.calls A c l l _ (Kd.C_below HC.out HB.out) hc HCL.out).mono ?_; rintro e w3 ⟨v1, rfl, hR, hb⟩; obtain ⟨Av, cv, rfl⟩ := Kd.R_slice hR; have HR := Aside0.mk (Kd.R_mono (ok' := fun k => k ≠ gp) (Kd.R_lower (Kd.R_newB hR BP.out) HB.out.size) (fun _ h => h.2)); have HB3 := Aside0.mk (below_step HB.out hb); have BP3 := Aside0.mk (blk_below BP.out hb); clear hR hb; obtain ⟨hs_0, hs_1, hs_2, hs_3, hs_4, hs_5, hs_6, hs_7, hs_8, hs_9, hs_10⟩ := Hand.Cz.c11 BP3.out; obtain ⟨ht_0, ht_1, ht_2, ht_3, ht_4, ht_5, ht_6, ht_7, ht_8, ht_9, ht_10⟩ := Hand.Cz.f11 BP3.out)
 generalize hW2 : World.setCell _ (Addr.mk gp 10 none) _ = W2
 have BQ := Aside0.mk (show W2.heap[gp]? = some (.cells #[.int .i64 3, .int .u64 0, .int .u64 0, .int .u64 0, .int .u64 0, .int .u64 0, .int .i64 0, .bool false, .slice none 0 0, .slice Av l.length cv, .slice none 0 0] 30 (0, 0)) from by rw [← hW2]; exact Hand.Cz.p11 BP3.out)
 have HBQ := Aside0.mk (show Below w.heap.size w W2 from by rw [← hW2]; exact (Hand.Cz.b11 HB3.out HGP.out))
 have HRQ := Aside0.mk (show Kd.R k92 92 W2 w.heap.size (fun k => k ≠ gp) (.slice Av l.length cv) l from by rw [← hW2]; exact (Hand.Cz.r11 HR.out))
 clear hW2 HR HB3 BP3 BX BP HB hs_0 ht_0 hp_0 hf_0 hs_1 ht_1 hp_1 hf_1 hs_2 ht_2 hp_2 hf_2 hs_3 ht_3 hp_3 hf_3 hs_4 ht_4 hp_4 hf_4 hs_5 ht_5 hp_5 hf_5 hs_6 ht_6 hp_6 hf_6 hs_7 ht_7 hp_7 hf_7 hs_8 ht_8 hp_8 hf_8 hs_9 ht_9 hp_9 hf_9 hs_10 ht_10 hp_10 hf_10 hx_0
 obtain ⟨hq_0, hq_1, hq_2, hq_3, hq_4, hq_5, hq_6, hq_7, hq_8, hq_9, hq_10⟩ := Hand.Cz.c11 BQ.out
 obtain ⟨hg_0, hg_1, hg_2, hg_3, hg_4, hg_5, hg_6, hg_7, hg_8, hg_9, hg_10⟩ := Hand.Cz.f11 BQ.out
 go_wp2
 refine bodyPost_ret (results_cell_row rfl _ _ gp 30 #[.int .i64 3, .int .u64 0, .int .u64 0, .int .u64 0, .int .u64 0, .int .u64 0, .int .i64 0, .bool false, .slice none 0 0, .slice Av l.length cv, .slice none 0 0] (0, 0) _ rfl (Hand.Cz.p11 BQ.out) Try.underlying30 rfl (by kernel_rfl)) rfl ?_
 exact ⟨_, rfl, Kd.R_mono (Hand.Cz.r11 HRQ.out) (fun _ _ => trivial), (Hand.Cz.b11 HBQ.out HGP.out)⟩

def message_Right.T31_4 : Bool × List (List Nat × List Nat) := (true, [([], []), ([0], [0]), ([], []), ([2], [2]), ([3], [3]), ([1, 4], [1, 4]), ([5, 4, 0, 1, 2, 3, 4, 5], [5])])
def message_Right.B31_4 : List Nat := [0, 1, 0, 4, 12, 31, 63]
theorem message_Right.tab31_4 : rtab .any (opsOf Try.f31 4) = message_Right.T31_4 := by kernel_rfl
theorem message_Right.bits31_4 : waitsOk message_Right.T31_4.2 message_Right.B31_4 = true := by kernel_rfl
set_option maxHeartbeats 8000000 in
set_option maxRecDepth 100000 in
theorem message_Right.packet51a (tr : Int) (A : Option Addr) (c : Nat) (l : List S76) (w : World) (hC : Kd.C k76 w A l.length l) (hc : l.length ≤ c) (hl : l.length ≤ 1000) :
  Calls Try.prog 31 #[.iface 51 (.agg #[.int .u64 tr, .bool false, .slice A l.length c])] w fun e w' => ∃ v1_ : Value, e = .returned (.agg #[.int .i64 1, .int .u64 tr, .int .u64 0, .int .u64 0, .int .u64 0, .int .u64 0, .int .i64 0, .bool false, v1_, .slice none 0 0, .slice none 0 0]) ∧ Kd.R k76 76 w' w.heap.size (fun _ => True) v1_ l ∧ Below w.heap.size w w' := by
 have hu30 := Try.underlying30; have hu24 := Try.underlying24; have hu51 := Try.underlying51; have hu54 := Try.underlying54; have hu57 := Try.underlying57; have hu60 := Try.underlying60; have hu63 := Try.underlying63; have hu66 := Try.underlying66; have hu69 := Try.underlying69; have ta51 := message_Right.ta51_51 (.agg #[.int .u64 tr, .bool false, .slice A l.length c]); have HC := Aside0.mk hC; have HCL := Aside0.mk (show api_Span_57.f l = some l from if_pos (by omega)); clear hC
 go_enter Try.func31, Try.ntmps31
 go_upto_region 4 with (first | ((with_reducible refine gate_dst (N := 2) rfl ?_); refine box_event ?hg (N := 2) ?hd (cs := #[.int .i64 0, .int .u64 0, .int .u64 0, .int .u64 0, .int .u64 0, .int .u64 0, .int .i64 0, .bool false, .slice none 0 0, .slice none 0 0, .slice none 0 0]) (t := 30) ?hr ?_; (case hd => rfl); (case hg => rfl); (case hr => (go_simp; done)); intro gp hg w1 hbox hb; have HGP := Aside0.mk (show w.heap.size ≤ gp from Nat.le_of_eq hg.symm); have BP1 := Aside0.mk hbox; have HB1 := Aside0.mk hb; have HLT := Aside0.mk (show gp < w1.heap.size from blk_lt hbox); clear hg hbox hb) | ((with_reducible refine gate_dst (N := 3) rfl ?_); refine box_event ?hg (N := 3) ?hd (cs := #[.int .u64 0, .bool false, .slice none 0 0]) (t := 51) ?hr ?_; (case hd => rfl); (case hg => rfl); (case hr => (go_simp; done)); intro gx hg w2 hbox hb; have hne : gp ≠ gx := (by have := HLT.out; omega); have hne2 : gx ≠ gp := hne.symm; have HGX := Aside0.mk (show w.heap.size ≤ gx from by have := HLT.out; have := HGP.out; omega); have BX2 := Aside0.mk hbox; have BP2 := Aside0.mk (blk_below BP1.out hb); have HB2 := Aside0.mk (below_step HB1.out hb); clear hg hbox hb BP1 HB1; obtain ⟨hxz_0, hxz_1, hxz_2⟩ := Hand.Cz.c3 BX2.out; obtain ⟨hxf_0, hxf_1, hxf_2⟩ := Hand.Cz.f3 BX2.out))
 generalize hW1 : World.setCell _ (Addr.mk gx 2 none) _ = W1
 have BX := Aside0.mk (show W1.heap[gx]? = some (.cells #[.int .u64 tr, .bool false, .slice A l.length c] 51 (0, 0)) from by rw [← hW1]; exact Hand.Cz.p3 BX2.out)
 have BP := Aside0.mk (show W1.heap[gp]? = some (.cells #[.int .i64 0, .int .u64 0, .int .u64 0, .int .u64 0, .int .u64 0, .int .u64 0, .int .i64 0, .bool false, .slice none 0 0, .slice none 0 0, .slice none 0 0] 30 (0, 0)) from by rw [← hW1]; exact (Hand.Cz.o3 BP2.out hne))
 have HB := Aside0.mk (show Below w.heap.size w W1 from by rw [← hW1]; exact (Hand.Cz.b3 HB2.out HGX.out))
 clear hW1 BX2 BP2 HB2 hxz_0 hxf_0 hxz_1 hxf_1 hxz_2 hxf_2; have BPd := Aside0.mk (blk_drew BP.out)
 refine start_ (n := 7) (S := fun w' => w'.heap[gx]? = some (.cells #[.int .u64 tr, .bool false, .slice A l.length c] 51 (0, 0)) ∧ Below w.heap.size w w') (ds := []) #[false, false, false, false, false, false, false] (by kernel_rfl) rfl rfl ⟨blk_drew BX.out, below_drew1 HB.out⟩ (fun hHeld => ?_)
 refine with_tabW message_Right.tab31_4 message_Right.bits31_4 (fun HT_ HW_ => ?_)
 generalize W1.drew = wd at hHeld BPd ⊢
 refine pure_ (i := 0) (N := some 14) (v := ?_) (a' := ?_) #[true, false, false, false, false, false, false] rfl rfl (any_of HT_.out (by kernel_rfl)) (fun _ _ _ h => h) (Or.inl ⟨by rfl, ?_⟩) ?_ ?_
 rotate_left
 ·intro w'; go_simp; with_reducible rfl
 rotate_left
 ·simp only [Act.put, List.setIfInBounds_toArray, List.set_cons_zero, List.set_cons_succ, i64_w, i32_w]; rfl
 refine take_ (i := 1) (N := some 15) (v := ?_) (a' := ?_) #[true, true, false, false, false, false, false] rfl rfl (take_ofW HT_.out HW_.out (by kernel_rfl)) (fun _ _ _ h => h) (Or.inl ⟨by rfl, ?_⟩) hHeld ?_ ?_
 rotate_left
 ·rintro w' ⟨E, I⟩
  have z0 : w'.cell? ⟨gx, 0, none⟩ = some (.int .u64 tr) := (blk_cell E 0).trans rfl
  go_simp
  with_reducible rfl
 rotate_left
 ·simp only [Act.put, List.setIfInBounds_toArray, List.set_cons_zero, List.set_cons_succ, i64_w, i32_w]; rfl
 refine pure_ (i := 2) (N := some 16) (v := ?_) (a' := ?_) #[true, true, true, false, false, false, false] rfl rfl (any_of HT_.out (by kernel_rfl)) (fun _ _ _ h => h) (Or.inl ⟨by rfl, ?_⟩) ?_ ?_
 rotate_left
 ·intro w'; go_simp; with_reducible rfl
 rotate_left
 ·simp only [Act.put, List.setIfInBounds_toArray, List.set_cons_zero, List.set_cons_succ, i64_w, i32_w]; rfl
 refine take_ (i := 3) (N := some 17) (v := ?_) (a' := ?_) #[true, true, true, true, false, false, false] rfl rfl (take_ofW HT_.out HW_.out (by kernel_rfl)) (fun _ _ _ h => h) (Or.inl ⟨by rfl, ?_⟩) hHeld ?_ ?_
 rotate_left
 ·rintro w' ⟨E, I⟩
  have z2 : w'.cell? ⟨gx, 2, none⟩ = some (.slice A l.length c) := (blk_cell E 2).trans rfl
  go_simp
  with_reducible rfl
 rotate_left
 ·simp only [Act.put, List.setIfInBounds_toArray, List.set_cons_zero, List.set_cons_succ, i64_w, i32_w]; rfl
 refine one_ (i := 4) (N := some 18) #[true, true, true, true, true, false, false] rfl rfl (one_of HT_.out (by kernel_rfl)) (by decide) (fun K hK => ?_)
 refine goes_ Try.func57 (by kernel_rfl) rfl #[.slice A l.length c] (by rfl) rfl rfl (by (try simp only [List.map_toArray, List.map_cons, List.map_nil]); (rfl)) ?_
 with_reducible refine (api_Span_57.calls A c l l _ (Kd.C_below HC.out hHeld.2) hc HCL.out).mono ?_
 rintro e w3 ⟨v1, rfl, hR, hb⟩ ; obtain ⟨Av, cv, rfl⟩ := Kd.R_slice hR
 refine ⟨_, rfl, ?_⟩
 have HR := Aside0.mk (Kd.R_mono (ok' := fun k => k ≠ gp) (Kd.R_lower (Kd.R_newB hR BPd.out) hHeld.2.size) (fun _ h => h.2))
 clear hR; have BP3 := Aside0.mk (blk_below BPd.out hb)
 refine hK.out _ _ ⟨blk_below hHeld.1 hb, below_step hHeld.2 hb⟩ (fun hHeld => ?_)
 clear hK K
 refine norm_ (a' := ?_) ?_ ?_
 rotate_left
 ·show Act.put _ (some 18) _ = _; simp only [Act.put, List.setIfInBounds_toArray, List.set_cons_zero, List.set_cons_succ, i64_w, i32_w]; rfl
 refine pure_ (i := 5) (N := some 19) (v := ?_) (a' := ?_) #[true, true, true, true, true, true, false] rfl rfl (any_of HT_.out (by kernel_rfl)) (fun _ _ _ h => h) (Or.inl ⟨by rfl, ?_⟩) ?_ ?_
 rotate_left
 ·intro w'; go_simp; with_reducible rfl
 rotate_left
 ·simp only [Act.put, List.setIfInBounds_toArray, List.set_cons_zero, List.set_cons_succ, i64_w, i32_w]; rfl
 refine one_ (i := 6) (N := none) #[true, true, true, true, true, true, true] rfl rfl (one_of HT_.out (by kernel_rfl)) (by decide) (fun K hK => ?_)
 obtain ⟨hs_0, hs_1, hs_2, hs_3, hs_4, hs_5, hs_6, hs_7, hs_8, hs_9, hs_10⟩ := Hand.Cz.c11 BP3.out
 obtain ⟨hf_0, hf_1, hf_2, hf_3, hf_4, hf_5, hf_6, hf_7, hf_8, hf_9, hf_10⟩ := Hand.Cz.f11 BP3.out
 refine skip_ (w1 := ?_) (by rfl) rfl ?_ ?_
 rotate_left
 ·go_simp; rfl
 refine hK.out _ _ ⟨(Hand.Cz.o11 hHeld.1 hne2), (Hand.Cz.b11 hHeld.2 HGP.out)⟩ (fun hHeld => ?_)
 clear hK K
 refine done_ (done_of HT_.out (by kernel_rfl)) ?_
 clear hs_0 hf_0 hs_1 hf_1 hs_2 hf_2 hs_3 hf_3 hs_4 hf_4 hs_5 hf_5 hs_6 hf_6 hs_7 hf_7 hs_8 hf_8 hs_9 hf_9 hs_10 hf_10
 generalize hW2 : World.setCell _ (Addr.mk gp 10 none) _ = W2 at hHeld ⊢
 have BQ := Aside0.mk (show W2.heap[gp]? = some (.cells #[.int .i64 1, .int .u64 tr, .int .u64 0, .int .u64 0, .int .u64 0, .int .u64 0, .int .i64 0, .bool false, .slice Av l.length cv, .slice none 0 0, .slice none 0 0] 30 (0, 0)) from by rw [← hW2]; exact Hand.Cz.p11 BP3.out)
 have HBQ := Aside0.mk hHeld.2
 have HRQ := Aside0.mk (show Kd.R k76 76 W2 w.heap.size (fun k => k ≠ gp) (.slice Av l.length cv) l from by rw [← hW2]; exact (Hand.Cz.r11 HR.out))
 have BXQ := Aside0.mk hHeld.1; clear hW2 hHeld HR BP3 BX BP HB
 obtain ⟨hx_0, hx_1, hx_2⟩ := Hand.Cz.c3 BXQ.out
 obtain ⟨hq_0, hq_1, hq_2, hq_3, hq_4, hq_5, hq_6, hq_7, hq_8, hq_9, hq_10⟩ := Hand.Cz.c11 BQ.out
 obtain ⟨hg_0, hg_1, hg_2, hg_3, hg_4, hg_5, hg_6, hg_7, hg_8, hg_9, hg_10⟩ := Hand.Cz.f11 BQ.out
 go_wp2
 refine bodyPost_ret (results_cell_row rfl _ _ gp 30 #[.int .i64 1, .int .u64 tr, .int .u64 0, .int .u64 0, .int .u64 0, .int .u64 0, .int .i64 0, .bool false, .slice Av l.length cv, .slice none 0 0, .slice none 0 0] (0, 0) _ rfl (Hand.Cz.p11 BQ.out) Try.underlying30 rfl (by kernel_rfl)) rfl ?_
 exact ⟨_, rfl, Kd.R_mono (Hand.Cz.r11 HRQ.out) (fun _ _ => trivial), (Hand.Cz.b11 HBQ.out HGP.out)⟩

set_option maxHeartbeats 8000000 in
set_option maxRecDepth 100000 in
theorem message_Right.packet51b (tr : Int) (A : Option Addr) (c : Nat) (l : List S76) (w : World) (hC : Kd.C k76 w A l.length l) (hc : l.length ≤ c) (hl : l.length ≤ 1000) :
  Calls Try.prog 31 #[.iface 51 (.agg #[.int .u64 tr, .bool true, .slice A l.length c])] w fun e w' => ∃ v1_ : Value, e = .returned (.agg #[.int .i64 2, .int .u64 tr, .int .u64 0, .int .u64 0, .int .u64 0, .int .u64 0, .int .i64 0, .bool false, v1_, .slice none 0 0, .slice none 0 0]) ∧ Kd.R k76 76 w' w.heap.size (fun _ => True) v1_ l ∧ Below w.heap.size w w' := by
 have hu30 := Try.underlying30; have hu24 := Try.underlying24; have hu51 := Try.underlying51; have hu54 := Try.underlying54; have hu57 := Try.underlying57; have hu60 := Try.underlying60; have hu63 := Try.underlying63; have hu66 := Try.underlying66; have hu69 := Try.underlying69; have ta51 := message_Right.ta51_51 (.agg #[.int .u64 tr, .bool true, .slice A l.length c]); have HC := Aside0.mk hC; have HCL := Aside0.mk (show api_Span_57.f l = some l from if_pos (by omega)); clear hC
 go_enter Try.func31, Try.ntmps31
 go_upto_region 4 with (first | ((with_reducible refine gate_dst (N := 2) rfl ?_); refine box_event ?hg (N := 2) ?hd (cs := #[.int .i64 0, .int .u64 0, .int .u64 0, .int .u64 0, .int .u64 0, .int .u64 0, .int .i64 0, .bool false, .slice none 0 0, .slice none 0 0, .slice none 0 0]) (t := 30) ?hr ?_; (case hd => rfl); (case hg => rfl); (case hr => (go_simp; done)); intro gp hg w1 hbox hb; have HGP := Aside0.mk (show w.heap.size ≤ gp from Nat.le_of_eq hg.symm); have BP1 := Aside0.mk hbox; have HB1 := Aside0.mk hb; have HLT := Aside0.mk (show gp < w1.heap.size from blk_lt hbox); clear hg hbox hb) | ((with_reducible refine gate_dst (N := 3) rfl ?_); refine box_event ?hg (N := 3) ?hd (cs := #[.int .u64 0, .bool false, .slice none 0 0]) (t := 51) ?hr ?_; (case hd => rfl); (case hg => rfl); (case hr => (go_simp; done)); intro gx hg w2 hbox hb; have hne : gp ≠ gx := (by have := HLT.out; omega); have hne2 : gx ≠ gp := hne.symm; have HGX := Aside0.mk (show w.heap.size ≤ gx from by have := HLT.out; have := HGP.out; omega); have BX2 := Aside0.mk hbox; have BP2 := Aside0.mk (blk_below BP1.out hb); have HB2 := Aside0.mk (below_step HB1.out hb); clear hg hbox hb BP1 HB1; obtain ⟨hxz_0, hxz_1, hxz_2⟩ := Hand.Cz.c3 BX2.out; obtain ⟨hxf_0, hxf_1, hxf_2⟩ := Hand.Cz.f3 BX2.out))
 generalize hW1 : World.setCell _ (Addr.mk gx 2 none) _ = W1
 have BX := Aside0.mk (show W1.heap[gx]? = some (.cells #[.int .u64 tr, .bool true, .slice A l.length c] 51 (0, 0)) from by rw [← hW1]; exact Hand.Cz.p3 BX2.out)
 have BP := Aside0.mk (show W1.heap[gp]? = some (.cells #[.int .i64 0, .int .u64 0, .int .u64 0, .int .u64 0, .int .u64 0, .int .u64 0, .int .i64 0, .bool false, .slice none 0 0, .slice none 0 0, .slice none 0 0] 30 (0, 0)) from by rw [← hW1]; exact (Hand.Cz.o3 BP2.out hne))
 have HB := Aside0.mk (show Below w.heap.size w W1 from by rw [← hW1]; exact (Hand.Cz.b3 HB2.out HGX.out))
 clear hW1 BX2 BP2 HB2 hxz_0 hxf_0 hxz_1 hxf_1 hxz_2 hxf_2; have BPd := Aside0.mk (blk_drew BP.out)
 refine start_ (n := 7) (S := fun w' => w'.heap[gx]? = some (.cells #[.int .u64 tr, .bool true, .slice A l.length c] 51 (0, 0)) ∧ Below w.heap.size w w') (ds := []) #[false, false, false, false, false, false, false] (by kernel_rfl) rfl rfl ⟨blk_drew BX.out, below_drew1 HB.out⟩ (fun hHeld => ?_)
 refine with_tabW message_Right.tab31_4 message_Right.bits31_4 (fun HT_ HW_ => ?_)
 generalize W1.drew = wd at hHeld BPd ⊢
 refine pure_ (i := 0) (N := some 14) (v := ?_) (a' := ?_) #[true, false, false, false, false, false, false] rfl rfl (any_of HT_.out (by kernel_rfl)) (fun _ _ _ h => h) (Or.inl ⟨by rfl, ?_⟩) ?_ ?_
 rotate_left
 ·intro w'; go_simp; with_reducible rfl
 rotate_left
 ·simp only [Act.put, List.setIfInBounds_toArray, List.set_cons_zero, List.set_cons_succ, i64_w, i32_w]; rfl
 refine take_ (i := 1) (N := some 15) (v := ?_) (a' := ?_) #[true, true, false, false, false, false, false] rfl rfl (take_ofW HT_.out HW_.out (by kernel_rfl)) (fun _ _ _ h => h) (Or.inl ⟨by rfl, ?_⟩) hHeld ?_ ?_
 rotate_left
 ·rintro w' ⟨E, I⟩
  have z0 : w'.cell? ⟨gx, 0, none⟩ = some (.int .u64 tr) := (blk_cell E 0).trans rfl
  go_simp
  with_reducible rfl
 rotate_left
 ·simp only [Act.put, List.setIfInBounds_toArray, List.set_cons_zero, List.set_cons_succ, i64_w, i32_w]; rfl
 refine pure_ (i := 2) (N := some 16) (v := ?_) (a' := ?_) #[true, true, true, false, false, false, false] rfl rfl (any_of HT_.out (by kernel_rfl)) (fun _ _ _ h => h) (Or.inl ⟨by rfl, ?_⟩) ?_ ?_
 rotate_left
 ·intro w'; go_simp; with_reducible rfl
 rotate_left
 ·simp only [Act.put, List.setIfInBounds_toArray, List.set_cons_zero, List.set_cons_succ, i64_w, i32_w]; rfl
 refine take_ (i := 3) (N := some 17) (v := ?_) (a' := ?_) #[true, true, true, true, false, false, false] rfl rfl (take_ofW HT_.out HW_.out (by kernel_rfl)) (fun _ _ _ h => h) (Or.inl ⟨by rfl, ?_⟩) hHeld ?_ ?_
 rotate_left
 ·rintro w' ⟨E, I⟩
  have z2 : w'.cell? ⟨gx, 2, none⟩ = some (.slice A l.length c) := (blk_cell E 2).trans rfl
  go_simp
  with_reducible rfl
 rotate_left
 ·simp only [Act.put, List.setIfInBounds_toArray, List.set_cons_zero, List.set_cons_succ, i64_w, i32_w]; rfl
 refine one_ (i := 4) (N := some 18) #[true, true, true, true, true, false, false] rfl rfl (one_of HT_.out (by kernel_rfl)) (by decide) (fun K hK => ?_)
 refine goes_ Try.func57 (by kernel_rfl) rfl #[.slice A l.length c] (by rfl) rfl rfl (by (try simp only [List.map_toArray, List.map_cons, List.map_nil]); (rfl)) ?_
 with_reducible refine (api_Span_57.calls A c l l _ (Kd.C_below HC.out hHeld.2) hc HCL.out).mono ?_
 rintro e w3 ⟨v1, rfl, hR, hb⟩ ; obtain ⟨Av, cv, rfl⟩ := Kd.R_slice hR
 refine ⟨_, rfl, ?_⟩
 have HR := Aside0.mk (Kd.R_mono (ok' := fun k => k ≠ gp) (Kd.R_lower (Kd.R_newB hR BPd.out) hHeld.2.size) (fun _ h => h.2))
 clear hR; have BP3 := Aside0.mk (blk_below BPd.out hb)
 refine hK.out _ _ ⟨blk_below hHeld.1 hb, below_step hHeld.2 hb⟩ (fun hHeld => ?_)
 clear hK K
 refine norm_ (a' := ?_) ?_ ?_
 rotate_left
 ·show Act.put _ (some 18) _ = _; simp only [Act.put, List.setIfInBounds_toArray, List.set_cons_zero, List.set_cons_succ, i64_w, i32_w]; rfl
 refine pure_ (i := 5) (N := some 19) (v := ?_) (a' := ?_) #[true, true, true, true, true, true, false] rfl rfl (any_of HT_.out (by kernel_rfl)) (fun _ _ _ h => h) (Or.inl ⟨by rfl, ?_⟩) ?_ ?_
 rotate_left
 ·intro w'; go_simp; with_reducible rfl
 rotate_left
 ·simp only [Act.put, List.setIfInBounds_toArray, List.set_cons_zero, List.set_cons_succ, i64_w, i32_w]; rfl
 refine one_ (i := 6) (N := none) #[true, true, true, true, true, true, true] rfl rfl (one_of HT_.out (by kernel_rfl)) (by decide) (fun K hK => ?_)
 obtain ⟨hs_0, hs_1, hs_2, hs_3, hs_4, hs_5, hs_6, hs_7, hs_8, hs_9, hs_10⟩ := Hand.Cz.c11 BP3.out
 obtain ⟨hf_0, hf_1, hf_2, hf_3, hf_4, hf_5, hf_6, hf_7, hf_8, hf_9, hf_10⟩ := Hand.Cz.f11 BP3.out
 refine skip_ (w1 := ?_) (by rfl) rfl ?_ ?_
 rotate_left
 ·go_simp; rfl
 refine hK.out _ _ ⟨(Hand.Cz.o11 hHeld.1 hne2), (Hand.Cz.b11 hHeld.2 HGP.out)⟩ (fun hHeld => ?_)
 clear hK K
 refine done_ (done_of HT_.out (by kernel_rfl)) ?_
 clear hs_0 hf_0 hs_1 hf_1 hs_2 hf_2 hs_3 hf_3 hs_4 hf_4 hs_5 hf_5 hs_6 hf_6 hs_7 hf_7 hs_8 hf_8 hs_9 hf_9 hs_10 hf_10
 generalize hW2 : World.setCell _ (Addr.mk gp 10 none) _ = W2 at hHeld ⊢
 have BQ := Aside0.mk (show W2.heap[gp]? = some (.cells #[.int .i64 1, .int .u64 tr, .int .u64 0, .int .u64 0, .int .u64 0, .int .u64 0, .int .i64 0, .bool false, .slice Av l.length cv, .slice none 0 0, .slice none 0 0] 30 (0, 0)) from by rw [← hW2]; exact Hand.Cz.p11 BP3.out)
 have HBQ := Aside0.mk hHeld.2
 have HRQ := Aside0.mk (show Kd.R k76 76 W2 w.heap.size (fun k => k ≠ gp) (.slice Av l.length cv) l from by rw [← hW2]; exact (Hand.Cz.r11 HR.out))
 have BXQ := Aside0.mk hHeld.1; clear hW2 hHeld HR BP3 BX BP HB
 obtain ⟨hx_0, hx_1, hx_2⟩ := Hand.Cz.c3 BXQ.out
 obtain ⟨hq_0, hq_1, hq_2, hq_3, hq_4, hq_5, hq_6, hq_7, hq_8, hq_9, hq_10⟩ := Hand.Cz.c11 BQ.out
 obtain ⟨hg_0, hg_1, hg_2, hg_3, hg_4, hg_5, hg_6, hg_7, hg_8, hg_9, hg_10⟩ := Hand.Cz.f11 BQ.out
 go_upto_region 29 with fail
 generalize hW3 : World.setCell _ (Addr.mk gp 0 none) (.int .i64 2) = W3
 have BQ3 := Aside0.mk (show W3.heap[gp]? = some (.cells #[.int .i64 2, .int .u64 tr, .int .u64 0, .int .u64 0, .int .u64 0, .int .u64 0, .int .i64 0, .bool false, .slice Av l.length cv, .slice none 0 0, .slice none 0 0] 30 (0, 0)) from by rw [← hW3]; exact (blk_set BQ.out 0 _).trans rfl)
 have HBQ3 := Aside0.mk (show Below w.heap.size w W3 from by rw [← hW3]; exact below_set HBQ.out HGP.out)
 have HRQ3 := Aside0.mk (show Kd.R k76 76 W3 w.heap.size (fun k => k ≠ gp) (.slice Av l.length cv) l from by rw [← hW3]; exact (Hand.Cz.r1 HRQ.out))
 clear hW3 hq_0 hg_0 hq_1 hg_1 hq_2 hg_2 hq_3 hg_3 hq_4 hg_4 hq_5 hg_5 hq_6 hg_6 hq_7 hg_7 hq_8 hg_8 hq_9 hg_9 hq_10 hg_10 hx_0 hx_1 hx_2
 obtain ⟨hq_0, hq_1, hq_2, hq_3, hq_4, hq_5, hq_6, hq_7, hq_8, hq_9, hq_10⟩ := Hand.Cz.c11 BQ3.out
 obtain ⟨hg_0, hg_1, hg_2, hg_3, hg_4, hg_5, hg_6, hg_7, hg_8, hg_9, hg_10⟩ := Hand.Cz.f11 BQ3.out
 go_wp2
 refine bodyPost_ret (results_cell_row rfl _ _ gp 30 #[.int .i64 2, .int .u64 tr, .int .u64 0, .int .u64 0, .int .u64 0, .int .u64 0, .int .i64 0, .bool false, .slice Av l.length cv, .slice none 0 0, .slice none 0 0] (0, 0) _ rfl (Hand.Cz.p11 BQ3.out) Try.underlying30 rfl (by kernel_rfl)) rfl ?_
 exact ⟨_, rfl, Kd.R_mono (Hand.Cz.r11 HRQ3.out) (fun _ _ => trivial), (Hand.Cz.b11 HBQ3.out HGP.out)⟩

def message_Right.T31_25 : Bool × List (List Nat × List Nat) := (true, [([], []), ([0], [0]), ([], []), ([2], [2]), ([], []), ([4], [4]), ([5], [5]), ([1, 3, 6], [1, 3, 6]), ([7, 6, 0, 1, 2, 3, 4, 5, 6, 7], [7])])
def message_Right.B31_25 : List Nat := [0, 1, 0, 4, 0, 16, 48, 127, 255]
theorem message_Right.tab31_25 : rtab .any (opsOf Try.f31 25) = message_Right.T31_25 := by kernel_rfl
theorem message_Right.bits31_25 : waitsOk message_Right.T31_25.2 message_Right.B31_25 = true := by kernel_rfl
set_option maxHeartbeats 8000000 in
set_option maxRecDepth 100000 in
theorem message_Right.packet66 (tr bn bd : Int) (A : Option Addr) (c : Nat) (l : List S76) (w : World) (hC : Kd.C k76 w A l.length l) (hc : l.length ≤ c) (hl : l.length ≤ 1000) :
  Calls Try.prog 31 #[.iface 66 (.agg #[.int .u64 tr, .int .u64 bn, .int .u64 bd, .slice A l.length c])] w fun e w' => ∃ v1_ : Value, e = .returned (.agg #[.int .i64 9, .int .u64 tr, .int .u64 bn, .int .u64 bd, .int .u64 0, .int .u64 0, .int .i64 0, .bool false, v1_, .slice none 0 0, .slice none 0 0]) ∧ Kd.R k76 76 w' w.heap.size (fun _ => True) v1_ l ∧ Below w.heap.size w w' := by
 have hu30 := Try.underlying30; have hu24 := Try.underlying24; have hu51 := Try.underlying51; have hu54 := Try.underlying54; have hu57 := Try.underlying57; have hu60 := Try.underlying60; have hu63 := Try.underlying63; have hu66 := Try.underlying66; have hu69 := Try.underlying69; have ta51 := message_Right.ta66_51 (.agg #[.int .u64 tr, .int .u64 bn, .int .u64 bd, .slice A l.length c]); have ta54 := message_Right.ta66_54 (.agg #[.int .u64 tr, .int .u64 bn, .int .u64 bd, .slice A l.length c]); have ta57 := message_Right.ta66_57 (.agg #[.int .u64 tr, .int .u64 bn, .int .u64 bd, .slice A l.length c]); have ta60 := message_Right.ta66_60 (.agg #[.int .u64 tr, .int .u64 bn, .int .u64 bd, .slice A l.length c]); have ta63 := message_Right.ta66_63 (.agg #[.int .u64 tr, .int .u64 bn, .int .u64 bd, .slice A l.length c]); have ta66 := message_Right.ta66_66 (.agg #[.int .u64 tr, .int .u64 bn, .int .u64 bd, .slice A l.length c]); have HC := Aside0.mk hC; have HCL := Aside0.mk (show api_Span_57.f l = some l from if_pos (by omega)); clear hC
 go_enter Try.func31, Try.ntmps31
 go_upto_region 25 with (first | ((with_reducible refine gate_dst (N := 2) rfl ?_); refine box_event ?hg (N := 2) ?hd (cs := #[.int .i64 0, .int .u64 0, .int .u64 0, .int .u64 0, .int .u64 0, .int .u64 0, .int .i64 0, .bool false, .slice none 0 0, .slice none 0 0, .slice none 0 0]) (t := 30) ?hr ?_; (case hd => rfl); (case hg => rfl); (case hr => (go_simp; done)); intro gp hg w1 hbox hb; have HGP := Aside0.mk (show w.heap.size ≤ gp from Nat.le_of_eq hg.symm); have BP1 := Aside0.mk hbox; have HB1 := Aside0.mk hb; have HLT := Aside0.mk (show gp < w1.heap.size from blk_lt hbox); clear hg hbox hb) | ((with_reducible refine gate_dst (N := 8) rfl ?_); refine box_event ?hg (N := 8) ?hd (cs := #[.int .u64 0, .int .u64 0, .int .u64 0, .slice none 0 0]) (t := 66) ?hr ?_; (case hd => rfl); (case hg => rfl); (case hr => (go_simp; done)); intro gx hg w2 hbox hb; have hne : gp ≠ gx := (by have := HLT.out; omega); have hne2 : gx ≠ gp := hne.symm; have HGX := Aside0.mk (show w.heap.size ≤ gx from by have := HLT.out; have := HGP.out; omega); have BX2 := Aside0.mk hbox; have BP2 := Aside0.mk (blk_below BP1.out hb); have HB2 := Aside0.mk (below_step HB1.out hb); clear hg hbox hb BP1 HB1; obtain ⟨hxz_0, hxz_1, hxz_2, hxz_3⟩ := Hand.Cz.c4 BX2.out; obtain ⟨hxf_0, hxf_1, hxf_2, hxf_3⟩ := Hand.Cz.f4 BX2.out))
 generalize hW1 : World.setCell _ (Addr.mk gx 3 none) _ = W1
 have BX := Aside0.mk (show W1.heap[gx]? = some (.cells #[.int .u64 tr, .int .u64 bn, .int .u64 bd, .slice A l.length c] 66 (0, 0)) from by rw [← hW1]; exact Hand.Cz.p4 BX2.out)
 have BP := Aside0.mk (show W1.heap[gp]? = some (.cells #[.int .i64 0, .int .u64 0, .int .u64 0, .int .u64 0, .int .u64 0, .int .u64 0, .int .i64 0, .bool false, .slice none 0 0, .slice none 0 0, .slice none 0 0] 30 (0, 0)) from by rw [← hW1]; exact (Hand.Cz.o4 BP2.out hne))
 have HB := Aside0.mk (show Below w.heap.size w W1 from by rw [← hW1]; exact (Hand.Cz.b4 HB2.out HGX.out))
 clear hW1 BX2 BP2 HB2 hxz_0 hxf_0 hxz_1 hxf_1 hxz_2 hxf_2 hxz_3 hxf_3; have BPd := Aside0.mk (blk_drew BP.out)
 refine start_ (n := 9) (S := fun w' => w'.heap[gx]? = some (.cells #[.int .u64 tr, .int .u64 bn, .int .u64 bd, .slice A l.length c] 66 (0, 0)) ∧ Below w.heap.size w w') (ds := []) #[false, false, false, false, false, false, false, false, false] (by kernel_rfl) rfl rfl ⟨blk_drew BX.out, below_drew1 HB.out⟩ (fun hHeld => ?_)
 refine with_tabW message_Right.tab31_25 message_Right.bits31_25 (fun HT_ HW_ => ?_)
 generalize W1.drew = wd at hHeld BPd ⊢
 refine pure_ (i := 0) (N := some 72) (v := ?_) (a' := ?_) #[true, false, false, false, false, false, false, false, false] rfl rfl (any_of HT_.out (by kernel_rfl)) (fun _ _ _ h => h) (Or.inl ⟨by rfl, ?_⟩) ?_ ?_
 rotate_left
 ·intro w'; go_simp; with_reducible rfl
 rotate_left
 ·simp only [Act.put, List.setIfInBounds_toArray, List.set_cons_zero, List.set_cons_succ, i64_w, i32_w]; rfl
 refine take_ (i := 1) (N := some 73) (v := ?_) (a' := ?_) #[true, true, false, false, false, false, false, false, false] rfl rfl (take_ofW HT_.out HW_.out (by kernel_rfl)) (fun _ _ _ h => h) (Or.inl ⟨by rfl, ?_⟩) hHeld ?_ ?_
 rotate_left
 ·rintro w' ⟨E, I⟩
  have z0 : w'.cell? ⟨gx, 0, none⟩ = some (.int .u64 tr) := (blk_cell E 0).trans rfl
  go_simp
  with_reducible rfl
 rotate_left
 ·simp only [Act.put, List.setIfInBounds_toArray, List.set_cons_zero, List.set_cons_succ, i64_w, i32_w]; rfl
 refine pure_ (i := 2) (N := some 74) (v := ?_) (a' := ?_) #[true, true, true, false, false, false, false, false, false] rfl rfl (any_of HT_.out (by kernel_rfl)) (fun _ _ _ h => h) (Or.inl ⟨by rfl, ?_⟩) ?_ ?_
 rotate_left
 ·intro w'; go_simp; with_reducible rfl
 rotate_left
 ·simp only [Act.put, List.setIfInBounds_toArray, List.set_cons_zero, List.set_cons_succ, i64_w, i32_w]; rfl
 refine take_ (i := 3) (N := some 75) (v := ?_) (a' := ?_) #[true, true, true, true, false, false, false, false, false] rfl rfl (take_ofW HT_.out HW_.out (by kernel_rfl)) (fun _ _ _ h => h) (Or.inl ⟨by rfl, ?_⟩) hHeld ?_ ?_
 rotate_left
 ·rintro w' ⟨E, I⟩
  have z1 : w'.cell? ⟨gx, 1, none⟩ = some (.int .u64 bn) := (blk_cell E 1).trans rfl; have z2 : w'.cell? ⟨gx, 2, none⟩ = some (.int .u64 bd) := (blk_cell E 2).trans rfl
  go_simp
  with_reducible rfl
 rotate_left
 ·simp only [Act.put, List.setIfInBounds_toArray, List.set_cons_zero, List.set_cons_succ, i64_w, i32_w]; rfl
 refine pure_ (i := 4) (N := some 76) (v := ?_) (a' := ?_) #[true, true, true, true, true, false, false, false, false] rfl rfl (any_of HT_.out (by kernel_rfl)) (fun _ _ _ h => h) (Or.inl ⟨by rfl, ?_⟩) ?_ ?_
 rotate_left
 ·intro w'; go_simp; with_reducible rfl
 rotate_left
 ·simp only [Act.put, List.setIfInBounds_toArray, List.set_cons_zero, List.set_cons_succ, i64_w, i32_w]; rfl
 refine take_ (i := 5) (N := some 77) (v := ?_) (a' := ?_) #[true, true, true, true, true, true, false, false, false] rfl rfl (take_ofW HT_.out HW_.out (by kernel_rfl)) (fun _ _ _ h => h) (Or.inl ⟨by rfl, ?_⟩) hHeld ?_ ?_
 rotate_left
 ·rintro w' ⟨E, I⟩
  have z3 : w'.cell? ⟨gx, 3, none⟩ = some (.slice A l.length c) := (blk_cell E 3).trans rfl
  go_simp
  with_reducible rfl
 rotate_left
 ·simp only [Act.put, List.setIfInBounds_toArray, List.set_cons_zero, List.set_cons_succ, i64_w, i32_w]; rfl
 refine one_ (i := 6) (N := some 78) #[true, true, true, true, true, true, true, false, false] rfl rfl (one_of HT_.out (by kernel_rfl)) (by decide) (fun K hK => ?_)
 refine goes_ Try.func57 (by kernel_rfl) rfl #[.slice A l.length c] (by rfl) rfl rfl (by (try simp only [List.map_toArray, List.map_cons, List.map_nil]); (rfl)) ?_
 with_reducible refine (api_Span_57.calls A c l l _ (Kd.C_below HC.out hHeld.2) hc HCL.out).mono ?_
 rintro e w3 ⟨v1, rfl, hR, hb⟩ ; obtain ⟨Av, cv, rfl⟩ := Kd.R_slice hR
 refine ⟨_, rfl, ?_⟩
 have HR := Aside0.mk (Kd.R_mono (ok' := fun k => k ≠ gp) (Kd.R_lower (Kd.R_newB hR BPd.out) hHeld.2.size) (fun _ h => h.2))
 clear hR; have BP3 := Aside0.mk (blk_below BPd.out hb)
 refine hK.out _ _ ⟨blk_below hHeld.1 hb, below_step hHeld.2 hb⟩ (fun hHeld => ?_)
 clear hK K
 refine norm_ (a' := ?_) ?_ ?_
 rotate_left
 ·show Act.put _ (some 78) _ = _; simp only [Act.put, List.setIfInBounds_toArray, List.set_cons_zero, List.set_cons_succ, i64_w, i32_w]; rfl
 refine pure_ (i := 7) (N := some 79) (v := ?_) (a' := ?_) #[true, true, true, true, true, true, true, true, false] rfl rfl (any_of HT_.out (by kernel_rfl)) (fun _ _ _ h => h) (Or.inl ⟨by rfl, ?_⟩) ?_ ?_
 rotate_left
 ·intro w'; go_simp; with_reducible rfl
 rotate_left
 ·simp only [Act.put, List.setIfInBounds_toArray, List.set_cons_zero, List.set_cons_succ, i64_w, i32_w]; rfl
 refine one_ (i := 8) (N := none) #[true, true, true, true, true, true, true, true, true] rfl rfl (one_of HT_.out (by kernel_rfl)) (by decide) (fun K hK => ?_)
 obtain ⟨hs_0, hs_1, hs_2, hs_3, hs_4, hs_5, hs_6, hs_7, hs_8, hs_9, hs_10⟩ := Hand.Cz.c11 BP3.out
 obtain ⟨hf_0, hf_1, hf_2, hf_3, hf_4, hf_5, hf_6, hf_7, hf_8, hf_9, hf_10⟩ := Hand.Cz.f11 BP3.out
 refine skip_ (w1 := ?_) (by rfl) rfl ?_ ?_
 rotate_left
 ·go_simp; rfl
 refine hK.out _ _ ⟨(Hand.Cz.o11 hHeld.1 hne2), (Hand.Cz.b11 hHeld.2 HGP.out)⟩ (fun hHeld => ?_)
 clear hK K
 refine done_ (done_of HT_.out (by kernel_rfl)) ?_
 clear hs_0 hf_0 hs_1 hf_1 hs_2 hf_2 hs_3 hf_3 hs_4 hf_4 hs_5 hf_5 hs_6 hf_6 hs_7 hf_7 hs_8 hf_8 hs_9 hf_9 hs_10 hf_10
 generalize hW2 : World.setCell _ (Addr.mk gp 10 none) _ = W2 at hHeld ⊢
 have BQ := Aside0.mk (show W2.heap[gp]? = some (.cells #[.int .i64 9, .int .u64 tr, .int .u64 bn, .int .u64 bd, .int .u64 0, .int .u64 0, .int .i64 0, .bool false, .slice Av l.length cv, .slice none 0 0, .slice none 0 0] 30 (0, 0)) from by rw [← hW2]; exact Hand.Cz.p11 BP3.out)
 have HBQ := Aside0.mk hHeld.2
 have HRQ := Aside0.mk (show Kd.R k76 76 W2 w.heap.size (fun k => k ≠ gp) (.slice Av l.length cv) l from by rw [← hW2]; exact (Hand.Cz.r11 HR.out))
 have BXQ := Aside0.mk hHeld.1; clear hW2 hHeld HR BP3 BX BP HB
 obtain ⟨hx_0, hx_1, hx_2, hx_3⟩ := Hand.Cz.c4 BXQ.out
 obtain ⟨hq_0, hq_1, hq_2, hq_3, hq_4, hq_5, hq_6, hq_7, hq_8, hq_9, hq_10⟩ := Hand.Cz.c11 BQ.out
 obtain ⟨hg_0, hg_1, hg_2, hg_3, hg_4, hg_5, hg_6, hg_7, hg_8, hg_9, hg_10⟩ := Hand.Cz.f11 BQ.out
 go_wp2
 refine bodyPost_ret (results_cell_row rfl _ _ gp 30 #[.int .i64 9, .int .u64 tr, .int .u64 bn, .int .u64 bd, .int .u64 0, .int .u64 0, .int .i64 0, .bool false, .slice Av l.length cv, .slice none 0 0, .slice none 0 0] (0, 0) _ rfl (Hand.Cz.p11 BQ.out) Try.underlying30 rfl (by kernel_rfl)) rfl ?_
 exact ⟨_, rfl, Kd.R_mono (Hand.Cz.r11 HRQ.out) (fun _ _ => trivial), (Hand.Cz.b11 HBQ.out HGP.out)⟩

def message_Right.T31_28 : Bool × List (List Nat × List Nat) := (true, [([], []), ([0], [0]), ([], []), ([2], [2]), ([3], [3]), ([1, 4], [1, 4]), ([5, 4, 0, 1, 2, 3, 4, 5], [5])])
def message_Right.B31_28 : List Nat := [0, 1, 0, 4, 12, 31, 63]
theorem message_Right.tab31_28 : rtab .any (opsOf Try.f31 28) = message_Right.T31_28 := by kernel_rfl
theorem message_Right.bits31_28 : waitsOk message_Right.T31_28.2 message_Right.B31_28 = true := by kernel_rfl
set_option maxHeartbeats 8000000 in
set_option maxRecDepth 100000 in
theorem message_Right.packet69 (tr : Int) (A : Option Addr) (c : Nat) (l : List Int) (w : World) (hC : Kd.C (Kd.int .u64) w A l.length l) (hc : l.length ≤ c) (hl : l.length ≤ 1000) :
  Calls Try.prog 31 #[.iface 69 (.agg #[.int .u64 tr, .slice A l.length c])] w fun e w' => ∃ v1_ : Value, e = .returned (.agg #[.int .i64 10, .int .u64 tr, .int .u64 0, .int .u64 0, .int .u64 0, .int .u64 0, .int .i64 0, .bool false, .slice none 0 0, .slice none 0 0, v1_]) ∧ Kd.R (Kd.int .u64) 22 w' w.heap.size (fun _ => True) v1_ l ∧ Below w.heap.size w w' := by
 have hu30 := Try.underlying30; have hu24 := Try.underlying24; have hu51 := Try.underlying51; have hu54 := Try.underlying54; have hu57 := Try.underlying57; have hu60 := Try.underlying60; have hu63 := Try.underlying63; have hu66 := Try.underlying66; have hu69 := Try.underlying69; have ta51 := message_Right.ta69_51 (.agg #[.int .u64 tr, .slice A l.length c]); have ta54 := message_Right.ta69_54 (.agg #[.int .u64 tr, .slice A l.length c]); have ta57 := message_Right.ta69_57 (.agg #[.int .u64 tr, .slice A l.length c]); have ta60 := message_Right.ta69_60 (.agg #[.int .u64 tr, .slice A l.length c]); have ta63 := message_Right.ta69_63 (.agg #[.int .u64 tr, .slice A l.length c]); have ta66 := message_Right.ta69_66 (.agg #[.int .u64 tr, .slice A l.length c]); have ta69 := message_Right.ta69_69 (.agg #[.int .u64 tr, .slice A l.length c]); have HC := Aside0.mk hC; have HCL := Aside0.mk (show slices_Clone_uint64_uint64.f l = some l from if_pos (by omega)); clear hC
 go_enter Try.func31, Try.ntmps31
 go_upto_region 28 with (first | ((with_reducible refine gate_dst (N := 2) rfl ?_); refine box_event ?hg (N := 2) ?hd (cs := #[.int .i64 0, .int .u64 0, .int .u64 0, .int .u64 0, .int .u64 0, .int .u64 0, .int .i64 0, .bool false, .slice none 0 0, .slice none 0 0, .slice none 0 0]) (t := 30) ?hr ?_; (case hd => rfl); (case hg => rfl); (case hr => (go_simp; done)); intro gp hg w1 hbox hb; have HGP := Aside0.mk (show w.heap.size ≤ gp from Nat.le_of_eq hg.symm); have BP1 := Aside0.mk hbox; have HB1 := Aside0.mk hb; have HLT := Aside0.mk (show gp < w1.heap.size from blk_lt hbox); clear hg hbox hb) | ((with_reducible refine gate_dst (N := 9) rfl ?_); refine box_event ?hg (N := 9) ?hd (cs := #[.int .u64 0, .slice none 0 0]) (t := 69) ?hr ?_; (case hd => rfl); (case hg => rfl); (case hr => (go_simp; done)); intro gx hg w2 hbox hb; have hne : gp ≠ gx := (by have := HLT.out; omega); have hne2 : gx ≠ gp := hne.symm; have HGX := Aside0.mk (show w.heap.size ≤ gx from by have := HLT.out; have := HGP.out; omega); have BX2 := Aside0.mk hbox; have BP2 := Aside0.mk (blk_below BP1.out hb); have HB2 := Aside0.mk (below_step HB1.out hb); clear hg hbox hb BP1 HB1; obtain ⟨hxz_0, hxz_1⟩ := Hand.Cz.c2 BX2.out; obtain ⟨hxf_0, hxf_1⟩ := Hand.Cz.f2 BX2.out))
 generalize hW1 : World.setCell _ (Addr.mk gx 1 none) _ = W1
 have BX := Aside0.mk (show W1.heap[gx]? = some (.cells #[.int .u64 tr, .slice A l.length c] 69 (0, 0)) from by rw [← hW1]; exact Hand.Cz.p2 BX2.out)
 have BP := Aside0.mk (show W1.heap[gp]? = some (.cells #[.int .i64 0, .int .u64 0, .int .u64 0, .int .u64 0, .int .u64 0, .int .u64 0, .int .i64 0, .bool false, .slice none 0 0, .slice none 0 0, .slice none 0 0] 30 (0, 0)) from by rw [← hW1]; exact (Hand.Cz.o2 BP2.out hne))
 have HB := Aside0.mk (show Below w.heap.size w W1 from by rw [← hW1]; exact (Hand.Cz.b2 HB2.out HGX.out))
 clear hW1 BX2 BP2 HB2 hxz_0 hxf_0 hxz_1 hxf_1; have BPd := Aside0.mk (blk_drew BP.out)
 refine start_ (n := 7) (S := fun w' => w'.heap[gx]? = some (.cells #[.int .u64 tr, .slice A l.length c] 69 (0, 0)) ∧ Below w.heap.size w w') (ds := []) #[false, false, false, false, false, false, false] (by kernel_rfl) rfl rfl ⟨blk_drew BX.out, below_drew1 HB.out⟩ (fun hHeld => ?_)
 refine with_tabW message_Right.tab31_28 message_Right.bits31_28 (fun HT_ HW_ => ?_)
 generalize W1.drew = wd at hHeld BPd ⊢
 refine pure_ (i := 0) (N := some 83) (v := ?_) (a' := ?_) #[true, false, false, false, false, false, false] rfl rfl (any_of HT_.out (by kernel_rfl)) (fun _ _ _ h => h) (Or.inl ⟨by rfl, ?_⟩) ?_ ?_
 rotate_left
 ·intro w'; go_simp; with_reducible rfl
 rotate_left
 ·simp only [Act.put, List.setIfInBounds_toArray, List.set_cons_zero, List.set_cons_succ, i64_w, i32_w]; rfl
 refine take_ (i := 1) (N := some 84) (v := ?_) (a' := ?_) #[true, true, false, false, false, false, false] rfl rfl (take_ofW HT_.out HW_.out (by kernel_rfl)) (fun _ _ _ h => h) (Or.inl ⟨by rfl, ?_⟩) hHeld ?_ ?_
 rotate_left
 ·rintro w' ⟨E, I⟩
  have z0 : w'.cell? ⟨gx, 0, none⟩ = some (.int .u64 tr) := (blk_cell E 0).trans rfl
  go_simp
  with_reducible rfl
 rotate_left
 ·simp only [Act.put, List.setIfInBounds_toArray, List.set_cons_zero, List.set_cons_succ, i64_w, i32_w]; rfl
 refine pure_ (i := 2) (N := some 85) (v := ?_) (a' := ?_) #[true, true, true, false, false, false, false] rfl rfl (any_of HT_.out (by kernel_rfl)) (fun _ _ _ h => h) (Or.inl ⟨by rfl, ?_⟩) ?_ ?_
 rotate_left
 ·intro w'; go_simp; with_reducible rfl
 rotate_left
 ·simp only [Act.put, List.setIfInBounds_toArray, List.set_cons_zero, List.set_cons_succ, i64_w, i32_w]; rfl
 refine take_ (i := 3) (N := some 86) (v := ?_) (a' := ?_) #[true, true, true, true, false, false, false] rfl rfl (take_ofW HT_.out HW_.out (by kernel_rfl)) (fun _ _ _ h => h) (Or.inl ⟨by rfl, ?_⟩) hHeld ?_ ?_
 rotate_left
 ·rintro w' ⟨E, I⟩
  have z1 : w'.cell? ⟨gx, 1, none⟩ = some (.slice A l.length c) := (blk_cell E 1).trans rfl
  go_simp
  with_reducible rfl
 rotate_left
 ·simp only [Act.put, List.setIfInBounds_toArray, List.set_cons_zero, List.set_cons_succ, i64_w, i32_w]; rfl
 refine one_ (i := 4) (N := some 87) #[true, true, true, true, true, false, false] rfl rfl (one_of HT_.out (by kernel_rfl)) (by decide) (fun K hK => ?_)
 refine goes_ Try.func59 (by kernel_rfl) rfl #[.slice A l.length c] (by rfl) rfl rfl (by (try simp only [List.map_toArray, List.map_cons, List.map_nil]); (rfl)) ?_
 with_reducible refine (slices_Clone_uint64_uint64.calls A c l l _ (Kd.C_below HC.out hHeld.2) hc HCL.out).mono ?_
 rintro e w3 ⟨v1, rfl, hR, hb⟩ ; obtain ⟨Av, cv, rfl⟩ := Kd.R_slice hR
 refine ⟨_, rfl, ?_⟩
 have HR := Aside0.mk (Kd.R_mono (ok' := fun k => k ≠ gp) (Kd.R_lower (Kd.R_newB hR BPd.out) hHeld.2.size) (fun _ h => h.2))
 clear hR; have BP3 := Aside0.mk (blk_below BPd.out hb)
 refine hK.out _ _ ⟨blk_below hHeld.1 hb, below_step hHeld.2 hb⟩ (fun hHeld => ?_)
 clear hK K
 refine norm_ (a' := ?_) ?_ ?_
 rotate_left
 ·show Act.put _ (some 87) _ = _; simp only [Act.put, List.setIfInBounds_toArray, List.set_cons_zero, List.set_cons_succ, i64_w, i32_w]; rfl
 refine pure_ (i := 5) (N := some 88) (v := ?_) (a' := ?_) #[true, true, true, true, true, true, false] rfl rfl (any_of HT_.out (by kernel_rfl)) (fun _ _ _ h => h) (Or.inl ⟨by rfl, ?_⟩) ?_ ?_
 rotate_left
 ·intro w'; go_simp; with_reducible rfl
 rotate_left
 ·simp only [Act.put, List.setIfInBounds_toArray, List.set_cons_zero, List.set_cons_succ, i64_w, i32_w]; rfl
 refine one_ (i := 6) (N := none) #[true, true, true, true, true, true, true] rfl rfl (one_of HT_.out (by kernel_rfl)) (by decide) (fun K hK => ?_)
 obtain ⟨hs_0, hs_1, hs_2, hs_3, hs_4, hs_5, hs_6, hs_7, hs_8, hs_9, hs_10⟩ := Hand.Cz.c11 BP3.out
 obtain ⟨hf_0, hf_1, hf_2, hf_3, hf_4, hf_5, hf_6, hf_7, hf_8, hf_9, hf_10⟩ := Hand.Cz.f11 BP3.out
 refine skip_ (w1 := ?_) (by rfl) rfl ?_ ?_
 rotate_left
 ·go_simp; rfl
 refine hK.out _ _ ⟨(Hand.Cz.o11 hHeld.1 hne2), (Hand.Cz.b11 hHeld.2 HGP.out)⟩ (fun hHeld => ?_)
 clear hK K
 refine done_ (done_of HT_.out (by kernel_rfl)) ?_
 clear hs_0 hf_0 hs_1 hf_1 hs_2 hf_2 hs_3 hf_3 hs_4 hf_4 hs_5 hf_5 hs_6 hf_6 hs_7 hf_7 hs_8 hf_8 hs_9 hf_9 hs_10 hf_10
 generalize hW2 : World.setCell _ (Addr.mk gp 10 none) _ = W2 at hHeld ⊢
 have BQ := Aside0.mk (show W2.heap[gp]? = some (.cells #[.int .i64 10, .int .u64 tr, .int .u64 0, .int .u64 0, .int .u64 0, .int .u64 0, .int .i64 0, .bool false, .slice none 0 0, .slice none 0 0, .slice Av l.length cv] 30 (0, 0)) from by rw [← hW2]; exact Hand.Cz.p11 BP3.out)
 have HBQ := Aside0.mk hHeld.2
 have HRQ := Aside0.mk (show Kd.R (Kd.int .u64) 22 W2 w.heap.size (fun k => k ≠ gp) (.slice Av l.length cv) l from by rw [← hW2]; exact (Hand.Cz.r11 HR.out))
 have BXQ := Aside0.mk hHeld.1; clear hW2 hHeld HR BP3 BX BP HB
 obtain ⟨hx_0, hx_1⟩ := Hand.Cz.c2 BXQ.out
 obtain ⟨hq_0, hq_1, hq_2, hq_3, hq_4, hq_5, hq_6, hq_7, hq_8, hq_9, hq_10⟩ := Hand.Cz.c11 BQ.out
 obtain ⟨hg_0, hg_1, hg_2, hg_3, hg_4, hg_5, hg_6, hg_7, hg_8, hg_9, hg_10⟩ := Hand.Cz.f11 BQ.out
 go_wp2
 refine bodyPost_ret (results_cell_row rfl _ _ gp 30 #[.int .i64 10, .int .u64 tr, .int .u64 0, .int .u64 0, .int .u64 0, .int .u64 0, .int .i64 0, .bool false, .slice none 0 0, .slice none 0 0, .slice Av l.length cv] (0, 0) _ rfl (Hand.Cz.p11 BQ.out) Try.underlying30 rfl (by kernel_rfl)) rfl ?_
 exact ⟨_, rfl, Kd.R_mono (Hand.Cz.r11 HRQ.out) (fun _ _ => trivial), (Hand.Cz.b11 HBQ.out HGP.out)⟩

def message_Right.T13_2 : Bool × List (List Nat × List Nat) := (true, [([], []), ([0], [0]), ([1], [1]), ([2], [2]), ([3, 2, 2], [2, 3]), ([4, 2], [2, 4]), ([2, 5], [2, 5]), ([6, 4], [6]), ([7], [7]), ([7], [7]), ([9, 7, 7], [7, 9]), ([8, 10, 10, 7], [7, 8, 10]), ([11, 7], [7, 11]), ([7, 12], [7, 12])])
def message_Right.B13_2 : List Nat := [0, 1, 3, 7, 15, 31, 63, 127, 255, 255, 767, 2047, 4095, 8191]
theorem message_Right.tab13_2 : rtab .any (opsOf Try.f13 2) = message_Right.T13_2 := by kernel_rfl
theorem message_Right.bits13_2 : waitsOk message_Right.T13_2.2 message_Right.B13_2 = true := by kernel_rfl
set_option maxHeartbeats 8000000 in
set_option maxRecDepth 100000 in
theorem message_Right.gen (kd tr bn bd sn sd v : Int) (ok : Bool) (A8 : Option Addr) (c8 : Nat) (l8 : List S76) (A9 : Option Addr) (c9 : Nat) (l9 : List S92) (A10 : Option Addr) (c10 : Nat) (l10 : List Int) (w : World) (M : World → Value → Prop) (Q : World → Value → Prop) (rb ab : Bool) (r : Int) (hr : (if rb = true then (if ab = true then 0 else 6) else 6) = r)
  (hT : ∀ W, Below w.heap.size w W → Calls Try.prog 28 #[.agg #[.int .i64 kd, .int .u64 tr, .int .u64 bn, .int .u64 bd, .int .u64 sn, .int .u64 sd, .int .i64 v, .bool ok, .slice A8 l8.length c8, .slice A9 l9.length c9, .slice A10 l10.length c10]] W fun e w' => ∃ m, e = .returned m ∧ M w' m ∧ Below W.heap.size W w')
  (hM : ∀ W1 W2 m, M W1 m → Below W1.heap.size W1 W2 → M W2 m)
  (hn : ∀ W1 m, M W1 m → ∃ (d : TypeId) (x : Value), m = .iface d x)
  (hR : ∀ W m, Below w.heap.size w W → M W m → Calls Try.prog 29 #[m] W fun e w' => e = .returned (.bool rb) ∧ Below W.heap.size W w')
  (hP : ∀ W m, Below w.heap.size w W → M W m → Calls Try.prog 31 #[m] W fun e w' => ∃ q, e = .returned q ∧ Q w' q ∧ Below W.heap.size W w')
  (hA : rb = true → ∀ W q, Below w.heap.size w W → Q W q → Calls Try.prog 30 #[.agg #[.int .i64 kd, .int .u64 tr, .int .u64 bn, .int .u64 bd, .int .u64 sn, .int .u64 sd, .int .i64 v, .bool ok, .slice A8 l8.length c8, .slice A9 l9.length c9, .slice A10 l10.length c10], q] W fun e w' => e = .returned (.bool ab) ∧ Below W.heap.size W w') :
  Calls Try.prog 13 #[.agg #[.int .i64 kd, .int .u64 tr, .int .u64 bn, .int .u64 bd, .int .u64 sn, .int .u64 sd, .int .i64 v, .bool ok, .slice A8 l8.length c8, .slice A9 l9.length c9, .slice A10 l10.length c10]] w fun e w' => e = .returned (.int .i64 r) ∧ Below w.heap.size w w' := by
 have hu30 := Try.underlying30; have hu24 := Try.underlying24; have hu51 := Try.underlying51; have hu54 := Try.underlying54; have hu57 := Try.underlying57; have hu60 := Try.underlying60; have hu63 := Try.underlying63; have hu66 := Try.underlying66; have hu69 := Try.underlying69; have HRR := Aside0.mk hr; have HT0 := Aside0.mk hT; have HM0 := Aside0.mk hM; have HN0 := Aside0.mk hn; have HR0 := Aside0.mk hR; have HP0 := Aside0.mk hP; have HA0 := Aside0.mk hA; clear hr hT hM hn hR hP hA
 go_enter Try.func13, Try.ntmps13
 go_wp2_with (first | ((with_reducible refine gate_dst (N := 1) rfl ?_); refine box_event ?hg (N := 1) ?hd (cs := #[.int .i64 kd, .int .u64 tr, .int .u64 bn, .int .u64 bd, .int .u64 sn, .int .u64 sd, .int .i64 v, .bool ok, .slice A8 l8.length c8, .slice A9 l9.length c9, .slice A10 l10.length c10]) (t := 30) ?hr ?_; (case hd => rfl); (case hg => rfl); (case hr => (go_simp; done)); intro g hg w1 hbox hb; have HB := Aside0.mk hb; have BK := Aside0.mk hbox; have HGE := Aside0.mk (show w.heap.size ≤ g from Nat.le_of_eq hg.symm); clear hb hbox hg; obtain ⟨hcz_0, hcz_1, hcz_2, hcz_3, hcz_4, hcz_5, hcz_6, hcz_7, hcz_8, hcz_9, hcz_10⟩ := Hand.Cz.c11 BK.out) | (go_at_call 28; refine (HT0.out _ HB.out).mono ?_; rintro e w2 ⟨m, rfl, hm, hb⟩; have HM2 := Aside0.mk hm; have BK2 := Aside0.mk (blk_below BK.out hb); have HB2 := Aside0.mk (below_step HB.out hb); clear hm hb))
 clear hcz_0 hcz_1 hcz_2 hcz_3 hcz_4 hcz_5 hcz_6 hcz_7 hcz_8 hcz_9 hcz_10
 obtain ⟨d, x, rfl⟩ := HN0.out _ _ HM2.out
 have HMd := Aside0.mk (HM0.out _ _ _ HM2.out (below_drew1 (Below.refl _ _)))
 cases rb
 ·obtain rfl : (6 : Int) = r := by simpa using HRR.out
  refine start_ (n := 14) (S := fun w' => w'.heap[g]? = some (.cells #[.int .i64 kd, .int .u64 tr, .int .u64 bn, .int .u64 bd, .int .u64 sn, .int .u64 sd, .int .i64 v, .bool ok, .slice A8 l8.length c8, .slice A9 l9.length c9, .slice A10 l10.length c10] 30 (0, 0)) ∧ Below w.heap.size w w') (ds := []) #[false, false, false, false, false, false, false, false, false, false, false, false, false, false] (by kernel_rfl) rfl rfl ⟨blk_drew BK2.out, below_drew1 HB2.out⟩ (fun hHeld => ?_)
  refine with_tabW message_Right.tab13_2 message_Right.bits13_2 (fun HT_ HW_ => ?_)
  generalize w2.drew = wd at hHeld HMd ⊢
  refine pure_ (i := 0) (N := some 6) (v := ?_) (a' := ?_) #[true, false, false, false, false, false, false, false, false, false, false, false, false, false] rfl rfl (any_of HT_.out (by kernel_rfl)) (fun _ _ _ h => h) (Or.inl ⟨by rfl, ?_⟩) ?_ ?_
  rotate_left
  ·intro w'; go_simp; with_reducible rfl
  rotate_left
  ·simp only [Act.put, List.setIfInBounds_toArray, List.set_cons_zero, List.set_cons_succ, i64_w, i32_w]; rfl
  refine pure_ (i := 1) (N := some 7) (v := ?_) (a' := ?_) #[true, true, false, false, false, false, false, false, false, false, false, false, false, false] rfl rfl (any_of HT_.out (by kernel_rfl)) (fun _ _ _ h => h) (Or.inl ⟨by rfl, ?_⟩) ?_ ?_
  rotate_left
  ·intro w'; go_simp; with_reducible rfl
  rotate_left
  ·simp only [Act.put, List.setIfInBounds_toArray, List.set_cons_zero, List.set_cons_succ, i64_w, i32_w]; rfl
  refine pure_ (i := 2) (N := some 8) (v := ?_) (a' := ?_) #[true, true, true, false, false, false, false, false, false, false, false, false, false, false] rfl rfl (any_of HT_.out (by kernel_rfl)) (fun _ _ _ h => h) (Or.inl ⟨by rfl, ?_⟩) ?_ ?_
  rotate_left
  ·intro w'; go_simp; with_reducible rfl
  rotate_left
  ·simp only [Act.put, List.setIfInBounds_toArray, List.set_cons_zero, List.set_cons_succ, i64_w, i32_w]; rfl
  refine pure_ (i := 3) (N := some 9) (v := ?_) (a' := ?_) #[true, true, true, true, false, false, false, false, false, false, false, false, false, false] rfl rfl (any_of HT_.out (by kernel_rfl)) (fun _ _ _ h => h) (Or.inl ⟨by rfl, ?_⟩) ?_ ?_
  rotate_left
  ·intro w'; go_simp; with_reducible rfl
  rotate_left
  ·simp only [Act.put, List.setIfInBounds_toArray, List.set_cons_zero, List.set_cons_succ, i64_w, i32_w]; rfl
  refine one_ (i := 4) (N := some 10) #[true, true, true, true, true, false, false, false, false, false, false, false, false, false] rfl rfl (one_of HT_.out (by kernel_rfl)) (by decide) (fun K hK => ?_)
  refine goes_ Try.func29 (by kernel_rfl) rfl #[.iface d x] (by rfl) rfl rfl (by (try simp only [List.map_toArray, List.map_cons, List.map_nil]); (rfl)) ?_
  with_reducible refine (HR0.out _ (.iface d x) hHeld.2 HMd.out).mono ?_
  rintro e w3 ⟨rfl, hb⟩
  refine ⟨_, rfl, ?_⟩
  have HM3 := Aside0.mk (HM0.out _ _ _ HMd.out hb)
  refine hK.out _ _ ⟨blk_below hHeld.1 hb, below_step hHeld.2 hb⟩ (fun hHeld => ?_)
  clear hK K
  refine norm_ (a' := ?_) ?_ ?_
  rotate_left
  ·show Act.put _ (some 10) _ = _; simp only [Act.put, List.setIfInBounds_toArray, List.set_cons_zero, List.set_cons_succ, i64_w, i32_w]; rfl
  refine pure_ (i := 5) (N := some 11) (v := ?_) (a' := ?_) #[true, true, true, true, true, true, false, false, false, false, false, false, false, false] rfl rfl (any_of HT_.out (by kernel_rfl)) (fun _ _ _ h => h) (Or.inl ⟨by rfl, ?_⟩) ?_ ?_
  rotate_left
  ·intro w'; go_simp; with_reducible rfl
  rotate_left
  ·simp only [Act.put, List.setIfInBounds_toArray, List.set_cons_zero, List.set_cons_succ, i64_w, i32_w]; rfl
  refine pure_ (i := 6) (N := some 12) (v := ?_) (a' := ?_) #[true, true, true, true, true, true, true, false, false, false, false, false, false, false] rfl rfl (any_of HT_.out (by kernel_rfl)) (fun _ _ _ h => h) (Or.inl ⟨by rfl, ?_⟩) ?_ ?_
  rotate_left
  ·intro w'; go_simp; with_reducible rfl
  rotate_left
  ·simp only [Act.put, List.setIfInBounds_toArray, List.set_cons_zero, List.set_cons_succ, i64_w, i32_w]; rfl
  refine pure_ (i := 7) (N := some 13) (v := ?_) (a' := ?_) #[true, true, true, true, true, true, true, true, false, false, false, false, false, false] rfl rfl (any_of HT_.out (by kernel_rfl)) (fun _ _ _ h => h) (Or.inl ⟨by rfl, ?_⟩) ?_ ?_
  rotate_left
  ·intro w'; go_simp; with_reducible rfl
  rotate_left
  ·simp only [Act.put, List.setIfInBounds_toArray, List.set_cons_zero, List.set_cons_succ, i64_w, i32_w]; rfl
  refine pure_ (i := 8) (N := some 14) (v := undef) (a' := ?_) #[true, true, true, true, true, true, true, true, true, false, false, false, false, false] rfl rfl (any_of HT_.out (by kernel_rfl)) (fun _ _ _ h => h) (Or.inr ⟨by rfl, rfl⟩) ?_ ?_
  rotate_left
  ·simp only [Act.put, List.setIfInBounds_toArray, List.set_cons_zero, List.set_cons_succ, i64_w, i32_w]; rfl
  refine pure_ (i := 9) (N := some 15) (v := undef) (a' := ?_) #[true, true, true, true, true, true, true, true, true, true, false, false, false, false] rfl rfl (any_of HT_.out (by kernel_rfl)) (fun _ _ _ h => h) (Or.inr ⟨by rfl, rfl⟩) ?_ ?_
  rotate_left
  ·simp only [Act.put, List.setIfInBounds_toArray, List.set_cons_zero, List.set_cons_succ, i64_w, i32_w]; rfl
  refine pure_ (i := 10) (N := some 16) (v := undef) (a' := ?_) #[true, true, true, true, true, true, true, true, true, true, true, false, false, false] rfl rfl (any_of HT_.out (by kernel_rfl)) (fun _ _ _ h => h) (Or.inr ⟨by rfl, rfl⟩) ?_ ?_
  rotate_left
  ·simp only [Act.put, List.setIfInBounds_toArray, List.set_cons_zero, List.set_cons_succ, i64_w, i32_w]; rfl
  refine pure_ (i := 11) (N := some 17) (v := undef) (a' := ?_) #[true, true, true, true, true, true, true, true, true, true, true, true, false, false] rfl rfl (any_of HT_.out (by kernel_rfl)) (fun _ _ _ h => h) (Or.inr ⟨by rfl, rfl⟩) ?_ ?_
  rotate_left
  ·simp only [Act.put, List.setIfInBounds_toArray, List.set_cons_zero, List.set_cons_succ, i64_w, i32_w]; rfl
  refine pure_ (i := 12) (N := some 18) (v := undef) (a' := ?_) #[true, true, true, true, true, true, true, true, true, true, true, true, true, false] rfl rfl (any_of HT_.out (by kernel_rfl)) (fun _ _ _ h => h) (Or.inr ⟨by rfl, rfl⟩) ?_ ?_
  rotate_left
  ·simp only [Act.put, List.setIfInBounds_toArray, List.set_cons_zero, List.set_cons_succ, i64_w, i32_w]; rfl
  refine pure_ (i := 13) (N := some 19) (v := ?_) (a' := ?_) #[true, true, true, true, true, true, true, true, true, true, true, true, true, true] rfl rfl (any_of HT_.out (by kernel_rfl)) (fun _ _ _ h => h) (Or.inl ⟨by rfl, ?_⟩) ?_ ?_
  rotate_left
  ·intro w'; go_simp; with_reducible rfl
  rotate_left
  ·simp only [Act.put, List.setIfInBounds_toArray, List.set_cons_zero, List.set_cons_succ, i64_w, i32_w]; rfl
  refine done_ (done_of HT_.out (by kernel_rfl)) ?_
  go_wp2
  go_ret
  exact ⟨rfl, hHeld.2⟩
 ·cases ab
  ·obtain rfl : (6 : Int) = r := by simpa using HRR.out
   refine start_ (n := 14) (S := fun w' => w'.heap[g]? = some (.cells #[.int .i64 kd, .int .u64 tr, .int .u64 bn, .int .u64 bd, .int .u64 sn, .int .u64 sd, .int .i64 v, .bool ok, .slice A8 l8.length c8, .slice A9 l9.length c9, .slice A10 l10.length c10] 30 (0, 0)) ∧ Below w.heap.size w w') (ds := []) #[false, false, false, false, false, false, false, false, false, false, false, false, false, false] (by kernel_rfl) rfl rfl ⟨blk_drew BK2.out, below_drew1 HB2.out⟩ (fun hHeld => ?_)
   refine with_tabW message_Right.tab13_2 message_Right.bits13_2 (fun HT_ HW_ => ?_)
   generalize w2.drew = wd at hHeld HMd ⊢
   refine pure_ (i := 0) (N := some 6) (v := ?_) (a' := ?_) #[true, false, false, false, false, false, false, false, false, false, false, false, false, false] rfl rfl (any_of HT_.out (by kernel_rfl)) (fun _ _ _ h => h) (Or.inl ⟨by rfl, ?_⟩) ?_ ?_
   rotate_left
   ·intro w'; go_simp; with_reducible rfl
   rotate_left
   ·simp only [Act.put, List.setIfInBounds_toArray, List.set_cons_zero, List.set_cons_succ, i64_w, i32_w]; rfl
   refine pure_ (i := 1) (N := some 7) (v := ?_) (a' := ?_) #[true, true, false, false, false, false, false, false, false, false, false, false, false, false] rfl rfl (any_of HT_.out (by kernel_rfl)) (fun _ _ _ h => h) (Or.inl ⟨by rfl, ?_⟩) ?_ ?_
   rotate_left
   ·intro w'; go_simp; with_reducible rfl
   rotate_left
   ·simp only [Act.put, List.setIfInBounds_toArray, List.set_cons_zero, List.set_cons_succ, i64_w, i32_w]; rfl
   refine pure_ (i := 2) (N := some 8) (v := ?_) (a' := ?_) #[true, true, true, false, false, false, false, false, false, false, false, false, false, false] rfl rfl (any_of HT_.out (by kernel_rfl)) (fun _ _ _ h => h) (Or.inl ⟨by rfl, ?_⟩) ?_ ?_
   rotate_left
   ·intro w'; go_simp; with_reducible rfl
   rotate_left
   ·simp only [Act.put, List.setIfInBounds_toArray, List.set_cons_zero, List.set_cons_succ, i64_w, i32_w]; rfl
   refine pure_ (i := 3) (N := some 9) (v := ?_) (a' := ?_) #[true, true, true, true, false, false, false, false, false, false, false, false, false, false] rfl rfl (any_of HT_.out (by kernel_rfl)) (fun _ _ _ h => h) (Or.inl ⟨by rfl, ?_⟩) ?_ ?_
   rotate_left
   ·intro w'; go_simp; with_reducible rfl
   rotate_left
   ·simp only [Act.put, List.setIfInBounds_toArray, List.set_cons_zero, List.set_cons_succ, i64_w, i32_w]; rfl
   refine one_ (i := 4) (N := some 10) #[true, true, true, true, true, false, false, false, false, false, false, false, false, false] rfl rfl (one_of HT_.out (by kernel_rfl)) (by decide) (fun K hK => ?_)
   refine goes_ Try.func29 (by kernel_rfl) rfl #[.iface d x] (by rfl) rfl rfl (by (try simp only [List.map_toArray, List.map_cons, List.map_nil]); (rfl)) ?_
   with_reducible refine (HR0.out _ (.iface d x) hHeld.2 HMd.out).mono ?_
   rintro e w3 ⟨rfl, hb⟩
   refine ⟨_, rfl, ?_⟩
   have HM3 := Aside0.mk (HM0.out _ _ _ HMd.out hb)
   refine hK.out _ _ ⟨blk_below hHeld.1 hb, below_step hHeld.2 hb⟩ (fun hHeld => ?_)
   clear hK K
   refine norm_ (a' := ?_) ?_ ?_
   rotate_left
   ·show Act.put _ (some 10) _ = _; simp only [Act.put, List.setIfInBounds_toArray, List.set_cons_zero, List.set_cons_succ, i64_w, i32_w]; rfl
   refine pure_ (i := 5) (N := some 11) (v := ?_) (a' := ?_) #[true, true, true, true, true, true, false, false, false, false, false, false, false, false] rfl rfl (any_of HT_.out (by kernel_rfl)) (fun _ _ _ h => h) (Or.inl ⟨by rfl, ?_⟩) ?_ ?_
   rotate_left
   ·intro w'; go_simp; with_reducible rfl
   rotate_left
   ·simp only [Act.put, List.setIfInBounds_toArray, List.set_cons_zero, List.set_cons_succ, i64_w, i32_w]; rfl
   refine pure_ (i := 6) (N := some 12) (v := ?_) (a' := ?_) #[true, true, true, true, true, true, true, false, false, false, false, false, false, false] rfl rfl (any_of HT_.out (by kernel_rfl)) (fun _ _ _ h => h) (Or.inl ⟨by rfl, ?_⟩) ?_ ?_
   rotate_left
   ·intro w'; go_simp; with_reducible rfl
   rotate_left
   ·simp only [Act.put, List.setIfInBounds_toArray, List.set_cons_zero, List.set_cons_succ, i64_w, i32_w]; rfl
   refine pure_ (i := 7) (N := some 13) (v := ?_) (a' := ?_) #[true, true, true, true, true, true, true, true, false, false, false, false, false, false] rfl rfl (any_of HT_.out (by kernel_rfl)) (fun _ _ _ h => h) (Or.inl ⟨by rfl, ?_⟩) ?_ ?_
   rotate_left
   ·intro w'; go_simp; with_reducible rfl
   rotate_left
   ·simp only [Act.put, List.setIfInBounds_toArray, List.set_cons_zero, List.set_cons_succ, i64_w, i32_w]; rfl
   refine take_ (i := 8) (N := some 14) (v := ?_) (a' := ?_) #[true, true, true, true, true, true, true, true, true, false, false, false, false, false] rfl rfl (take_ofW HT_.out HW_.out (by kernel_rfl)) (fun _ _ _ h => h) (Or.inl ⟨by rfl, ?_⟩) hHeld ?_ ?_
   rotate_left
   ·rintro w' ⟨E, I⟩
    have z0 : w'.cell? ⟨g, 0, none⟩ = some (.int .i64 kd) := (blk_cell E 0).trans rfl; have z1 : w'.cell? ⟨g, 1, none⟩ = some (.int .u64 tr) := (blk_cell E 1).trans rfl; have z2 : w'.cell? ⟨g, 2, none⟩ = some (.int .u64 bn) := (blk_cell E 2).trans rfl; have z3 : w'.cell? ⟨g, 3, none⟩ = some (.int .u64 bd) := (blk_cell E 3).trans rfl; have z4 : w'.cell? ⟨g, 4, none⟩ = some (.int .u64 sn) := (blk_cell E 4).trans rfl; have z5 : w'.cell? ⟨g, 5, none⟩ = some (.int .u64 sd) := (blk_cell E 5).trans rfl; have z6 : w'.cell? ⟨g, 6, none⟩ = some (.int .i64 v) := (blk_cell E 6).trans rfl; have z7 : w'.cell? ⟨g, 7, none⟩ = some (.bool ok) := (blk_cell E 7).trans rfl; have z8 : w'.cell? ⟨g, 8, none⟩ = some (.slice A8 l8.length c8) := (blk_cell E 8).trans rfl; have z9 : w'.cell? ⟨g, 9, none⟩ = some (.slice A9 l9.length c9) := (blk_cell E 9).trans rfl; have z10 : w'.cell? ⟨g, 10, none⟩ = some (.slice A10 l10.length c10) := (blk_cell E 10).trans rfl
    go_simp
    with_reducible rfl
   rotate_left
   ·simp only [Act.put, List.setIfInBounds_toArray, List.set_cons_zero, List.set_cons_succ, i64_w, i32_w]; rfl
   refine pure_ (i := 9) (N := some 15) (v := ?_) (a' := ?_) #[true, true, true, true, true, true, true, true, true, true, false, false, false, false] rfl rfl (any_of HT_.out (by kernel_rfl)) (fun _ _ _ h => h) (Or.inl ⟨by rfl, ?_⟩) ?_ ?_
   rotate_left
   ·intro w'; go_simp; with_reducible rfl
   rotate_left
   ·simp only [Act.put, List.setIfInBounds_toArray, List.set_cons_zero, List.set_cons_succ, i64_w, i32_w]; rfl
   refine one_ (i := 10) (N := some 16) #[true, true, true, true, true, true, true, true, true, true, true, false, false, false] rfl rfl (one_of HT_.out (by kernel_rfl)) (by decide) (fun K hK => ?_)
   refine goes_ Try.func31 (by kernel_rfl) rfl #[.iface d x] (by rfl) rfl rfl (by (try simp only [List.map_toArray, List.map_cons, List.map_nil]); (rfl)) ?_
   with_reducible refine (HP0.out _ (.iface d x) hHeld.2 HM3.out).mono ?_
   rintro e w4 ⟨q, rfl, hq, hb4⟩
   refine ⟨_, rfl, ?_⟩
   have HQ := Aside0.mk hq; clear hq
   refine hK.out _ _ ⟨blk_below hHeld.1 hb4, below_step hHeld.2 hb4⟩ (fun hHeld => ?_)
   clear hK K
   refine norm_ (a' := ?_) ?_ ?_
   rotate_left
   ·show Act.put _ (some 16) _ = _; simp only [Act.put, List.setIfInBounds_toArray, List.set_cons_zero, List.set_cons_succ, i64_w, i32_w]; rfl
   refine one_ (i := 11) (N := some 17) #[true, true, true, true, true, true, true, true, true, true, true, true, false, false] rfl rfl (one_of HT_.out (by kernel_rfl)) (by decide) (fun K hK => ?_)
   refine goes_ Try.func30 (by kernel_rfl) rfl #[.agg #[.int .i64 kd, .int .u64 tr, .int .u64 bn, .int .u64 bd, .int .u64 sn, .int .u64 sd, .int .i64 v, .bool ok, .slice A8 l8.length c8, .slice A9 l9.length c9, .slice A10 l10.length c10], q] (by rfl) rfl rfl (by (try simp only [List.map_toArray, List.map_cons, List.map_nil]); (rfl)) ?_
   with_reducible refine (HA0.out rfl _ q hHeld.2 HQ.out).mono ?_
   rintro e w5 ⟨rfl, hb5⟩
   refine ⟨_, rfl, ?_⟩
   refine hK.out _ _ ⟨blk_below hHeld.1 hb5, below_step hHeld.2 hb5⟩ (fun hHeld => ?_)
   clear hK K
   refine norm_ (a' := ?_) ?_ ?_
   rotate_left
   ·show Act.put _ (some 17) _ = _; simp only [Act.put, List.setIfInBounds_toArray, List.set_cons_zero, List.set_cons_succ, i64_w, i32_w]; rfl
   refine pure_ (i := 12) (N := some 18) (v := ?_) (a' := ?_) #[true, true, true, true, true, true, true, true, true, true, true, true, true, false] rfl rfl (any_of HT_.out (by kernel_rfl)) (fun _ _ _ h => h) (Or.inl ⟨by rfl, ?_⟩) ?_ ?_
   rotate_left
   ·intro w'; go_simp; with_reducible rfl
   rotate_left
   ·simp only [Act.put, List.setIfInBounds_toArray, List.set_cons_zero, List.set_cons_succ, i64_w, i32_w]; rfl
   refine pure_ (i := 13) (N := some 19) (v := ?_) (a' := ?_) #[true, true, true, true, true, true, true, true, true, true, true, true, true, true] rfl rfl (any_of HT_.out (by kernel_rfl)) (fun _ _ _ h => h) (Or.inl ⟨by rfl, ?_⟩) ?_ ?_
   rotate_left
   ·intro w'; go_simp; with_reducible rfl
   rotate_left
   ·simp only [Act.put, List.setIfInBounds_toArray, List.set_cons_zero, List.set_cons_succ, i64_w, i32_w]; rfl
   refine done_ (done_of HT_.out (by kernel_rfl)) ?_
   go_wp2
   go_ret
   exact ⟨rfl, hHeld.2⟩
  ·obtain rfl : (0 : Int) = r := by simpa using HRR.out
   refine start_ (n := 14) (S := fun w' => w'.heap[g]? = some (.cells #[.int .i64 kd, .int .u64 tr, .int .u64 bn, .int .u64 bd, .int .u64 sn, .int .u64 sd, .int .i64 v, .bool ok, .slice A8 l8.length c8, .slice A9 l9.length c9, .slice A10 l10.length c10] 30 (0, 0)) ∧ Below w.heap.size w w') (ds := []) #[false, false, false, false, false, false, false, false, false, false, false, false, false, false] (by kernel_rfl) rfl rfl ⟨blk_drew BK2.out, below_drew1 HB2.out⟩ (fun hHeld => ?_)
   refine with_tabW message_Right.tab13_2 message_Right.bits13_2 (fun HT_ HW_ => ?_)
   generalize w2.drew = wd at hHeld HMd ⊢
   refine pure_ (i := 0) (N := some 6) (v := ?_) (a' := ?_) #[true, false, false, false, false, false, false, false, false, false, false, false, false, false] rfl rfl (any_of HT_.out (by kernel_rfl)) (fun _ _ _ h => h) (Or.inl ⟨by rfl, ?_⟩) ?_ ?_
   rotate_left
   ·intro w'; go_simp; with_reducible rfl
   rotate_left
   ·simp only [Act.put, List.setIfInBounds_toArray, List.set_cons_zero, List.set_cons_succ, i64_w, i32_w]; rfl
   refine pure_ (i := 1) (N := some 7) (v := ?_) (a' := ?_) #[true, true, false, false, false, false, false, false, false, false, false, false, false, false] rfl rfl (any_of HT_.out (by kernel_rfl)) (fun _ _ _ h => h) (Or.inl ⟨by rfl, ?_⟩) ?_ ?_
   rotate_left
   ·intro w'; go_simp; with_reducible rfl
   rotate_left
   ·simp only [Act.put, List.setIfInBounds_toArray, List.set_cons_zero, List.set_cons_succ, i64_w, i32_w]; rfl
   refine pure_ (i := 2) (N := some 8) (v := ?_) (a' := ?_) #[true, true, true, false, false, false, false, false, false, false, false, false, false, false] rfl rfl (any_of HT_.out (by kernel_rfl)) (fun _ _ _ h => h) (Or.inl ⟨by rfl, ?_⟩) ?_ ?_
   rotate_left
   ·intro w'; go_simp; with_reducible rfl
   rotate_left
   ·simp only [Act.put, List.setIfInBounds_toArray, List.set_cons_zero, List.set_cons_succ, i64_w, i32_w]; rfl
   refine pure_ (i := 3) (N := some 9) (v := ?_) (a' := ?_) #[true, true, true, true, false, false, false, false, false, false, false, false, false, false] rfl rfl (any_of HT_.out (by kernel_rfl)) (fun _ _ _ h => h) (Or.inl ⟨by rfl, ?_⟩) ?_ ?_
   rotate_left
   ·intro w'; go_simp; with_reducible rfl
   rotate_left
   ·simp only [Act.put, List.setIfInBounds_toArray, List.set_cons_zero, List.set_cons_succ, i64_w, i32_w]; rfl
   refine one_ (i := 4) (N := some 10) #[true, true, true, true, true, false, false, false, false, false, false, false, false, false] rfl rfl (one_of HT_.out (by kernel_rfl)) (by decide) (fun K hK => ?_)
   refine goes_ Try.func29 (by kernel_rfl) rfl #[.iface d x] (by rfl) rfl rfl (by (try simp only [List.map_toArray, List.map_cons, List.map_nil]); (rfl)) ?_
   with_reducible refine (HR0.out _ (.iface d x) hHeld.2 HMd.out).mono ?_
   rintro e w3 ⟨rfl, hb⟩
   refine ⟨_, rfl, ?_⟩
   have HM3 := Aside0.mk (HM0.out _ _ _ HMd.out hb)
   refine hK.out _ _ ⟨blk_below hHeld.1 hb, below_step hHeld.2 hb⟩ (fun hHeld => ?_)
   clear hK K
   refine norm_ (a' := ?_) ?_ ?_
   rotate_left
   ·show Act.put _ (some 10) _ = _; simp only [Act.put, List.setIfInBounds_toArray, List.set_cons_zero, List.set_cons_succ, i64_w, i32_w]; rfl
   refine pure_ (i := 5) (N := some 11) (v := ?_) (a' := ?_) #[true, true, true, true, true, true, false, false, false, false, false, false, false, false] rfl rfl (any_of HT_.out (by kernel_rfl)) (fun _ _ _ h => h) (Or.inl ⟨by rfl, ?_⟩) ?_ ?_
   rotate_left
   ·intro w'; go_simp; with_reducible rfl
   rotate_left
   ·simp only [Act.put, List.setIfInBounds_toArray, List.set_cons_zero, List.set_cons_succ, i64_w, i32_w]; rfl
   refine pure_ (i := 6) (N := some 12) (v := ?_) (a' := ?_) #[true, true, true, true, true, true, true, false, false, false, false, false, false, false] rfl rfl (any_of HT_.out (by kernel_rfl)) (fun _ _ _ h => h) (Or.inl ⟨by rfl, ?_⟩) ?_ ?_
   rotate_left
   ·intro w'; go_simp; with_reducible rfl
   rotate_left
   ·simp only [Act.put, List.setIfInBounds_toArray, List.set_cons_zero, List.set_cons_succ, i64_w, i32_w]; rfl
   refine pure_ (i := 7) (N := some 13) (v := ?_) (a' := ?_) #[true, true, true, true, true, true, true, true, false, false, false, false, false, false] rfl rfl (any_of HT_.out (by kernel_rfl)) (fun _ _ _ h => h) (Or.inl ⟨by rfl, ?_⟩) ?_ ?_
   rotate_left
   ·intro w'; go_simp; with_reducible rfl
   rotate_left
   ·simp only [Act.put, List.setIfInBounds_toArray, List.set_cons_zero, List.set_cons_succ, i64_w, i32_w]; rfl
   refine take_ (i := 8) (N := some 14) (v := ?_) (a' := ?_) #[true, true, true, true, true, true, true, true, true, false, false, false, false, false] rfl rfl (take_ofW HT_.out HW_.out (by kernel_rfl)) (fun _ _ _ h => h) (Or.inl ⟨by rfl, ?_⟩) hHeld ?_ ?_
   rotate_left
   ·rintro w' ⟨E, I⟩
    have z0 : w'.cell? ⟨g, 0, none⟩ = some (.int .i64 kd) := (blk_cell E 0).trans rfl; have z1 : w'.cell? ⟨g, 1, none⟩ = some (.int .u64 tr) := (blk_cell E 1).trans rfl; have z2 : w'.cell? ⟨g, 2, none⟩ = some (.int .u64 bn) := (blk_cell E 2).trans rfl; have z3 : w'.cell? ⟨g, 3, none⟩ = some (.int .u64 bd) := (blk_cell E 3).trans rfl; have z4 : w'.cell? ⟨g, 4, none⟩ = some (.int .u64 sn) := (blk_cell E 4).trans rfl; have z5 : w'.cell? ⟨g, 5, none⟩ = some (.int .u64 sd) := (blk_cell E 5).trans rfl; have z6 : w'.cell? ⟨g, 6, none⟩ = some (.int .i64 v) := (blk_cell E 6).trans rfl; have z7 : w'.cell? ⟨g, 7, none⟩ = some (.bool ok) := (blk_cell E 7).trans rfl; have z8 : w'.cell? ⟨g, 8, none⟩ = some (.slice A8 l8.length c8) := (blk_cell E 8).trans rfl; have z9 : w'.cell? ⟨g, 9, none⟩ = some (.slice A9 l9.length c9) := (blk_cell E 9).trans rfl; have z10 : w'.cell? ⟨g, 10, none⟩ = some (.slice A10 l10.length c10) := (blk_cell E 10).trans rfl
    go_simp
    with_reducible rfl
   rotate_left
   ·simp only [Act.put, List.setIfInBounds_toArray, List.set_cons_zero, List.set_cons_succ, i64_w, i32_w]; rfl
   refine pure_ (i := 9) (N := some 15) (v := ?_) (a' := ?_) #[true, true, true, true, true, true, true, true, true, true, false, false, false, false] rfl rfl (any_of HT_.out (by kernel_rfl)) (fun _ _ _ h => h) (Or.inl ⟨by rfl, ?_⟩) ?_ ?_
   rotate_left
   ·intro w'; go_simp; with_reducible rfl
   rotate_left
   ·simp only [Act.put, List.setIfInBounds_toArray, List.set_cons_zero, List.set_cons_succ, i64_w, i32_w]; rfl
   refine one_ (i := 10) (N := some 16) #[true, true, true, true, true, true, true, true, true, true, true, false, false, false] rfl rfl (one_of HT_.out (by kernel_rfl)) (by decide) (fun K hK => ?_)
   refine goes_ Try.func31 (by kernel_rfl) rfl #[.iface d x] (by rfl) rfl rfl (by (try simp only [List.map_toArray, List.map_cons, List.map_nil]); (rfl)) ?_
   with_reducible refine (HP0.out _ (.iface d x) hHeld.2 HM3.out).mono ?_
   rintro e w4 ⟨q, rfl, hq, hb4⟩
   refine ⟨_, rfl, ?_⟩
   have HQ := Aside0.mk hq; clear hq
   refine hK.out _ _ ⟨blk_below hHeld.1 hb4, below_step hHeld.2 hb4⟩ (fun hHeld => ?_)
   clear hK K
   refine norm_ (a' := ?_) ?_ ?_
   rotate_left
   ·show Act.put _ (some 16) _ = _; simp only [Act.put, List.setIfInBounds_toArray, List.set_cons_zero, List.set_cons_succ, i64_w, i32_w]; rfl
   refine one_ (i := 11) (N := some 17) #[true, true, true, true, true, true, true, true, true, true, true, true, false, false] rfl rfl (one_of HT_.out (by kernel_rfl)) (by decide) (fun K hK => ?_)
   refine goes_ Try.func30 (by kernel_rfl) rfl #[.agg #[.int .i64 kd, .int .u64 tr, .int .u64 bn, .int .u64 bd, .int .u64 sn, .int .u64 sd, .int .i64 v, .bool ok, .slice A8 l8.length c8, .slice A9 l9.length c9, .slice A10 l10.length c10], q] (by rfl) rfl rfl (by (try simp only [List.map_toArray, List.map_cons, List.map_nil]); (rfl)) ?_
   with_reducible refine (HA0.out rfl _ q hHeld.2 HQ.out).mono ?_
   rintro e w5 ⟨rfl, hb5⟩
   refine ⟨_, rfl, ?_⟩
   refine hK.out _ _ ⟨blk_below hHeld.1 hb5, below_step hHeld.2 hb5⟩ (fun hHeld => ?_)
   clear hK K
   refine norm_ (a' := ?_) ?_ ?_
   rotate_left
   ·show Act.put _ (some 17) _ = _; simp only [Act.put, List.setIfInBounds_toArray, List.set_cons_zero, List.set_cons_succ, i64_w, i32_w]; rfl
   refine pure_ (i := 12) (N := some 18) (v := ?_) (a' := ?_) #[true, true, true, true, true, true, true, true, true, true, true, true, true, false] rfl rfl (any_of HT_.out (by kernel_rfl)) (fun _ _ _ h => h) (Or.inl ⟨by rfl, ?_⟩) ?_ ?_
   rotate_left
   ·intro w'; go_simp; with_reducible rfl
   rotate_left
   ·simp only [Act.put, List.setIfInBounds_toArray, List.set_cons_zero, List.set_cons_succ, i64_w, i32_w]; rfl
   refine pure_ (i := 13) (N := some 19) (v := ?_) (a' := ?_) #[true, true, true, true, true, true, true, true, true, true, true, true, true, true] rfl rfl (any_of HT_.out (by kernel_rfl)) (fun _ _ _ h => h) (Or.inl ⟨by rfl, ?_⟩) ?_ ?_
   rotate_left
   ·intro w'; go_simp; with_reducible rfl
   rotate_left
   ·simp only [Act.put, List.setIfInBounds_toArray, List.set_cons_zero, List.set_cons_succ, i64_w, i32_w]; rfl
   refine done_ (done_of HT_.out (by kernel_rfl)) ?_
   go_wp2
   go_ret
   exact ⟨rfl, hHeld.2⟩

def message_Right.fin (b : Bool) (a : Option Bool) : Option Int := if b = true then a.bind fun x => some (if x = true then 0 else 6) else some 6
def message_Right.f (a0_0 a0_1 a0_2 a0_3 a0_4 a0_5 a0_6 : Int) (a0_7 : Bool) (l0_8 : List S76) (l0_9 : List S92) (l0_10 : List Int) : Option Int :=
 if l0_8.length ≤ 1000 ∧ l0_9.length ≤ 1000 ∧ l0_10.length ≤ 1000 then (if a0_0 = 1 then ((message_spans.f a0_1 l0_8).bind fun b => message_Right.fin (decide (0 < a0_1) && b) (message_alike.f 2000 a0_0 a0_1 a0_2 a0_3 a0_4 a0_5 a0_6 a0_7 l0_8 l0_9 l0_10 1 a0_1 0 0 0 0 0 false l0_8 ([] : List S92) ([] : List Int))) else (if a0_0 = 2 then ((message_spans.f a0_1 l0_8).bind fun b => message_Right.fin (decide (0 < a0_1) && b) (message_alike.f 2000 a0_0 a0_1 a0_2 a0_3 a0_4 a0_5 a0_6 a0_7 l0_8 l0_9 l0_10 2 a0_1 0 0 0 0 0 false l0_8 ([] : List S92) ([] : List Int))) else (if a0_0 = 3 then ((api_Member_62.f 2000 l0_9 16).bind fun b => (api_Member_64.f 2000 l0_9).bind fun b2 => message_Right.fin (b && !b2) (message_alike.f 2000 a0_0 a0_1 a0_2 a0_3 a0_4 a0_5 a0_6 a0_7 l0_8 l0_9 l0_10 3 0 0 0 0 0 0 false ([] : List S76) l0_9 ([] : List Int))) else (if a0_0 = 4 then (message_Right.fin (message_Right.rAsk a0_1 a0_2 a0_6) (message_alike.f 2000 a0_0 a0_1 a0_2 a0_3 a0_4 a0_5 a0_6 a0_7 l0_8 l0_9 l0_10 (if a0_6 = 0 then 4 else 6) a0_1 a0_2 a0_3 0 0 a0_6 false ([] : List S76) ([] : List S92) ([] : List Int))) else (if a0_0 = 5 then (message_Right.fin (message_Right.rReply a0_1 a0_2 a0_7 a0_4 a0_5 a0_6 false) (message_alike.f 2000 a0_0 a0_1 a0_2 a0_3 a0_4 a0_5 a0_6 a0_7 l0_8 l0_9 l0_10 5 a0_1 a0_2 a0_3 a0_4 a0_5 a0_6 a0_7 ([] : List S76) ([] : List S92) ([] : List Int))) else (if a0_0 = 6 then (message_Right.fin (message_Right.rAsk a0_1 a0_2 a0_6) (message_alike.f 2000 a0_0 a0_1 a0_2 a0_3 a0_4 a0_5 a0_6 a0_7 l0_8 l0_9 l0_10 (if a0_6 = 0 then 4 else 6) a0_1 a0_2 a0_3 0 0 a0_6 false ([] : List S76) ([] : List S92) ([] : List Int))) else (if a0_0 = 7 then (message_Right.fin (message_Right.rReply a0_1 a0_2 a0_7 a0_4 a0_5 a0_6 true) (message_alike.f 2000 a0_0 a0_1 a0_2 a0_3 a0_4 a0_5 a0_6 a0_7 l0_8 l0_9 l0_10 7 a0_1 a0_2 a0_3 a0_4 a0_5 a0_6 a0_7 ([] : List S76) ([] : List S92) ([] : List Int))) else (if a0_0 = 8 then (message_Right.fin (decide (0 < a0_1) && message_Right.tB a0_6) (message_alike.f 2000 a0_0 a0_1 a0_2 a0_3 a0_4 a0_5 a0_6 a0_7 l0_8 l0_9 l0_10 8 a0_1 0 0 0 0 a0_6 false ([] : List S76) ([] : List S92) ([] : List Int))) else (if a0_0 = 9 then ((message_spans.f a0_1 l0_8).bind fun b => message_Right.fin (decide (0 < a0_1) && (decide (0 < a0_2) && b)) (message_alike.f 2000 a0_0 a0_1 a0_2 a0_3 a0_4 a0_5 a0_6 a0_7 l0_8 l0_9 l0_10 9 a0_1 a0_2 a0_3 0 0 0 false l0_8 ([] : List S92) ([] : List Int))) else (if a0_0 = 10 then ((message_rise_uint64.f 2000 l0_10 16).bind fun b => message_Right.fin (decide (0 < a0_1) && b) (message_alike.f 2000 a0_0 a0_1 a0_2 a0_3 a0_4 a0_5 a0_6 a0_7 l0_8 l0_9 l0_10 10 a0_1 0 0 0 0 0 false ([] : List S76) ([] : List S92) l0_10)) else (some 6))))))))))) else none
theorem message_Right.fin_ {b : Bool} {a : Option Bool} {r : Int} (h : message_Right.fin b a = some r) : ∃ ab, (if b = true then (if ab = true then 0 else 6) else 6) = r ∧ (b = true → a = some ab) := by
 unfold message_Right.fin at h
 cases b
 ·exact ⟨false, by simpa using h, fun h => absurd h (by decide)⟩
 rw [if_pos rfl] at h
 obtain ⟨x, hx, h⟩ := Option.bind_eq_some_iff.1 h
 exact ⟨x, by simpa using h, fun _ => hx⟩
set_option maxHeartbeats 8000000 in
set_option maxRecDepth 100000 in
theorem message_Right.case1 (a0_1 a0_2 a0_3 a0_4 a0_5 a0_6 : Int) (a0_7 : Bool) (A0_8 : Option Addr) (c0_8 : Nat) (l0_8 : List S76) (A0_9 : Option Addr) (c0_9 : Nat) (l0_9 : List S92) (A0_10 : Option Addr) (c0_10 : Nat) (l0_10 : List Int) (r : Int) (w : World) (hr0_8 : Kd.C k76 w A0_8 l0_8.length l0_8) (hc0_8 : l0_8.length ≤ c0_8) (hr0_9 : Kd.C k92 w A0_9 l0_9.length l0_9) (hc0_9 : l0_9.length ≤ c0_9) (hr0_10 : Kd.C (Kd.int .u64) w A0_10 l0_10.length l0_10) (hc0_10 : l0_10.length ≤ c0_10) (hl8 : l0_8.length ≤ 1000) (hl9 : l0_9.length ≤ 1000) (hl10 : l0_10.length ≤ 1000) (h : ((message_spans.f a0_1 l0_8).bind fun b => message_Right.fin (decide (0 < a0_1) && b) (message_alike.f 2000 1 a0_1 a0_2 a0_3 a0_4 a0_5 a0_6 a0_7 l0_8 l0_9 l0_10 1 a0_1 0 0 0 0 0 false l0_8 ([] : List S92) ([] : List Int))) = some r) :
  Calls Try.prog 13 #[.agg #[.int .i64 1, .int .u64 a0_1, .int .u64 a0_2, .int .u64 a0_3, .int .u64 a0_4, .int .u64 a0_5, .int .i64 a0_6, .bool a0_7, .slice A0_8 l0_8.length c0_8, .slice A0_9 l0_9.length c0_9, .slice A0_10 l0_10.length c0_10]] w fun e w' => e = .returned (.int .i64 r) ∧ Below w.heap.size w w' := by
 obtain ⟨b, hs, h⟩ := Option.bind_eq_some_iff.1 h
 obtain ⟨ab, hr, ha⟩ := message_Right.fin_ h
 refine message_Right.gen 1 a0_1 a0_2 a0_3 a0_4 a0_5 a0_6 a0_7 A0_8 c0_8 l0_8 A0_9 c0_9 l0_9 A0_10 c0_10 l0_10 w (fun W m => ∃ (Av : Option Addr) (cv : Nat), m = .iface 51 (.agg #[.int .u64 a0_1, .bool false, .slice Av l0_8.length cv]) ∧ Kd.C k76 W Av l0_8.length l0_8 ∧ l0_8.length ≤ cv) (fun W q => ∃ (Av : Option Addr) (cv : Nat), q = .agg #[.int .i64 1, .int .u64 a0_1, .int .u64 0, .int .u64 0, .int .u64 0, .int .u64 0, .int .i64 0, .bool false, .slice Av l0_8.length cv, .slice none 0 0, .slice none 0 0] ∧ Kd.C k76 W Av l0_8.length l0_8 ∧ l0_8.length ≤ cv) ((decide (0 < a0_1) && b)) ab r hr ?_ ?_ ?_ ?_ ?_ ?_
 ·exact fun W hB => (message_Right.thing1 a0_1 a0_2 a0_3 a0_4 a0_5 a0_6 a0_7 A0_8 c0_8 l0_8 A0_9 c0_9 l0_9 A0_10 c0_10 l0_10 W (Kd.C_below hr0_8 hB) hc0_8 hl8).mono fun e w' ⟨v1, he, hR, hb⟩ => by obtain ⟨A1, c1, rfl, hle, hC1⟩ := Kd.R_reads hR; exact ⟨_, he, ⟨A1, c1, rfl, hC1, hle⟩, hb⟩
 ·exact fun W1 W2 m ⟨Av, cv, e, hC, hle⟩ hb => ⟨Av, cv, e, Kd.C_below hC hb, hle⟩
 ·exact fun W1 m ⟨Av, cv, e, _⟩ => ⟨_, _, e⟩
 ·rintro W m hB ⟨Av, cv, rfl, hC, hle⟩
  exact message_Right.right51 a0_1 false Av cv l0_8 W hC hle b hs
 ·rintro W m hB ⟨Av, cv, rfl, hC, hle⟩
  exact (message_Right.packet51a a0_1 Av cv l0_8 W hC hle hl8).mono fun e w' ⟨v1, he, hR, hb⟩ => by obtain ⟨A1, c1, rfl, hle1, hC1⟩ := Kd.R_reads hR; exact ⟨_, he, ⟨A1, c1, rfl, hC1, hle1⟩, hb⟩
 rintro hb W q hB ⟨Av, cv, rfl, hC, hle⟩
 exact message_alike.calls 2000 1 a0_1 a0_2 a0_3 a0_4 a0_5 a0_6 a0_7 A0_8 c0_8 l0_8 A0_9 c0_9 l0_9 A0_10 c0_10 l0_10 1 a0_1 0 0 0 0 0 false Av cv l0_8 none 0 [] none 0 [] ab W (Kd.C_below hr0_8 hB) hc0_8 (Kd.C_below hr0_9 hB) hc0_9 (Kd.C_below hr0_10 hB) hc0_10 hC hle (Kd.C_nil _ _) (Nat.le_refl _) (Kd.C_nil _ _) (Nat.le_refl _) (ha hb)

set_option maxHeartbeats 8000000 in
set_option maxRecDepth 100000 in
theorem message_Right.case2 (a0_1 a0_2 a0_3 a0_4 a0_5 a0_6 : Int) (a0_7 : Bool) (A0_8 : Option Addr) (c0_8 : Nat) (l0_8 : List S76) (A0_9 : Option Addr) (c0_9 : Nat) (l0_9 : List S92) (A0_10 : Option Addr) (c0_10 : Nat) (l0_10 : List Int) (r : Int) (w : World) (hr0_8 : Kd.C k76 w A0_8 l0_8.length l0_8) (hc0_8 : l0_8.length ≤ c0_8) (hr0_9 : Kd.C k92 w A0_9 l0_9.length l0_9) (hc0_9 : l0_9.length ≤ c0_9) (hr0_10 : Kd.C (Kd.int .u64) w A0_10 l0_10.length l0_10) (hc0_10 : l0_10.length ≤ c0_10) (hl8 : l0_8.length ≤ 1000) (hl9 : l0_9.length ≤ 1000) (hl10 : l0_10.length ≤ 1000) (h : ((message_spans.f a0_1 l0_8).bind fun b => message_Right.fin (decide (0 < a0_1) && b) (message_alike.f 2000 2 a0_1 a0_2 a0_3 a0_4 a0_5 a0_6 a0_7 l0_8 l0_9 l0_10 2 a0_1 0 0 0 0 0 false l0_8 ([] : List S92) ([] : List Int))) = some r) :
  Calls Try.prog 13 #[.agg #[.int .i64 2, .int .u64 a0_1, .int .u64 a0_2, .int .u64 a0_3, .int .u64 a0_4, .int .u64 a0_5, .int .i64 a0_6, .bool a0_7, .slice A0_8 l0_8.length c0_8, .slice A0_9 l0_9.length c0_9, .slice A0_10 l0_10.length c0_10]] w fun e w' => e = .returned (.int .i64 r) ∧ Below w.heap.size w w' := by
 obtain ⟨b, hs, h⟩ := Option.bind_eq_some_iff.1 h
 obtain ⟨ab, hr, ha⟩ := message_Right.fin_ h
 refine message_Right.gen 2 a0_1 a0_2 a0_3 a0_4 a0_5 a0_6 a0_7 A0_8 c0_8 l0_8 A0_9 c0_9 l0_9 A0_10 c0_10 l0_10 w (fun W m => ∃ (Av : Option Addr) (cv : Nat), m = .iface 51 (.agg #[.int .u64 a0_1, .bool true, .slice Av l0_8.length cv]) ∧ Kd.C k76 W Av l0_8.length l0_8 ∧ l0_8.length ≤ cv) (fun W q => ∃ (Av : Option Addr) (cv : Nat), q = .agg #[.int .i64 2, .int .u64 a0_1, .int .u64 0, .int .u64 0, .int .u64 0, .int .u64 0, .int .i64 0, .bool false, .slice Av l0_8.length cv, .slice none 0 0, .slice none 0 0] ∧ Kd.C k76 W Av l0_8.length l0_8 ∧ l0_8.length ≤ cv) ((decide (0 < a0_1) && b)) ab r hr ?_ ?_ ?_ ?_ ?_ ?_
 ·exact fun W hB => (message_Right.thing2 a0_1 a0_2 a0_3 a0_4 a0_5 a0_6 a0_7 A0_8 c0_8 l0_8 A0_9 c0_9 l0_9 A0_10 c0_10 l0_10 W (Kd.C_below hr0_8 hB) hc0_8 hl8).mono fun e w' ⟨v1, he, hR, hb⟩ => by obtain ⟨A1, c1, rfl, hle, hC1⟩ := Kd.R_reads hR; exact ⟨_, he, ⟨A1, c1, rfl, hC1, hle⟩, hb⟩
 ·exact fun W1 W2 m ⟨Av, cv, e, hC, hle⟩ hb => ⟨Av, cv, e, Kd.C_below hC hb, hle⟩
 ·exact fun W1 m ⟨Av, cv, e, _⟩ => ⟨_, _, e⟩
 ·rintro W m hB ⟨Av, cv, rfl, hC, hle⟩
  exact message_Right.right51 a0_1 true Av cv l0_8 W hC hle b hs
 ·rintro W m hB ⟨Av, cv, rfl, hC, hle⟩
  exact (message_Right.packet51b a0_1 Av cv l0_8 W hC hle hl8).mono fun e w' ⟨v1, he, hR, hb⟩ => by obtain ⟨A1, c1, rfl, hle1, hC1⟩ := Kd.R_reads hR; exact ⟨_, he, ⟨A1, c1, rfl, hC1, hle1⟩, hb⟩
 rintro hb W q hB ⟨Av, cv, rfl, hC, hle⟩
 exact message_alike.calls 2000 2 a0_1 a0_2 a0_3 a0_4 a0_5 a0_6 a0_7 A0_8 c0_8 l0_8 A0_9 c0_9 l0_9 A0_10 c0_10 l0_10 2 a0_1 0 0 0 0 0 false Av cv l0_8 none 0 [] none 0 [] ab W (Kd.C_below hr0_8 hB) hc0_8 (Kd.C_below hr0_9 hB) hc0_9 (Kd.C_below hr0_10 hB) hc0_10 hC hle (Kd.C_nil _ _) (Nat.le_refl _) (Kd.C_nil _ _) (Nat.le_refl _) (ha hb)

set_option maxHeartbeats 8000000 in
set_option maxRecDepth 100000 in
theorem message_Right.case3 (a0_1 a0_2 a0_3 a0_4 a0_5 a0_6 : Int) (a0_7 : Bool) (A0_8 : Option Addr) (c0_8 : Nat) (l0_8 : List S76) (A0_9 : Option Addr) (c0_9 : Nat) (l0_9 : List S92) (A0_10 : Option Addr) (c0_10 : Nat) (l0_10 : List Int) (r : Int) (w : World) (hr0_8 : Kd.C k76 w A0_8 l0_8.length l0_8) (hc0_8 : l0_8.length ≤ c0_8) (hr0_9 : Kd.C k92 w A0_9 l0_9.length l0_9) (hc0_9 : l0_9.length ≤ c0_9) (hr0_10 : Kd.C (Kd.int .u64) w A0_10 l0_10.length l0_10) (hc0_10 : l0_10.length ≤ c0_10) (hl8 : l0_8.length ≤ 1000) (hl9 : l0_9.length ≤ 1000) (hl10 : l0_10.length ≤ 1000) (h : ((api_Member_62.f 2000 l0_9 16).bind fun b => (api_Member_64.f 2000 l0_9).bind fun b2 => message_Right.fin (b && !b2) (message_alike.f 2000 3 a0_1 a0_2 a0_3 a0_4 a0_5 a0_6 a0_7 l0_8 l0_9 l0_10 3 0 0 0 0 0 0 false ([] : List S76) l0_9 ([] : List Int))) = some r) :
  Calls Try.prog 13 #[.agg #[.int .i64 3, .int .u64 a0_1, .int .u64 a0_2, .int .u64 a0_3, .int .u64 a0_4, .int .u64 a0_5, .int .i64 a0_6, .bool a0_7, .slice A0_8 l0_8.length c0_8, .slice A0_9 l0_9.length c0_9, .slice A0_10 l0_10.length c0_10]] w fun e w' => e = .returned (.int .i64 r) ∧ Below w.heap.size w w' := by
 obtain ⟨b, hs, h⟩ := Option.bind_eq_some_iff.1 h
 obtain ⟨b2, hs2, h⟩ := Option.bind_eq_some_iff.1 h
 obtain ⟨ab, hr, ha⟩ := message_Right.fin_ h
 refine message_Right.gen 3 a0_1 a0_2 a0_3 a0_4 a0_5 a0_6 a0_7 A0_8 c0_8 l0_8 A0_9 c0_9 l0_9 A0_10 c0_10 l0_10 w (fun W m => ∃ (Av : Option Addr) (cv : Nat), m = .iface 54 (.agg #[.slice Av l0_9.length cv]) ∧ Kd.C k92 W Av l0_9.length l0_9 ∧ l0_9.length ≤ cv) (fun W q => ∃ (Av : Option Addr) (cv : Nat), q = .agg #[.int .i64 3, .int .u64 0, .int .u64 0, .int .u64 0, .int .u64 0, .int .u64 0, .int .i64 0, .bool false, .slice none 0 0, .slice Av l0_9.length cv, .slice none 0 0] ∧ Kd.C k92 W Av l0_9.length l0_9 ∧ l0_9.length ≤ cv) ((b && !b2)) ab r hr ?_ ?_ ?_ ?_ ?_ ?_
 ·exact fun W hB => (message_Right.thing3 a0_1 a0_2 a0_3 a0_4 a0_5 a0_6 a0_7 A0_8 c0_8 l0_8 A0_9 c0_9 l0_9 A0_10 c0_10 l0_10 W (Kd.C_below hr0_9 hB) hc0_9 hl9).mono fun e w' ⟨v1, he, hR, hb⟩ => by obtain ⟨A1, c1, rfl, hle, hC1⟩ := Kd.R_reads hR; exact ⟨_, he, ⟨A1, c1, rfl, hC1, hle⟩, hb⟩
 ·exact fun W1 W2 m ⟨Av, cv, e, hC, hle⟩ hb => ⟨Av, cv, e, Kd.C_below hC hb, hle⟩
 ·exact fun W1 m ⟨Av, cv, e, _⟩ => ⟨_, _, e⟩
 ·rintro W m hB ⟨Av, cv, rfl, hC, hle⟩
  exact message_Right.right54 Av cv l0_9 W hC hle 2000 b b2 hs hs2
 ·rintro W m hB ⟨Av, cv, rfl, hC, hle⟩
  exact (message_Right.packet54 Av cv l0_9 W hC hle hl9).mono fun e w' ⟨v1, he, hR, hb⟩ => by obtain ⟨A1, c1, rfl, hle1, hC1⟩ := Kd.R_reads hR; exact ⟨_, he, ⟨A1, c1, rfl, hC1, hle1⟩, hb⟩
 rintro hb W q hB ⟨Av, cv, rfl, hC, hle⟩
 exact message_alike.calls 2000 3 a0_1 a0_2 a0_3 a0_4 a0_5 a0_6 a0_7 A0_8 c0_8 l0_8 A0_9 c0_9 l0_9 A0_10 c0_10 l0_10 3 0 0 0 0 0 0 false none 0 [] Av cv l0_9 none 0 [] ab W (Kd.C_below hr0_8 hB) hc0_8 (Kd.C_below hr0_9 hB) hc0_9 (Kd.C_below hr0_10 hB) hc0_10 (Kd.C_nil _ _) (Nat.le_refl _) hC hle (Kd.C_nil _ _) (Nat.le_refl _) (ha hb)

set_option maxHeartbeats 8000000 in
set_option maxRecDepth 100000 in
theorem message_Right.case4 (a0_1 a0_2 a0_3 a0_4 a0_5 a0_6 : Int) (a0_7 : Bool) (A0_8 : Option Addr) (c0_8 : Nat) (l0_8 : List S76) (A0_9 : Option Addr) (c0_9 : Nat) (l0_9 : List S92) (A0_10 : Option Addr) (c0_10 : Nat) (l0_10 : List Int) (r : Int) (w : World) (hr0_8 : Kd.C k76 w A0_8 l0_8.length l0_8) (hc0_8 : l0_8.length ≤ c0_8) (hr0_9 : Kd.C k92 w A0_9 l0_9.length l0_9) (hc0_9 : l0_9.length ≤ c0_9) (hr0_10 : Kd.C (Kd.int .u64) w A0_10 l0_10.length l0_10) (hc0_10 : l0_10.length ≤ c0_10) (hl8 : l0_8.length ≤ 1000) (hl9 : l0_9.length ≤ 1000) (hl10 : l0_10.length ≤ 1000) (h : (message_Right.fin (message_Right.rAsk a0_1 a0_2 a0_6) (message_alike.f 2000 4 a0_1 a0_2 a0_3 a0_4 a0_5 a0_6 a0_7 l0_8 l0_9 l0_10 (if a0_6 = 0 then 4 else 6) a0_1 a0_2 a0_3 0 0 a0_6 false ([] : List S76) ([] : List S92) ([] : List Int))) = some r) :
  Calls Try.prog 13 #[.agg #[.int .i64 4, .int .u64 a0_1, .int .u64 a0_2, .int .u64 a0_3, .int .u64 a0_4, .int .u64 a0_5, .int .i64 a0_6, .bool a0_7, .slice A0_8 l0_8.length c0_8, .slice A0_9 l0_9.length c0_9, .slice A0_10 l0_10.length c0_10]] w fun e w' => e = .returned (.int .i64 r) ∧ Below w.heap.size w w' := by
 obtain ⟨ab, hr, ha⟩ := message_Right.fin_ h
 refine message_Right.gen 4 a0_1 a0_2 a0_3 a0_4 a0_5 a0_6 a0_7 A0_8 c0_8 l0_8 A0_9 c0_9 l0_9 A0_10 c0_10 l0_10 w (fun W m => m = .iface 57 (.agg #[.int .u64 a0_1, .int .u64 a0_2, .int .u64 a0_3, .int .i64 a0_6])) (fun W q => q = .agg #[.int .i64 (if a0_6 = 0 then 4 else 6), .int .u64 a0_1, .int .u64 a0_2, .int .u64 a0_3, .int .u64 0, .int .u64 0, .int .i64 a0_6, .bool false, .slice none 0 0, .slice none 0 0, .slice none 0 0]) ((message_Right.rAsk a0_1 a0_2 a0_6)) ab r hr ?_ ?_ ?_ ?_ ?_ ?_
 ·exact fun W hB => (message_Right.thing4 a0_1 a0_2 a0_3 a0_4 a0_5 a0_6 a0_7 A0_8 c0_8 l0_8 A0_9 c0_9 l0_9 A0_10 c0_10 l0_10 W).mono fun e w' ⟨he, hb⟩ => ⟨_, he, rfl, hb⟩
 ·exact fun W1 W2 m e hb => e
 ·exact fun W1 m e => ⟨_, _, e⟩
 ·rintro W m hB rfl
  exact message_Right.right57 a0_1 a0_2 a0_3 a0_6 W
 ·rintro W m hB rfl
  by_cases hv : a0_6 = 0
  ·rw [if_pos hv]
   exact (message_Right.packet57a a0_1 a0_2 a0_3 a0_6 hv W).mono fun e w' ⟨he, hb⟩ => ⟨_, he, rfl, hb⟩
  rw [if_neg hv]
  exact (message_Right.packet57b a0_1 a0_2 a0_3 a0_6 hv W).mono fun e w' ⟨he, hb⟩ => ⟨_, he, rfl, hb⟩
 rintro hb W q hB rfl
 exact message_alike.calls 2000 4 a0_1 a0_2 a0_3 a0_4 a0_5 a0_6 a0_7 A0_8 c0_8 l0_8 A0_9 c0_9 l0_9 A0_10 c0_10 l0_10 (if a0_6 = 0 then 4 else 6) a0_1 a0_2 a0_3 0 0 a0_6 false none 0 [] none 0 [] none 0 [] ab W (Kd.C_below hr0_8 hB) hc0_8 (Kd.C_below hr0_9 hB) hc0_9 (Kd.C_below hr0_10 hB) hc0_10 (Kd.C_nil _ _) (Nat.le_refl _) (Kd.C_nil _ _) (Nat.le_refl _) (Kd.C_nil _ _) (Nat.le_refl _) (ha hb)

set_option maxHeartbeats 8000000 in
set_option maxRecDepth 100000 in
theorem message_Right.case5 (a0_1 a0_2 a0_3 a0_4 a0_5 a0_6 : Int) (a0_7 : Bool) (A0_8 : Option Addr) (c0_8 : Nat) (l0_8 : List S76) (A0_9 : Option Addr) (c0_9 : Nat) (l0_9 : List S92) (A0_10 : Option Addr) (c0_10 : Nat) (l0_10 : List Int) (r : Int) (w : World) (hr0_8 : Kd.C k76 w A0_8 l0_8.length l0_8) (hc0_8 : l0_8.length ≤ c0_8) (hr0_9 : Kd.C k92 w A0_9 l0_9.length l0_9) (hc0_9 : l0_9.length ≤ c0_9) (hr0_10 : Kd.C (Kd.int .u64) w A0_10 l0_10.length l0_10) (hc0_10 : l0_10.length ≤ c0_10) (hl8 : l0_8.length ≤ 1000) (hl9 : l0_9.length ≤ 1000) (hl10 : l0_10.length ≤ 1000) (h : (message_Right.fin (message_Right.rReply a0_1 a0_2 a0_7 a0_4 a0_5 a0_6 false) (message_alike.f 2000 5 a0_1 a0_2 a0_3 a0_4 a0_5 a0_6 a0_7 l0_8 l0_9 l0_10 5 a0_1 a0_2 a0_3 a0_4 a0_5 a0_6 a0_7 ([] : List S76) ([] : List S92) ([] : List Int))) = some r) :
  Calls Try.prog 13 #[.agg #[.int .i64 5, .int .u64 a0_1, .int .u64 a0_2, .int .u64 a0_3, .int .u64 a0_4, .int .u64 a0_5, .int .i64 a0_6, .bool a0_7, .slice A0_8 l0_8.length c0_8, .slice A0_9 l0_9.length c0_9, .slice A0_10 l0_10.length c0_10]] w fun e w' => e = .returned (.int .i64 r) ∧ Below w.heap.size w w' := by
 obtain ⟨ab, hr, ha⟩ := message_Right.fin_ h
 refine message_Right.gen 5 a0_1 a0_2 a0_3 a0_4 a0_5 a0_6 a0_7 A0_8 c0_8 l0_8 A0_9 c0_9 l0_9 A0_10 c0_10 l0_10 w (fun W m => m = .iface 60 (.agg #[.int .u64 a0_1, .int .u64 a0_2, .int .u64 a0_3, .bool a0_7, .int .u64 a0_4, .int .u64 a0_5, .int .i64 a0_6, .bool false])) (fun W q => q = .agg #[.int .i64 5, .int .u64 a0_1, .int .u64 a0_2, .int .u64 a0_3, .int .u64 a0_4, .int .u64 a0_5, .int .i64 a0_6, .bool a0_7, .slice none 0 0, .slice none 0 0, .slice none 0 0]) ((message_Right.rReply a0_1 a0_2 a0_7 a0_4 a0_5 a0_6 false)) ab r hr ?_ ?_ ?_ ?_ ?_ ?_
 ·exact fun W hB => (message_Right.thing5 a0_1 a0_2 a0_3 a0_4 a0_5 a0_6 a0_7 A0_8 c0_8 l0_8 A0_9 c0_9 l0_9 A0_10 c0_10 l0_10 W).mono fun e w' ⟨he, hb⟩ => ⟨_, he, rfl, hb⟩
 ·exact fun W1 W2 m e hb => e
 ·exact fun W1 m e => ⟨_, _, e⟩
 ·rintro W m hB rfl
  exact message_Right.right60 a0_1 a0_2 a0_3 a0_7 a0_4 a0_5 a0_6 false W
 ·rintro W m hB rfl
  exact (message_Right.packet60a a0_1 a0_2 a0_3 a0_7 a0_4 a0_5 a0_6 W).mono fun e w' ⟨he, hb⟩ => ⟨_, he, rfl, hb⟩
 rintro hb W q hB rfl
 exact message_alike.calls 2000 5 a0_1 a0_2 a0_3 a0_4 a0_5 a0_6 a0_7 A0_8 c0_8 l0_8 A0_9 c0_9 l0_9 A0_10 c0_10 l0_10 5 a0_1 a0_2 a0_3 a0_4 a0_5 a0_6 a0_7 none 0 [] none 0 [] none 0 [] ab W (Kd.C_below hr0_8 hB) hc0_8 (Kd.C_below hr0_9 hB) hc0_9 (Kd.C_below hr0_10 hB) hc0_10 (Kd.C_nil _ _) (Nat.le_refl _) (Kd.C_nil _ _) (Nat.le_refl _) (Kd.C_nil _ _) (Nat.le_refl _) (ha hb)

set_option maxHeartbeats 8000000 in
set_option maxRecDepth 100000 in
theorem message_Right.case6 (a0_1 a0_2 a0_3 a0_4 a0_5 a0_6 : Int) (a0_7 : Bool) (A0_8 : Option Addr) (c0_8 : Nat) (l0_8 : List S76) (A0_9 : Option Addr) (c0_9 : Nat) (l0_9 : List S92) (A0_10 : Option Addr) (c0_10 : Nat) (l0_10 : List Int) (r : Int) (w : World) (hr0_8 : Kd.C k76 w A0_8 l0_8.length l0_8) (hc0_8 : l0_8.length ≤ c0_8) (hr0_9 : Kd.C k92 w A0_9 l0_9.length l0_9) (hc0_9 : l0_9.length ≤ c0_9) (hr0_10 : Kd.C (Kd.int .u64) w A0_10 l0_10.length l0_10) (hc0_10 : l0_10.length ≤ c0_10) (hl8 : l0_8.length ≤ 1000) (hl9 : l0_9.length ≤ 1000) (hl10 : l0_10.length ≤ 1000) (h : (message_Right.fin (message_Right.rAsk a0_1 a0_2 a0_6) (message_alike.f 2000 6 a0_1 a0_2 a0_3 a0_4 a0_5 a0_6 a0_7 l0_8 l0_9 l0_10 (if a0_6 = 0 then 4 else 6) a0_1 a0_2 a0_3 0 0 a0_6 false ([] : List S76) ([] : List S92) ([] : List Int))) = some r) :
  Calls Try.prog 13 #[.agg #[.int .i64 6, .int .u64 a0_1, .int .u64 a0_2, .int .u64 a0_3, .int .u64 a0_4, .int .u64 a0_5, .int .i64 a0_6, .bool a0_7, .slice A0_8 l0_8.length c0_8, .slice A0_9 l0_9.length c0_9, .slice A0_10 l0_10.length c0_10]] w fun e w' => e = .returned (.int .i64 r) ∧ Below w.heap.size w w' := by
 obtain ⟨ab, hr, ha⟩ := message_Right.fin_ h
 refine message_Right.gen 6 a0_1 a0_2 a0_3 a0_4 a0_5 a0_6 a0_7 A0_8 c0_8 l0_8 A0_9 c0_9 l0_9 A0_10 c0_10 l0_10 w (fun W m => m = .iface 57 (.agg #[.int .u64 a0_1, .int .u64 a0_2, .int .u64 a0_3, .int .i64 a0_6])) (fun W q => q = .agg #[.int .i64 (if a0_6 = 0 then 4 else 6), .int .u64 a0_1, .int .u64 a0_2, .int .u64 a0_3, .int .u64 0, .int .u64 0, .int .i64 a0_6, .bool false, .slice none 0 0, .slice none 0 0, .slice none 0 0]) ((message_Right.rAsk a0_1 a0_2 a0_6)) ab r hr ?_ ?_ ?_ ?_ ?_ ?_
 ·exact fun W hB => (message_Right.thing6 a0_1 a0_2 a0_3 a0_4 a0_5 a0_6 a0_7 A0_8 c0_8 l0_8 A0_9 c0_9 l0_9 A0_10 c0_10 l0_10 W).mono fun e w' ⟨he, hb⟩ => ⟨_, he, rfl, hb⟩
 ·exact fun W1 W2 m e hb => e
 ·exact fun W1 m e => ⟨_, _, e⟩
 ·rintro W m hB rfl
  exact message_Right.right57 a0_1 a0_2 a0_3 a0_6 W
 ·rintro W m hB rfl
  by_cases hv : a0_6 = 0
  ·rw [if_pos hv]
   exact (message_Right.packet57a a0_1 a0_2 a0_3 a0_6 hv W).mono fun e w' ⟨he, hb⟩ => ⟨_, he, rfl, hb⟩
  rw [if_neg hv]
  exact (message_Right.packet57b a0_1 a0_2 a0_3 a0_6 hv W).mono fun e w' ⟨he, hb⟩ => ⟨_, he, rfl, hb⟩
 rintro hb W q hB rfl
 exact message_alike.calls 2000 6 a0_1 a0_2 a0_3 a0_4 a0_5 a0_6 a0_7 A0_8 c0_8 l0_8 A0_9 c0_9 l0_9 A0_10 c0_10 l0_10 (if a0_6 = 0 then 4 else 6) a0_1 a0_2 a0_3 0 0 a0_6 false none 0 [] none 0 [] none 0 [] ab W (Kd.C_below hr0_8 hB) hc0_8 (Kd.C_below hr0_9 hB) hc0_9 (Kd.C_below hr0_10 hB) hc0_10 (Kd.C_nil _ _) (Nat.le_refl _) (Kd.C_nil _ _) (Nat.le_refl _) (Kd.C_nil _ _) (Nat.le_refl _) (ha hb)

set_option maxHeartbeats 8000000 in
set_option maxRecDepth 100000 in
theorem message_Right.case7 (a0_1 a0_2 a0_3 a0_4 a0_5 a0_6 : Int) (a0_7 : Bool) (A0_8 : Option Addr) (c0_8 : Nat) (l0_8 : List S76) (A0_9 : Option Addr) (c0_9 : Nat) (l0_9 : List S92) (A0_10 : Option Addr) (c0_10 : Nat) (l0_10 : List Int) (r : Int) (w : World) (hr0_8 : Kd.C k76 w A0_8 l0_8.length l0_8) (hc0_8 : l0_8.length ≤ c0_8) (hr0_9 : Kd.C k92 w A0_9 l0_9.length l0_9) (hc0_9 : l0_9.length ≤ c0_9) (hr0_10 : Kd.C (Kd.int .u64) w A0_10 l0_10.length l0_10) (hc0_10 : l0_10.length ≤ c0_10) (hl8 : l0_8.length ≤ 1000) (hl9 : l0_9.length ≤ 1000) (hl10 : l0_10.length ≤ 1000) (h : (message_Right.fin (message_Right.rReply a0_1 a0_2 a0_7 a0_4 a0_5 a0_6 true) (message_alike.f 2000 7 a0_1 a0_2 a0_3 a0_4 a0_5 a0_6 a0_7 l0_8 l0_9 l0_10 7 a0_1 a0_2 a0_3 a0_4 a0_5 a0_6 a0_7 ([] : List S76) ([] : List S92) ([] : List Int))) = some r) :
  Calls Try.prog 13 #[.agg #[.int .i64 7, .int .u64 a0_1, .int .u64 a0_2, .int .u64 a0_3, .int .u64 a0_4, .int .u64 a0_5, .int .i64 a0_6, .bool a0_7, .slice A0_8 l0_8.length c0_8, .slice A0_9 l0_9.length c0_9, .slice A0_10 l0_10.length c0_10]] w fun e w' => e = .returned (.int .i64 r) ∧ Below w.heap.size w w' := by
 obtain ⟨ab, hr, ha⟩ := message_Right.fin_ h
 refine message_Right.gen 7 a0_1 a0_2 a0_3 a0_4 a0_5 a0_6 a0_7 A0_8 c0_8 l0_8 A0_9 c0_9 l0_9 A0_10 c0_10 l0_10 w (fun W m => m = .iface 60 (.agg #[.int .u64 a0_1, .int .u64 a0_2, .int .u64 a0_3, .bool a0_7, .int .u64 a0_4, .int .u64 a0_5, .int .i64 a0_6, .bool true])) (fun W q => q = .agg #[.int .i64 7, .int .u64 a0_1, .int .u64 a0_2, .int .u64 a0_3, .int .u64 a0_4, .int .u64 a0_5, .int .i64 a0_6, .bool a0_7, .slice none 0 0, .slice none 0 0, .slice none 0 0]) ((message_Right.rReply a0_1 a0_2 a0_7 a0_4 a0_5 a0_6 true)) ab r hr ?_ ?_ ?_ ?_ ?_ ?_
 ·exact fun W hB => (message_Right.thing7 a0_1 a0_2 a0_3 a0_4 a0_5 a0_6 a0_7 A0_8 c0_8 l0_8 A0_9 c0_9 l0_9 A0_10 c0_10 l0_10 W).mono fun e w' ⟨he, hb⟩ => ⟨_, he, rfl, hb⟩
 ·exact fun W1 W2 m e hb => e
 ·exact fun W1 m e => ⟨_, _, e⟩
 ·rintro W m hB rfl
  exact message_Right.right60 a0_1 a0_2 a0_3 a0_7 a0_4 a0_5 a0_6 true W
 ·rintro W m hB rfl
  exact (message_Right.packet60b a0_1 a0_2 a0_3 a0_7 a0_4 a0_5 a0_6 W).mono fun e w' ⟨he, hb⟩ => ⟨_, he, rfl, hb⟩
 rintro hb W q hB rfl
 exact message_alike.calls 2000 7 a0_1 a0_2 a0_3 a0_4 a0_5 a0_6 a0_7 A0_8 c0_8 l0_8 A0_9 c0_9 l0_9 A0_10 c0_10 l0_10 7 a0_1 a0_2 a0_3 a0_4 a0_5 a0_6 a0_7 none 0 [] none 0 [] none 0 [] ab W (Kd.C_below hr0_8 hB) hc0_8 (Kd.C_below hr0_9 hB) hc0_9 (Kd.C_below hr0_10 hB) hc0_10 (Kd.C_nil _ _) (Nat.le_refl _) (Kd.C_nil _ _) (Nat.le_refl _) (Kd.C_nil _ _) (Nat.le_refl _) (ha hb)

set_option maxHeartbeats 8000000 in
set_option maxRecDepth 100000 in
theorem message_Right.case8 (a0_1 a0_2 a0_3 a0_4 a0_5 a0_6 : Int) (a0_7 : Bool) (A0_8 : Option Addr) (c0_8 : Nat) (l0_8 : List S76) (A0_9 : Option Addr) (c0_9 : Nat) (l0_9 : List S92) (A0_10 : Option Addr) (c0_10 : Nat) (l0_10 : List Int) (r : Int) (w : World) (hr0_8 : Kd.C k76 w A0_8 l0_8.length l0_8) (hc0_8 : l0_8.length ≤ c0_8) (hr0_9 : Kd.C k92 w A0_9 l0_9.length l0_9) (hc0_9 : l0_9.length ≤ c0_9) (hr0_10 : Kd.C (Kd.int .u64) w A0_10 l0_10.length l0_10) (hc0_10 : l0_10.length ≤ c0_10) (hl8 : l0_8.length ≤ 1000) (hl9 : l0_9.length ≤ 1000) (hl10 : l0_10.length ≤ 1000) (h : (message_Right.fin (decide (0 < a0_1) && message_Right.tB a0_6) (message_alike.f 2000 8 a0_1 a0_2 a0_3 a0_4 a0_5 a0_6 a0_7 l0_8 l0_9 l0_10 8 a0_1 0 0 0 0 a0_6 false ([] : List S76) ([] : List S92) ([] : List Int))) = some r) :
  Calls Try.prog 13 #[.agg #[.int .i64 8, .int .u64 a0_1, .int .u64 a0_2, .int .u64 a0_3, .int .u64 a0_4, .int .u64 a0_5, .int .i64 a0_6, .bool a0_7, .slice A0_8 l0_8.length c0_8, .slice A0_9 l0_9.length c0_9, .slice A0_10 l0_10.length c0_10]] w fun e w' => e = .returned (.int .i64 r) ∧ Below w.heap.size w w' := by
 obtain ⟨ab, hr, ha⟩ := message_Right.fin_ h
 refine message_Right.gen 8 a0_1 a0_2 a0_3 a0_4 a0_5 a0_6 a0_7 A0_8 c0_8 l0_8 A0_9 c0_9 l0_9 A0_10 c0_10 l0_10 w (fun W m => m = .iface 63 (.agg #[.int .u64 a0_1, .int .i64 a0_6])) (fun W q => q = .agg #[.int .i64 8, .int .u64 a0_1, .int .u64 0, .int .u64 0, .int .u64 0, .int .u64 0, .int .i64 a0_6, .bool false, .slice none 0 0, .slice none 0 0, .slice none 0 0]) ((decide (0 < a0_1) && message_Right.tB a0_6)) ab r hr ?_ ?_ ?_ ?_ ?_ ?_
 ·exact fun W hB => (message_Right.thing8 a0_1 a0_2 a0_3 a0_4 a0_5 a0_6 a0_7 A0_8 c0_8 l0_8 A0_9 c0_9 l0_9 A0_10 c0_10 l0_10 W).mono fun e w' ⟨he, hb⟩ => ⟨_, he, rfl, hb⟩
 ·exact fun W1 W2 m e hb => e
 ·exact fun W1 m e => ⟨_, _, e⟩
 ·rintro W m hB rfl
  exact message_Right.right63 a0_1 a0_6 W
 ·rintro W m hB rfl
  exact (message_Right.packet63 a0_1 a0_6 W).mono fun e w' ⟨he, hb⟩ => ⟨_, he, rfl, hb⟩
 rintro hb W q hB rfl
 exact message_alike.calls 2000 8 a0_1 a0_2 a0_3 a0_4 a0_5 a0_6 a0_7 A0_8 c0_8 l0_8 A0_9 c0_9 l0_9 A0_10 c0_10 l0_10 8 a0_1 0 0 0 0 a0_6 false none 0 [] none 0 [] none 0 [] ab W (Kd.C_below hr0_8 hB) hc0_8 (Kd.C_below hr0_9 hB) hc0_9 (Kd.C_below hr0_10 hB) hc0_10 (Kd.C_nil _ _) (Nat.le_refl _) (Kd.C_nil _ _) (Nat.le_refl _) (Kd.C_nil _ _) (Nat.le_refl _) (ha hb)

set_option maxHeartbeats 8000000 in
set_option maxRecDepth 100000 in
theorem message_Right.case9 (a0_1 a0_2 a0_3 a0_4 a0_5 a0_6 : Int) (a0_7 : Bool) (A0_8 : Option Addr) (c0_8 : Nat) (l0_8 : List S76) (A0_9 : Option Addr) (c0_9 : Nat) (l0_9 : List S92) (A0_10 : Option Addr) (c0_10 : Nat) (l0_10 : List Int) (r : Int) (w : World) (hr0_8 : Kd.C k76 w A0_8 l0_8.length l0_8) (hc0_8 : l0_8.length ≤ c0_8) (hr0_9 : Kd.C k92 w A0_9 l0_9.length l0_9) (hc0_9 : l0_9.length ≤ c0_9) (hr0_10 : Kd.C (Kd.int .u64) w A0_10 l0_10.length l0_10) (hc0_10 : l0_10.length ≤ c0_10) (hl8 : l0_8.length ≤ 1000) (hl9 : l0_9.length ≤ 1000) (hl10 : l0_10.length ≤ 1000) (h : ((message_spans.f a0_1 l0_8).bind fun b => message_Right.fin (decide (0 < a0_1) && (decide (0 < a0_2) && b)) (message_alike.f 2000 9 a0_1 a0_2 a0_3 a0_4 a0_5 a0_6 a0_7 l0_8 l0_9 l0_10 9 a0_1 a0_2 a0_3 0 0 0 false l0_8 ([] : List S92) ([] : List Int))) = some r) :
  Calls Try.prog 13 #[.agg #[.int .i64 9, .int .u64 a0_1, .int .u64 a0_2, .int .u64 a0_3, .int .u64 a0_4, .int .u64 a0_5, .int .i64 a0_6, .bool a0_7, .slice A0_8 l0_8.length c0_8, .slice A0_9 l0_9.length c0_9, .slice A0_10 l0_10.length c0_10]] w fun e w' => e = .returned (.int .i64 r) ∧ Below w.heap.size w w' := by
 obtain ⟨b, hs, h⟩ := Option.bind_eq_some_iff.1 h
 obtain ⟨ab, hr, ha⟩ := message_Right.fin_ h
 refine message_Right.gen 9 a0_1 a0_2 a0_3 a0_4 a0_5 a0_6 a0_7 A0_8 c0_8 l0_8 A0_9 c0_9 l0_9 A0_10 c0_10 l0_10 w (fun W m => ∃ (Av : Option Addr) (cv : Nat), m = .iface 66 (.agg #[.int .u64 a0_1, .int .u64 a0_2, .int .u64 a0_3, .slice Av l0_8.length cv]) ∧ Kd.C k76 W Av l0_8.length l0_8 ∧ l0_8.length ≤ cv) (fun W q => ∃ (Av : Option Addr) (cv : Nat), q = .agg #[.int .i64 9, .int .u64 a0_1, .int .u64 a0_2, .int .u64 a0_3, .int .u64 0, .int .u64 0, .int .i64 0, .bool false, .slice Av l0_8.length cv, .slice none 0 0, .slice none 0 0] ∧ Kd.C k76 W Av l0_8.length l0_8 ∧ l0_8.length ≤ cv) ((decide (0 < a0_1) && (decide (0 < a0_2) && b))) ab r hr ?_ ?_ ?_ ?_ ?_ ?_
 ·exact fun W hB => (message_Right.thing9 a0_1 a0_2 a0_3 a0_4 a0_5 a0_6 a0_7 A0_8 c0_8 l0_8 A0_9 c0_9 l0_9 A0_10 c0_10 l0_10 W (Kd.C_below hr0_8 hB) hc0_8 hl8).mono fun e w' ⟨v1, he, hR, hb⟩ => by obtain ⟨A1, c1, rfl, hle, hC1⟩ := Kd.R_reads hR; exact ⟨_, he, ⟨A1, c1, rfl, hC1, hle⟩, hb⟩
 ·exact fun W1 W2 m ⟨Av, cv, e, hC, hle⟩ hb => ⟨Av, cv, e, Kd.C_below hC hb, hle⟩
 ·exact fun W1 m ⟨Av, cv, e, _⟩ => ⟨_, _, e⟩
 ·rintro W m hB ⟨Av, cv, rfl, hC, hle⟩
  exact message_Right.right66 a0_1 a0_2 a0_3 Av cv l0_8 W hC hle b hs
 ·rintro W m hB ⟨Av, cv, rfl, hC, hle⟩
  exact (message_Right.packet66 a0_1 a0_2 a0_3 Av cv l0_8 W hC hle hl8).mono fun e w' ⟨v1, he, hR, hb⟩ => by obtain ⟨A1, c1, rfl, hle1, hC1⟩ := Kd.R_reads hR; exact ⟨_, he, ⟨A1, c1, rfl, hC1, hle1⟩, hb⟩
 rintro hb W q hB ⟨Av, cv, rfl, hC, hle⟩
 exact message_alike.calls 2000 9 a0_1 a0_2 a0_3 a0_4 a0_5 a0_6 a0_7 A0_8 c0_8 l0_8 A0_9 c0_9 l0_9 A0_10 c0_10 l0_10 9 a0_1 a0_2 a0_3 0 0 0 false Av cv l0_8 none 0 [] none 0 [] ab W (Kd.C_below hr0_8 hB) hc0_8 (Kd.C_below hr0_9 hB) hc0_9 (Kd.C_below hr0_10 hB) hc0_10 hC hle (Kd.C_nil _ _) (Nat.le_refl _) (Kd.C_nil _ _) (Nat.le_refl _) (ha hb)

set_option maxHeartbeats 8000000 in
set_option maxRecDepth 100000 in
theorem message_Right.case10 (a0_1 a0_2 a0_3 a0_4 a0_5 a0_6 : Int) (a0_7 : Bool) (A0_8 : Option Addr) (c0_8 : Nat) (l0_8 : List S76) (A0_9 : Option Addr) (c0_9 : Nat) (l0_9 : List S92) (A0_10 : Option Addr) (c0_10 : Nat) (l0_10 : List Int) (r : Int) (w : World) (hr0_8 : Kd.C k76 w A0_8 l0_8.length l0_8) (hc0_8 : l0_8.length ≤ c0_8) (hr0_9 : Kd.C k92 w A0_9 l0_9.length l0_9) (hc0_9 : l0_9.length ≤ c0_9) (hr0_10 : Kd.C (Kd.int .u64) w A0_10 l0_10.length l0_10) (hc0_10 : l0_10.length ≤ c0_10) (hl8 : l0_8.length ≤ 1000) (hl9 : l0_9.length ≤ 1000) (hl10 : l0_10.length ≤ 1000) (h : ((message_rise_uint64.f 2000 l0_10 16).bind fun b => message_Right.fin (decide (0 < a0_1) && b) (message_alike.f 2000 10 a0_1 a0_2 a0_3 a0_4 a0_5 a0_6 a0_7 l0_8 l0_9 l0_10 10 a0_1 0 0 0 0 0 false ([] : List S76) ([] : List S92) l0_10)) = some r) :
  Calls Try.prog 13 #[.agg #[.int .i64 10, .int .u64 a0_1, .int .u64 a0_2, .int .u64 a0_3, .int .u64 a0_4, .int .u64 a0_5, .int .i64 a0_6, .bool a0_7, .slice A0_8 l0_8.length c0_8, .slice A0_9 l0_9.length c0_9, .slice A0_10 l0_10.length c0_10]] w fun e w' => e = .returned (.int .i64 r) ∧ Below w.heap.size w w' := by
 obtain ⟨b, hs, h⟩ := Option.bind_eq_some_iff.1 h
 obtain ⟨ab, hr, ha⟩ := message_Right.fin_ h
 refine message_Right.gen 10 a0_1 a0_2 a0_3 a0_4 a0_5 a0_6 a0_7 A0_8 c0_8 l0_8 A0_9 c0_9 l0_9 A0_10 c0_10 l0_10 w (fun W m => ∃ (Av : Option Addr) (cv : Nat), m = .iface 69 (.agg #[.int .u64 a0_1, .slice Av l0_10.length cv]) ∧ Kd.C (Kd.int .u64) W Av l0_10.length l0_10 ∧ l0_10.length ≤ cv) (fun W q => ∃ (Av : Option Addr) (cv : Nat), q = .agg #[.int .i64 10, .int .u64 a0_1, .int .u64 0, .int .u64 0, .int .u64 0, .int .u64 0, .int .i64 0, .bool false, .slice none 0 0, .slice none 0 0, .slice Av l0_10.length cv] ∧ Kd.C (Kd.int .u64) W Av l0_10.length l0_10 ∧ l0_10.length ≤ cv) ((decide (0 < a0_1) && b)) ab r hr ?_ ?_ ?_ ?_ ?_ ?_
 ·exact fun W hB => (message_Right.thing10 a0_1 a0_2 a0_3 a0_4 a0_5 a0_6 a0_7 A0_8 c0_8 l0_8 A0_9 c0_9 l0_9 A0_10 c0_10 l0_10 W (Kd.C_below hr0_10 hB) hc0_10 hl10).mono fun e w' ⟨v1, he, hR, hb⟩ => by obtain ⟨A1, c1, rfl, hle, hC1⟩ := Kd.R_reads hR; exact ⟨_, he, ⟨A1, c1, rfl, hC1, hle⟩, hb⟩
 ·exact fun W1 W2 m ⟨Av, cv, e, hC, hle⟩ hb => ⟨Av, cv, e, Kd.C_below hC hb, hle⟩
 ·exact fun W1 m ⟨Av, cv, e, _⟩ => ⟨_, _, e⟩
 ·rintro W m hB ⟨Av, cv, rfl, hC, hle⟩
  exact message_Right.right69 a0_1 Av cv l0_10 W hC hle 2000 b hs
 ·rintro W m hB ⟨Av, cv, rfl, hC, hle⟩
  exact (message_Right.packet69 a0_1 Av cv l0_10 W hC hle hl10).mono fun e w' ⟨v1, he, hR, hb⟩ => by obtain ⟨A1, c1, rfl, hle1, hC1⟩ := Kd.R_reads hR; exact ⟨_, he, ⟨A1, c1, rfl, hC1, hle1⟩, hb⟩
 rintro hb W q hB ⟨Av, cv, rfl, hC, hle⟩
 exact message_alike.calls 2000 10 a0_1 a0_2 a0_3 a0_4 a0_5 a0_6 a0_7 A0_8 c0_8 l0_8 A0_9 c0_9 l0_9 A0_10 c0_10 l0_10 10 a0_1 0 0 0 0 0 false none 0 [] none 0 [] Av cv l0_10 ab W (Kd.C_below hr0_8 hB) hc0_8 (Kd.C_below hr0_9 hB) hc0_9 (Kd.C_below hr0_10 hB) hc0_10 (Kd.C_nil _ _) (Nat.le_refl _) (Kd.C_nil _ _) (Nat.le_refl _) hC hle (ha hb)

set_option maxHeartbeats 8000000 in
set_option maxRecDepth 100000 in
theorem message_Right.case0 (kd tr bn bd sn sd v : Int) (ok : Bool) (A8 : Option Addr) (c8 : Nat) (l8 : List S76) (A9 : Option Addr) (c9 : Nat) (l9 : List S92) (A10 : Option Addr) (c10 : Nat) (l10 : List Int) (w : World) (hk : kd < 1 ∨ 10 < kd) :
  Calls Try.prog 13 #[.agg #[.int .i64 kd, .int .u64 tr, .int .u64 bn, .int .u64 bd, .int .u64 sn, .int .u64 sd, .int .i64 v, .bool ok, .slice A8 l8.length c8, .slice A9 l9.length c9, .slice A10 l10.length c10]] w fun e w' => e = .returned (.int .i64 6) ∧ Below w.heap.size w w' := by
 have hu30 := Try.underlying30; have hu24 := Try.underlying24; have hu51 := Try.underlying51; have hu54 := Try.underlying54; have hu57 := Try.underlying57; have hu60 := Try.underlying60; have hu63 := Try.underlying63; have hu66 := Try.underlying66; have hu69 := Try.underlying69
 have HT0 := Aside0.mk (fun W => message_Right.thing0 kd tr bn bd sn sd v ok A8 c8 l8 A9 c9 l9 A10 c10 l10 W hk)
 clear hk
 go_enter Try.func13, Try.ntmps13
 go_wp2_with (first | ((with_reducible refine gate_dst (N := 1) rfl ?_); refine box_event ?hg (N := 1) ?hd (cs := #[.int .i64 kd, .int .u64 tr, .int .u64 bn, .int .u64 bd, .int .u64 sn, .int .u64 sd, .int .i64 v, .bool ok, .slice A8 l8.length c8, .slice A9 l9.length c9, .slice A10 l10.length c10]) (t := 30) ?hr ?_; (case hd => rfl); (case hg => rfl); (case hr => (go_simp; done)); intro g hg w1 hbox hb; have HB := Aside0.mk hb; have BK := Aside0.mk hbox; have HGE := Aside0.mk (show w.heap.size ≤ g from Nat.le_of_eq hg.symm); clear hb hbox hg; obtain ⟨hcz_0, hcz_1, hcz_2, hcz_3, hcz_4, hcz_5, hcz_6, hcz_7, hcz_8, hcz_9, hcz_10⟩ := Hand.Cz.c11 BK.out) | (go_at_call 28; refine (HT0.out _).mono ?_; rintro e w2 ⟨rfl, hb⟩; have HB2 := Aside0.mk (below_step HB.out hb); clear hb))
 clear hcz_0 hcz_1 hcz_2 hcz_3 hcz_4 hcz_5 hcz_6 hcz_7 hcz_8 hcz_9 hcz_10
 refine start_ (n := 14) (S := fun w' => Below w.heap.size w w') (ds := []) #[false, false, false, false, false, false, false, false, false, false, false, false, false, false] (by kernel_rfl) rfl rfl (below_drew1 HB2.out) (fun hHeld => ?_)
 refine with_tabW message_Right.tab13_2 message_Right.bits13_2 (fun HT_ HW_ => ?_)
 generalize w2.drew = wd at hHeld ⊢
 refine pure_ (i := 0) (N := some 6) (v := ?_) (a' := ?_) #[true, false, false, false, false, false, false, false, false, false, false, false, false, false] rfl rfl (any_of HT_.out (by kernel_rfl)) (fun _ _ _ h => h) (Or.inl ⟨by rfl, ?_⟩) ?_ ?_
 rotate_left
 ·intro w'; go_simp; with_reducible rfl
 rotate_left
 ·simp only [Act.put, List.setIfInBounds_toArray, List.set_cons_zero, List.set_cons_succ, i64_w, i32_w]; rfl
 refine pure_ (i := 1) (N := some 7) (v := ?_) (a' := ?_) #[true, true, false, false, false, false, false, false, false, false, false, false, false, false] rfl rfl (any_of HT_.out (by kernel_rfl)) (fun _ _ _ h => h) (Or.inl ⟨by rfl, ?_⟩) ?_ ?_
 rotate_left
 ·intro w'; go_simp; with_reducible rfl
 rotate_left
 ·simp only [Act.put, List.setIfInBounds_toArray, List.set_cons_zero, List.set_cons_succ, i64_w, i32_w]; rfl
 refine pure_ (i := 2) (N := some 8) (v := ?_) (a' := ?_) #[true, true, true, false, false, false, false, false, false, false, false, false, false, false] rfl rfl (any_of HT_.out (by kernel_rfl)) (fun _ _ _ h => h) (Or.inl ⟨by rfl, ?_⟩) ?_ ?_
 rotate_left
 ·intro w'; go_simp; with_reducible rfl
 rotate_left
 ·simp only [Act.put, List.setIfInBounds_toArray, List.set_cons_zero, List.set_cons_succ, i64_w, i32_w]; rfl
 refine pure_ (i := 3) (N := some 9) (v := undef) (a' := ?_) #[true, true, true, true, false, false, false, false, false, false, false, false, false, false] rfl rfl (any_of HT_.out (by kernel_rfl)) (fun _ _ _ h => h) (Or.inr ⟨by rfl, rfl⟩) ?_ ?_
 rotate_left
 ·simp only [Act.put, List.setIfInBounds_toArray, List.set_cons_zero, List.set_cons_succ, i64_w, i32_w]; rfl
 refine pure_ (i := 4) (N := some 10) (v := undef) (a' := ?_) #[true, true, true, true, true, false, false, false, false, false, false, false, false, false] rfl rfl (any_of HT_.out (by kernel_rfl)) (fun _ _ _ h => h) (Or.inr ⟨by rfl, rfl⟩) ?_ ?_
 rotate_left
 ·simp only [Act.put, List.setIfInBounds_toArray, List.set_cons_zero, List.set_cons_succ, i64_w, i32_w]; rfl
 refine pure_ (i := 5) (N := some 11) (v := undef) (a' := ?_) #[true, true, true, true, true, true, false, false, false, false, false, false, false, false] rfl rfl (any_of HT_.out (by kernel_rfl)) (fun _ _ _ h => h) (Or.inr ⟨by rfl, rfl⟩) ?_ ?_
 rotate_left
 ·simp only [Act.put, List.setIfInBounds_toArray, List.set_cons_zero, List.set_cons_succ, i64_w, i32_w]; rfl
 refine pure_ (i := 6) (N := some 12) (v := ?_) (a' := ?_) #[true, true, true, true, true, true, true, false, false, false, false, false, false, false] rfl rfl (any_of HT_.out (by kernel_rfl)) (fun _ _ _ h => h) (Or.inl ⟨by rfl, ?_⟩) ?_ ?_
 rotate_left
 ·intro w'; go_simp; with_reducible rfl
 rotate_left
 ·simp only [Act.put, List.setIfInBounds_toArray, List.set_cons_zero, List.set_cons_succ, i64_w, i32_w]; rfl
 refine pure_ (i := 7) (N := some 13) (v := ?_) (a' := ?_) #[true, true, true, true, true, true, true, true, false, false, false, false, false, false] rfl rfl (any_of HT_.out (by kernel_rfl)) (fun _ _ _ h => h) (Or.inl ⟨by rfl, ?_⟩) ?_ ?_
 rotate_left
 ·intro w'; go_simp; with_reducible rfl
 rotate_left
 ·simp only [Act.put, List.setIfInBounds_toArray, List.set_cons_zero, List.set_cons_succ, i64_w, i32_w]; rfl
 refine pure_ (i := 8) (N := some 14) (v := undef) (a' := ?_) #[true, true, true, true, true, true, true, true, true, false, false, false, false, false] rfl rfl (any_of HT_.out (by kernel_rfl)) (fun _ _ _ h => h) (Or.inr ⟨by rfl, rfl⟩) ?_ ?_
 rotate_left
 ·simp only [Act.put, List.setIfInBounds_toArray, List.set_cons_zero, List.set_cons_succ, i64_w, i32_w]; rfl
 refine pure_ (i := 9) (N := some 15) (v := undef) (a' := ?_) #[true, true, true, true, true, true, true, true, true, true, false, false, false, false] rfl rfl (any_of HT_.out (by kernel_rfl)) (fun _ _ _ h => h) (Or.inr ⟨by rfl, rfl⟩) ?_ ?_
 rotate_left
 ·simp only [Act.put, List.setIfInBounds_toArray, List.set_cons_zero, List.set_cons_succ, i64_w, i32_w]; rfl
 refine pure_ (i := 10) (N := some 16) (v := undef) (a' := ?_) #[true, true, true, true, true, true, true, true, true, true, true, false, false, false] rfl rfl (any_of HT_.out (by kernel_rfl)) (fun _ _ _ h => h) (Or.inr ⟨by rfl, rfl⟩) ?_ ?_
 rotate_left
 ·simp only [Act.put, List.setIfInBounds_toArray, List.set_cons_zero, List.set_cons_succ, i64_w, i32_w]; rfl
 refine pure_ (i := 11) (N := some 17) (v := undef) (a' := ?_) #[true, true, true, true, true, true, true, true, true, true, true, true, false, false] rfl rfl (any_of HT_.out (by kernel_rfl)) (fun _ _ _ h => h) (Or.inr ⟨by rfl, rfl⟩) ?_ ?_
 rotate_left
 ·simp only [Act.put, List.setIfInBounds_toArray, List.set_cons_zero, List.set_cons_succ, i64_w, i32_w]; rfl
 refine pure_ (i := 12) (N := some 18) (v := undef) (a' := ?_) #[true, true, true, true, true, true, true, true, true, true, true, true, true, false] rfl rfl (any_of HT_.out (by kernel_rfl)) (fun _ _ _ h => h) (Or.inr ⟨by rfl, rfl⟩) ?_ ?_
 rotate_left
 ·simp only [Act.put, List.setIfInBounds_toArray, List.set_cons_zero, List.set_cons_succ, i64_w, i32_w]; rfl
 refine pure_ (i := 13) (N := some 19) (v := ?_) (a' := ?_) #[true, true, true, true, true, true, true, true, true, true, true, true, true, true] rfl rfl (any_of HT_.out (by kernel_rfl)) (fun _ _ _ h => h) (Or.inl ⟨by rfl, ?_⟩) ?_ ?_
 rotate_left
 ·intro w'; go_simp; with_reducible rfl
 rotate_left
 ·simp only [Act.put, List.setIfInBounds_toArray, List.set_cons_zero, List.set_cons_succ, i64_w, i32_w]; rfl
 refine done_ (done_of HT_.out (by kernel_rfl)) ?_
 go_wp2
 go_ret
 exact ⟨rfl, hHeld⟩
theorem message_Right.calls (a0_0 a0_1 a0_2 a0_3 a0_4 a0_5 a0_6 : Int) (a0_7 : Bool) (A0_8 : Option Addr) (c0_8 : Nat) (l0_8 : List S76) (A0_9 : Option Addr) (c0_9 : Nat) (l0_9 : List S92) (A0_10 : Option Addr) (c0_10 : Nat) (l0_10 : List Int) (r : Int) (w : World) (hr0_8 : Kd.C k76 w A0_8 l0_8.length l0_8) (hc0_8 : l0_8.length ≤ c0_8) (hr0_9 : Kd.C k92 w A0_9 l0_9.length l0_9) (hc0_9 : l0_9.length ≤ c0_9) (hr0_10 : Kd.C (Kd.int .u64) w A0_10 l0_10.length l0_10) (hc0_10 : l0_10.length ≤ c0_10) (h : message_Right.f a0_0 a0_1 a0_2 a0_3 a0_4 a0_5 a0_6 a0_7 l0_8 l0_9 l0_10 = some r) :
  Calls Try.prog 13 #[.agg #[.int .i64 a0_0, .int .u64 a0_1, .int .u64 a0_2, .int .u64 a0_3, .int .u64 a0_4, .int .u64 a0_5, .int .i64 a0_6, .bool a0_7, .slice A0_8 l0_8.length c0_8, .slice A0_9 l0_9.length c0_9, .slice A0_10 l0_10.length c0_10]] w fun e w' => e = .returned (.int .i64 r) ∧ Below w.heap.size w w' := by
 unfold message_Right.f at h
 by_cases hl : l0_8.length ≤ 1000 ∧ l0_9.length ≤ 1000 ∧ l0_10.length ≤ 1000
 ·rw [if_pos hl] at h
  obtain ⟨hl8, hl9, hl10⟩ := hl
  by_cases h1 : a0_0 = 1
  ·subst h1
   rw [if_pos rfl] at h
   exact message_Right.case1 a0_1 a0_2 a0_3 a0_4 a0_5 a0_6 a0_7 A0_8 c0_8 l0_8 A0_9 c0_9 l0_9 A0_10 c0_10 l0_10 r w hr0_8 hc0_8 hr0_9 hc0_9 hr0_10 hc0_10 hl8 hl9 hl10 h
  rw [if_neg h1] at h
  by_cases h2 : a0_0 = 2
  ·subst h2
   rw [if_pos rfl] at h
   exact message_Right.case2 a0_1 a0_2 a0_3 a0_4 a0_5 a0_6 a0_7 A0_8 c0_8 l0_8 A0_9 c0_9 l0_9 A0_10 c0_10 l0_10 r w hr0_8 hc0_8 hr0_9 hc0_9 hr0_10 hc0_10 hl8 hl9 hl10 h
  rw [if_neg h2] at h
  by_cases h3 : a0_0 = 3
  ·subst h3
   rw [if_pos rfl] at h
   exact message_Right.case3 a0_1 a0_2 a0_3 a0_4 a0_5 a0_6 a0_7 A0_8 c0_8 l0_8 A0_9 c0_9 l0_9 A0_10 c0_10 l0_10 r w hr0_8 hc0_8 hr0_9 hc0_9 hr0_10 hc0_10 hl8 hl9 hl10 h
  rw [if_neg h3] at h
  by_cases h4 : a0_0 = 4
  ·subst h4
   rw [if_pos rfl] at h
   exact message_Right.case4 a0_1 a0_2 a0_3 a0_4 a0_5 a0_6 a0_7 A0_8 c0_8 l0_8 A0_9 c0_9 l0_9 A0_10 c0_10 l0_10 r w hr0_8 hc0_8 hr0_9 hc0_9 hr0_10 hc0_10 hl8 hl9 hl10 h
  rw [if_neg h4] at h
  by_cases h5 : a0_0 = 5
  ·subst h5
   rw [if_pos rfl] at h
   exact message_Right.case5 a0_1 a0_2 a0_3 a0_4 a0_5 a0_6 a0_7 A0_8 c0_8 l0_8 A0_9 c0_9 l0_9 A0_10 c0_10 l0_10 r w hr0_8 hc0_8 hr0_9 hc0_9 hr0_10 hc0_10 hl8 hl9 hl10 h
  rw [if_neg h5] at h
  by_cases h6 : a0_0 = 6
  ·subst h6
   rw [if_pos rfl] at h
   exact message_Right.case6 a0_1 a0_2 a0_3 a0_4 a0_5 a0_6 a0_7 A0_8 c0_8 l0_8 A0_9 c0_9 l0_9 A0_10 c0_10 l0_10 r w hr0_8 hc0_8 hr0_9 hc0_9 hr0_10 hc0_10 hl8 hl9 hl10 h
  rw [if_neg h6] at h
  by_cases h7 : a0_0 = 7
  ·subst h7
   rw [if_pos rfl] at h
   exact message_Right.case7 a0_1 a0_2 a0_3 a0_4 a0_5 a0_6 a0_7 A0_8 c0_8 l0_8 A0_9 c0_9 l0_9 A0_10 c0_10 l0_10 r w hr0_8 hc0_8 hr0_9 hc0_9 hr0_10 hc0_10 hl8 hl9 hl10 h
  rw [if_neg h7] at h
  by_cases h8 : a0_0 = 8
  ·subst h8
   rw [if_pos rfl] at h
   exact message_Right.case8 a0_1 a0_2 a0_3 a0_4 a0_5 a0_6 a0_7 A0_8 c0_8 l0_8 A0_9 c0_9 l0_9 A0_10 c0_10 l0_10 r w hr0_8 hc0_8 hr0_9 hc0_9 hr0_10 hc0_10 hl8 hl9 hl10 h
  rw [if_neg h8] at h
  by_cases h9 : a0_0 = 9
  ·subst h9
   rw [if_pos rfl] at h
   exact message_Right.case9 a0_1 a0_2 a0_3 a0_4 a0_5 a0_6 a0_7 A0_8 c0_8 l0_8 A0_9 c0_9 l0_9 A0_10 c0_10 l0_10 r w hr0_8 hc0_8 hr0_9 hc0_9 hr0_10 hc0_10 hl8 hl9 hl10 h
  rw [if_neg h9] at h
  by_cases h10 : a0_0 = 10
  ·subst h10
   rw [if_pos rfl] at h
   exact message_Right.case10 a0_1 a0_2 a0_3 a0_4 a0_5 a0_6 a0_7 A0_8 c0_8 l0_8 A0_9 c0_9 l0_9 A0_10 c0_10 l0_10 r w hr0_8 hc0_8 hr0_9 hc0_9 hr0_10 hc0_10 hl8 hl9 hl10 h
  rw [if_neg h10] at h
  obtain rfl := Option.some.inj h
  exact message_Right.case0 a0_0 a0_1 a0_2 a0_3 a0_4 a0_5 a0_6 a0_7 A0_8 c0_8 l0_8 A0_9 c0_9 l0_9 A0_10 c0_10 l0_10 w (by omega)
 rw [if_neg hl] at h
 cases h


end Go.Proofs.Ytlpnpnjjmpkapaa.PAll
