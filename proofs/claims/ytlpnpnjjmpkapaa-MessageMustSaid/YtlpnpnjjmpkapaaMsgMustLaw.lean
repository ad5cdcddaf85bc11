/-
  The law MessageMust walked: a packet that is not light, one that is not right, one that is no ask, and an ask.
  Conditions: given as hypotheses (the calls of Light, Of and alive).
-/
import Derived.Test.YtlpnpnjjmpkapaaMsgMust
namespace Go.Proofs.Ytlpnpnjjmpkapaa.PAll
open Go.RowKit Go.Proofs.YtlpnpnjjmpkapaaW.PrintWords Go.Proofs.YtlpnpnjjmpkapaaW.PrintLast Go.Proofs.YtlpnpnjjmpkapaaW.PrintMore
attribute [local go_sem] max2_int min2_int max_two min_two max_three min_three max_four min_four
set_option linter.unusedVariables false
set_option linter.unusedSimpArgs false

set_option maxHeartbeats 8000000 in
set_option maxRecDepth 100000 in
theorem must_dark (kd tr bn bd sn sd v what : Int) (ok : Bool) (A8 : Option Addr) (c8 : Nat) (l8 : List S76) (A9 : Option Addr) (c9 : Nat) (l9 : List S92) (A10 : Option Addr) (c10 : Nat) (l10 : List Int) (w : World) (hL : ∀ W, Below w.heap.size w W → Calls Try.prog 12 #[.agg #[.int .i64 kd, .int .u64 tr, .int .u64 bn, .int .u64 bd, .int .u64 sn, .int .u64 sd, .int .i64 v, .bool ok, .slice A8 l8.length c8, .slice A9 l9.length c9, .slice A10 l10.length c10]] W fun e w' => e = .returned (.bool false) ∧ Below W.heap.size W w') (hA : ∀ W, Calls Try.prog 15 #[] W fun e w' => e = .returned (.bool true) ∧ Below W.heap.size W w') :
    Calls Try.prog 11 #[.agg #[.int .i64 kd, .int .u64 tr, .int .u64 bn, .int .u64 bd, .int .u64 sn, .int .u64 sd, .int .i64 v, .bool ok, .slice A8 l8.length c8, .slice A9 l9.length c9, .slice A10 l10.length c10], .int .i64 what] w fun e w' => e = .returned (.bool true) ∧ Below w.heap.size w w' := by
  have hu30 := Try.underlying30
  have hu24 := Try.underlying24
  have hu51 := Try.underlying51
  have hu54 := Try.underlying54
  have hu57 := Try.underlying57
  have hu60 := Try.underlying60
  have hu63 := Try.underlying63
  have hu66 := Try.underlying66
  have hu69 := Try.underlying69
  have HL := Aside0.mk hL
  have HA := Aside0.mk hA
  clear hL hA
  go_enter Try.func11, Try.ntmps11
  go_wp2_with (first | ((with_reducible refine gate_dst (N := 2) rfl ?_); refine box_event ?hg (N := 2) ?hd (cs := #[.int .i64 kd, .int .u64 tr, .int .u64 bn, .int .u64 bd, .int .u64 sn, .int .u64 sd, .int .i64 v, .bool ok, .slice A8 l8.length c8, .slice A9 l9.length c9, .slice A10 l10.length c10]) (t := 30) ?hr ?_; (case hd => rfl); (case hg => rfl); (case hr => first | (go_simp; done) | (go_simp; rfl)); intro gp hg w1 hbox hb; have HB1 := Aside0.mk hb; have BK1 := Aside0.mk hbox; clear hb hbox hg; obtain ⟨hp_0, hp_1, hp_2, hp_3, hp_4, hp_5, hp_6, hp_7, hp_8, hp_9, hp_10⟩ := Hand.Cz.c11 BK1.out) | (go_at_call 12; refine (HL.out _ HB1.out).mono ?_; rintro e w2 ⟨rfl, hb⟩; have BK2 := Aside0.mk (blk_below BK1.out hb); have HB2 := Aside0.mk (below_step HB1.out hb); clear hb; clear hp_0 hp_1 hp_2 hp_3 hp_4 hp_5 hp_6 hp_7 hp_8 hp_9 hp_10; obtain ⟨hp_0, hp_1, hp_2, hp_3, hp_4, hp_5, hp_6, hp_7, hp_8, hp_9, hp_10⟩ := Hand.Cz.c11 BK2.out) | (go_at_call 15; refine (HA.out _).mono ?_; rintro e wA ⟨rfl, hb⟩; have HBA := Aside0.mk (below_step HB2.out hb); clear hb))
  go_ret
  exact ⟨rfl, HBA.out⟩

set_option maxHeartbeats 8000000 in
set_option maxRecDepth 100000 in
theorem must_bad (kd tr bn bd sn sd v what : Int) (ok : Bool) (A8 : Option Addr) (c8 : Nat) (l8 : List S76) (A9 : Option Addr) (c9 : Nat) (l9 : List S92) (A10 : Option Addr) (c10 : Nat) (l10 : List Int) (w : World) (hL : ∀ W, Below w.heap.size w W → Calls Try.prog 12 #[.agg #[.int .i64 kd, .int .u64 tr, .int .u64 bn, .int .u64 bd, .int .u64 sn, .int .u64 sd, .int .i64 v, .bool ok, .slice A8 l8.length c8, .slice A9 l9.length c9, .slice A10 l10.length c10]] W fun e w' => e = .returned (.bool true) ∧ Below W.heap.size W w') (hO : ∀ W, Below w.heap.size w W → Calls Try.prog 23 #[.agg #[.int .i64 kd, .int .u64 tr, .int .u64 bn, .int .u64 bd, .int .u64 sn, .int .u64 sd, .int .i64 v, .bool ok, .slice A8 l8.length c8, .slice A9 l9.length c9, .slice A10 l10.length c10]] W fun e w' => e = .returned (.tuple #[.nilIface, .int .i64 6]) ∧ Below W.heap.size W w') (hA : ∀ W, Calls Try.prog 15 #[] W fun e w' => e = .returned (.bool true) ∧ Below W.heap.size W w') :
    Calls Try.prog 11 #[.agg #[.int .i64 kd, .int .u64 tr, .int .u64 bn, .int .u64 bd, .int .u64 sn, .int .u64 sd, .int .i64 v, .bool ok, .slice A8 l8.length c8, .slice A9 l9.length c9, .slice A10 l10.length c10], .int .i64 what] w fun e w' => e = .returned (.bool true) ∧ Below w.heap.size w w' := by
  have hu30 := Try.underlying30
  have hu24 := Try.underlying24
  have hu51 := Try.underlying51
  have hu54 := Try.underlying54
  have hu57 := Try.underlying57
  have hu60 := Try.underlying60
  have hu63 := Try.underlying63
  have hu66 := Try.underlying66
  have hu69 := Try.underlying69
  have HL := Aside0.mk hL
  have HA := Aside0.mk hA
  have HO := Aside0.mk hO
  clear hL hA hO
  go_enter Try.func11, Try.ntmps11
  go_upto_region 6 with (first | ((with_reducible refine gate_dst (N := 2) rfl ?_); refine box_event ?hg (N := 2) ?hd (cs := #[.int .i64 kd, .int .u64 tr, .int .u64 bn, .int .u64 bd, .int .u64 sn, .int .u64 sd, .int .i64 v, .bool ok, .slice A8 l8.length c8, .slice A9 l9.length c9, .slice A10 l10.length c10]) (t := 30) ?hr ?_; (case hd => rfl); (case hg => rfl); (case hr => first | (go_simp; done) | (go_simp; rfl)); intro gp hg w1 hbox hb; have HB1 := Aside0.mk hb; have BK1 := Aside0.mk hbox; clear hb hbox hg; obtain ⟨hp_0, hp_1, hp_2, hp_3, hp_4, hp_5, hp_6, hp_7, hp_8, hp_9, hp_10⟩ := Hand.Cz.c11 BK1.out) | (go_at_call 12; refine (HL.out _ HB1.out).mono ?_; rintro e w2 ⟨rfl, hb⟩; have BK2 := Aside0.mk (blk_below BK1.out hb); have HB2 := Aside0.mk (below_step HB1.out hb); clear hb; clear hp_0 hp_1 hp_2 hp_3 hp_4 hp_5 hp_6 hp_7 hp_8 hp_9 hp_10; obtain ⟨hp_0, hp_1, hp_2, hp_3, hp_4, hp_5, hp_6, hp_7, hp_8, hp_9, hp_10⟩ := Hand.Cz.c11 BK2.out) | (go_at_call 23; refine (HO.out _ HB2.out).mono ?_; rintro e w3 ⟨rfl, hb⟩; have HB3 := Aside0.mk (below_step HB2.out hb); clear hb; clear hp_0 hp_1 hp_2 hp_3 hp_4 hp_5 hp_6 hp_7 hp_8 hp_9 hp_10) | (go_at_call 26; refine (must_no .nilIface _ _ mp0).mono ?_; rintro e w4 ⟨rfl, hb⟩; have HB4 := Aside0.mk (below_step HB3.out hb); clear hb) | ((with_reducible refine gate_dst (N := 7) rfl ?_); refine box_event ?hg (N := 7) ?hd (cs := #[.int .u64 0, .int .u64 0, .int .u64 0, .int .i64 0]) (t := 57) ?hr ?_; (case hd => rfl); (case hg => rfl); (case hr => first | (go_simp; done) | (go_simp; rfl)); intro g7 hg w5 hbox hb; have HGg7 := Aside0.mk (show w.heap.size ≤ g7 from by rw [hg]; exact HB4.out.size); have HBg7 := Aside0.mk (below_step HB4.out hb); have BXg7 := Aside0.mk hbox; clear hg hbox hb; obtain ⟨ha_0, ha_1, ha_2, ha_3⟩ := Hand.Cz.c4 BXg7.out; obtain ⟨hb_0, hb_1, hb_2, hb_3⟩ := Hand.Cz.f4 BXg7.out))
  generalize hWq : World.setCell _ (Addr.mk g7 3 none) _ = w6
  have BQg7 := Aside0.mk (show w6.heap[g7]? = some (.cells #[.int .u64 0, .int .u64 0, .int .u64 0, .int .i64 0] 57 (0, 0)) from by rw [← hWq]; exact Hand.Cz.p4 BXg7.out)
  have HQg7 := Aside0.mk (show Below w.heap.size w w6 from by rw [← hWq]; exact Hand.Cz.b4 HBg7.out HGg7.out)
  clear hWq HBg7 BXg7 ha_0 ha_1 ha_2 ha_3 hb_0 hb_1 hb_2 hb_3
  obtain ⟨ha_0, ha_1, ha_2, ha_3⟩ := Hand.Cz.c4 BQg7.out
  go_wp2_with (go_at_call 15; refine (HA.out _).mono ?_; rintro e wA ⟨rfl, hb⟩; have HBA := Aside0.mk (below_step HQg7.out hb); clear hb)
  go_ret
  exact ⟨rfl, HBA.out⟩

def mustl.T11_11 : Bool × List (List Nat × List Nat) := (true, [([], []), ([0], [0]), ([1], [1]), ([2, 1, 1], [1, 2]), ([1], [1]), ([3, 4, 1], [1, 3, 4]), ([1, 5], [1, 5])])
def mustl.B11_11 : List Nat := [0, 1, 3, 7, 3, 31, 63]
theorem mustl.tab11_11 : rtab .any (opsOf Try.f11 11) = mustl.T11_11 := by kernel_rfl
theorem mustl.bits11_11 : waitsOk mustl.T11_11.2 mustl.B11_11 = true := by kernel_rfl
set_option maxHeartbeats 8000000 in
set_option maxRecDepth 100000 in
theorem must_none (kd tr bn bd sn sd v what : Int) (ok : Bool) (A8 : Option Addr) (c8 : Nat) (l8 : List S76) (A9 : Option Addr) (c9 : Nat) (l9 : List S92) (A10 : Option Addr) (c10 : Nat) (l10 : List Int) (w : World) (h4 : kd ≠ 4) (h6 : kd ≠ 6) (hL : ∀ W, Below w.heap.size w W → Calls Try.prog 12 #[.agg #[.int .i64 kd, .int .u64 tr, .int .u64 bn, .int .u64 bd, .int .u64 sn, .int .u64 sd, .int .i64 v, .bool ok, .slice A8 l8.length c8, .slice A9 l9.length c9, .slice A10 l10.length c10]] W fun e w' => e = .returned (.bool true) ∧ Below W.heap.size W w') (hO : ∀ W, Below w.heap.size w W → Calls Try.prog 23 #[.agg #[.int .i64 kd, .int .u64 tr, .int .u64 bn, .int .u64 bd, .int .u64 sn, .int .u64 sd, .int .i64 v, .bool ok, .slice A8 l8.length c8, .slice A9 l9.length c9, .slice A10 l10.length c10]] W fun e w' => (∃ (m : Value) (D : Obj), e = .returned (.tuple #[m, .int .i64 0]) ∧ ∀ W : World, (Instr.typeAssert m 20 57 false).run Try.prog W = .halt (.panic (.iface 15 (.pointer (some ⟨W.heap.size, 0, none⟩)))) (W.alloc D)) ∧ Below W.heap.size W w') (hR : ∀ W, Calls Try.prog 13 #[.agg #[.int .i64 0, .int .u64 0, .int .u64 0, .int .u64 0, .int .u64 0, .int .u64 0, .int .i64 0, .bool false, .slice none 0 0, .slice none 0 0, .slice none 0 0]] W fun e w' => e = .returned (.int .i64 6) ∧ Below W.heap.size W w') (hA : ∀ W, Calls Try.prog 15 #[] W fun e w' => e = .returned (.bool true) ∧ Below W.heap.size W w') :
    Calls Try.prog 11 #[.agg #[.int .i64 kd, .int .u64 tr, .int .u64 bn, .int .u64 bd, .int .u64 sn, .int .u64 sd, .int .i64 v, .bool ok, .slice A8 l8.length c8, .slice A9 l9.length c9, .slice A10 l10.length c10], .int .i64 what] w fun e w' => e = .returned (.bool true) ∧ Below w.heap.size w w' := by
  have hu30 := Try.underlying30
  have hu24 := Try.underlying24
  have hu51 := Try.underlying51
  have hu54 := Try.underlying54
  have hu57 := Try.underlying57
  have hu60 := Try.underlying60
  have hu63 := Try.underlying63
  have hu66 := Try.underlying66
  have hu69 := Try.underlying69
  have k4 : (kd == 4) = false := beq_eq_false_iff_ne.mpr h4
  have k6 : (kd == 6) = false := beq_eq_false_iff_ne.mpr h6
  clear h4 h6
  have hu57 := Try.underlying57
  have HL := Aside0.mk hL
  have HA := Aside0.mk hA
  have HO := Aside0.mk hO
  have HR := Aside0.mk hR
  clear hL hA hO hR
  go_enter Try.func11, Try.ntmps11
  go_upto_region 8 with (first | ((with_reducible refine gate_dst (N := 2) rfl ?_); refine box_event ?hg (N := 2) ?hd (cs := #[.int .i64 kd, .int .u64 tr, .int .u64 bn, .int .u64 bd, .int .u64 sn, .int .u64 sd, .int .i64 v, .bool ok, .slice A8 l8.length c8, .slice A9 l9.length c9, .slice A10 l10.length c10]) (t := 30) ?hr ?_; (case hd => rfl); (case hg => rfl); (case hr => first | (go_simp; done) | (go_simp; rfl)); intro gp hg w1 hbox hb; have HB1 := Aside0.mk hb; have BK1 := Aside0.mk hbox; clear hb hbox hg; obtain ⟨hp_0, hp_1, hp_2, hp_3, hp_4, hp_5, hp_6, hp_7, hp_8, hp_9, hp_10⟩ := Hand.Cz.c11 BK1.out) | (go_at_call 12; refine (HL.out _ HB1.out).mono ?_; rintro e w2 ⟨rfl, hb⟩; have BK2 := Aside0.mk (blk_below BK1.out hb); have HB2 := Aside0.mk (below_step HB1.out hb); clear hb; clear hp_0 hp_1 hp_2 hp_3 hp_4 hp_5 hp_6 hp_7 hp_8 hp_9 hp_10; obtain ⟨hp_0, hp_1, hp_2, hp_3, hp_4, hp_5, hp_6, hp_7, hp_8, hp_9, hp_10⟩ := Hand.Cz.c11 BK2.out) | (go_at_call 23; refine (HO.out _ HB2.out).mono ?_; rintro e w3 ⟨⟨m, D, rfl, hm⟩, hb⟩; have HM := Aside0.mk hm; clear hm; have BK3 := Aside0.mk (blk_below BK2.out hb); have HB3 := Aside0.mk (below_step HB2.out hb); clear hb; clear hp_0 hp_1 hp_2 hp_3 hp_4 hp_5 hp_6 hp_7 hp_8 hp_9 hp_10) | (go_at_call 26; refine (must_no m D _ HM.out).mono ?_; rintro e w4 ⟨rfl, hb⟩; have HB4 := Aside0.mk (below_step HB3.out hb); have BK4 := Aside0.mk (blk_below BK3.out hb); clear hb) | ((with_reducible refine gate_dst (N := 9) rfl ?_); refine box_event ?hg (N := 9) ?hd (cs := #[.int .u64 0, .int .u64 0, .int .u64 0, .int .i64 0]) (t := 57) ?hr ?_; (case hd => rfl); (case hg => rfl); (case hr => first | (go_simp; done) | (go_simp; rfl)); intro g9 hg w5 hbox hb; have HGg9 := Aside0.mk (show w.heap.size ≤ g9 from by rw [hg]; exact HB4.out.size); have HBg9 := Aside0.mk (below_step HB4.out hb); have BXg9 := Aside0.mk hbox; have BK5 := Aside0.mk (blk_below BK4.out hb); have NE9 := Aside0.mk (show gp ≠ g9 from by have := blk_lt BK4.out; omega); clear hg hbox hb; obtain ⟨ha_0, ha_1, ha_2, ha_3⟩ := Hand.Cz.c4 BXg9.out; obtain ⟨hb_0, hb_1, hb_2, hb_3⟩ := Hand.Cz.f4 BXg9.out))
  generalize hWq : World.setCell _ (Addr.mk g9 3 none) _ = w6
  have BQg9 := Aside0.mk (show w6.heap[g9]? = some (.cells #[.int .u64 0, .int .u64 0, .int .u64 0, .int .i64 0] 57 (0, 0)) from by rw [← hWq]; exact Hand.Cz.p4 BXg9.out)
  have HQg9 := Aside0.mk (show Below w.heap.size w w6 from by rw [← hWq]; exact Hand.Cz.b4 HBg9.out HGg9.out)
  have BK6 := Aside0.mk (show w6.heap[gp]? = some (.cells #[.int .i64 kd, .int .u64 tr, .int .u64 bn, .int .u64 bd, .int .u64 sn, .int .u64 sd, .int .i64 v, .bool ok, .slice A8 l8.length c8, .slice A9 l9.length c9, .slice A10 l10.length c10] 30 (0, 0)) from by rw [← hWq]; exact Hand.Cz.o4 BK5.out NE9.out)
  clear hWq HBg9 BXg9 ha_0 ha_1 ha_2 ha_3 hb_0 hb_1 hb_2 hb_3
  obtain ⟨ha_0, ha_1, ha_2, ha_3⟩ := Hand.Cz.c4 BQg9.out
  obtain ⟨hp_0, hp_1, hp_2, hp_3, hp_4, hp_5, hp_6, hp_7, hp_8, hp_9, hp_10⟩ := Hand.Cz.c11 BK6.out
  go_wp2
  clear ha_0 ha_1 ha_2 ha_3 hp_0 hp_1 hp_2 hp_3 hp_4 hp_5 hp_6 hp_7 hp_8 hp_9 hp_10
  refine start_ (n := 7) (S := fun w' => w'.heap[g9]? = some (.cells #[.int .u64 0, .int .u64 0, .int .u64 0, .int .i64 0] 57 (0, 0)) ∧ Below w.heap.size w w') (ds := []) #[false, false, false, false, false, false, false] (by kernel_rfl) rfl rfl ⟨blk_drew BQg9.out, below_drew1 HQg9.out⟩ (fun hHeld => ?_)
  refine with_tabW mustl.tab11_11 mustl.bits11_11 (fun HT_ HW_ => ?_)
  generalize w6.drew = wd at hHeld ⊢
  refine pure_ (i := 0) (N := some 94) (v := ?_) (a' := ?_) #[true, false, false, false, false, false, false] rfl rfl (any_of HT_.out (by kernel_rfl)) (fun _ _ _ h => h) (Or.inl ⟨by rfl, ?_⟩) ?_ ?_
  rotate_left
  · intro w'
    go_simp
    with_reducible rfl
  rotate_left
  · simp only [Act.put, List.setIfInBounds_toArray, List.set_cons_zero, List.set_cons_succ, i64_w, i32_w]
    rfl
  refine pure_ (i := 1) (N := some 95) (v := ?_) (a' := ?_) #[true, true, false, false, false, false, false] rfl rfl (any_of HT_.out (by kernel_rfl)) (fun _ _ _ h => h) (Or.inl ⟨by rfl, ?_⟩) ?_ ?_
  rotate_left
  · intro w'
    go_simp
    with_reducible rfl
  rotate_left
  · simp only [Act.put, List.setIfInBounds_toArray, List.set_cons_zero, List.set_cons_succ, i64_w, i32_w]
    rfl
  refine pure_ (i := 2) (N := some 96) (v := undef) (a' := ?_) #[true, true, true, false, false, false, false] rfl rfl (any_of HT_.out (by kernel_rfl)) (fun _ _ _ h => h) (Or.inr ⟨by rfl, rfl⟩) ?_ ?_
  rotate_left
  · simp only [Act.put, List.setIfInBounds_toArray, List.set_cons_zero, List.set_cons_succ, i64_w, i32_w]
    rfl
  refine pure_ (i := 3) (N := some 97) (v := undef) (a' := ?_) #[true, true, true, true, false, false, false] rfl rfl (any_of HT_.out (by kernel_rfl)) (fun _ _ _ h => h) (Or.inr ⟨by rfl, rfl⟩) ?_ ?_
  rotate_left
  · simp only [Act.put, List.setIfInBounds_toArray, List.set_cons_zero, List.set_cons_succ, i64_w, i32_w]
    rfl
  refine pure_ (i := 4) (N := some 98) (v := undef) (a' := ?_) #[true, true, true, true, true, false, false] rfl rfl (any_of HT_.out (by kernel_rfl)) (fun _ _ _ h => h) (Or.inr ⟨by rfl, rfl⟩) ?_ ?_
  rotate_left
  · simp only [Act.put, List.setIfInBounds_toArray, List.set_cons_zero, List.set_cons_succ, i64_w, i32_w]
    rfl
  refine pure_ (i := 5) (N := some 99) (v := undef) (a' := ?_) #[true, true, true, true, true, true, false] rfl rfl (any_of HT_.out (by kernel_rfl)) (fun _ _ _ h => h) (Or.inr ⟨by rfl, rfl⟩) ?_ ?_
  rotate_left
  · simp only [Act.put, List.setIfInBounds_toArray, List.set_cons_zero, List.set_cons_succ, i64_w, i32_w]
    rfl
  refine pure_ (i := 6) (N := some 100) (v := ?_) (a' := ?_) #[true, true, true, true, true, true, true] rfl rfl (any_of HT_.out (by kernel_rfl)) (fun _ _ _ h => h) (Or.inl ⟨by rfl, ?_⟩) ?_ ?_
  rotate_left
  · intro w'
    go_simp
    with_reducible rfl
  rotate_left
  · simp only [Act.put, List.setIfInBounds_toArray, List.set_cons_zero, List.set_cons_succ, i64_w, i32_w]
    rfl
  refine done_ (done_of HT_.out (by kernel_rfl)) ?_
  have HB7 := Aside0.mk hHeld.2
  clear hHeld
  go_upto_region 14 with (first | (go_at_call 24; refine (pkt_no _ _ (fun W => packet_no3 (.int .i64 what) W) HR.out).mono ?_; rintro e w10 ⟨rfl, hb⟩; have HB10 := Aside0.mk (below_step HB7.out hb); clear hb) | ((with_reducible refine gate_dst (N := 12) rfl ?_); refine box_event ?hg (N := 12) ?hd (cs := #[.int .i64 0, .int .u64 0, .int .u64 0, .int .u64 0, .int .u64 0, .int .u64 0, .int .i64 0, .bool false, .slice none 0 0, .slice none 0 0, .slice none 0 0]) (t := 30) ?hr ?_; (case hd => rfl); (case hg => rfl); (case hr => first | (go_simp; done) | (go_simp; rfl)); intro g12 hg w11 hbox hb; have HGg12 := Aside0.mk (show w.heap.size ≤ g12 from by rw [hg]; exact HB10.out.size); have HBg12 := Aside0.mk (below_step HB10.out hb); have BXg12 := Aside0.mk hbox; clear hg hbox hb; obtain ⟨ha_0, ha_1, ha_2, ha_3, ha_4, ha_5, ha_6, ha_7, ha_8, ha_9, ha_10⟩ := Hand.Cz.c11 BXg12.out; obtain ⟨hb_0, hb_1, hb_2, hb_3, hb_4, hb_5, hb_6, hb_7, hb_8, hb_9, hb_10⟩ := Hand.Cz.f11 BXg12.out))
  generalize hWq : World.setCell _ (Addr.mk g12 10 none) _ = w12
  have HQg12 := Aside0.mk (show Below w.heap.size w w12 from by rw [← hWq]; exact Hand.Cz.b11 HBg12.out HGg12.out)
  clear hWq HBg12 BXg12 ha_0 ha_1 ha_2 ha_3 ha_4 ha_5 ha_6 ha_7 ha_8 ha_9 ha_10 hb_0 hb_1 hb_2 hb_3 hb_4 hb_5 hb_6 hb_7 hb_8 hb_9 hb_10
  go_upto_region 15 with (first | (go_at_call 24; refine (pkt_no _ _ (fun W => packet_no73 _ W) HR.out).mono ?_; rintro e w13 ⟨rfl, hb⟩; have HB13 := Aside0.mk (below_step HQg12.out hb); clear hb) | ((with_reducible refine gate_dst (N := 14) rfl ?_); refine box_event ?hg (N := 14) ?hd (cs := #[.int .i64 0, .int .u64 0, .int .u64 0, .int .u64 0, .int .u64 0, .int .u64 0, .int .i64 0, .bool false, .slice none 0 0, .slice none 0 0, .slice none 0 0]) (t := 30) ?hr ?_; (case hd => rfl); (case hg => rfl); (case hr => first | (go_simp; done) | (go_simp; rfl)); intro g14 hg w14 hbox hb; have HGg14 := Aside0.mk (show w.heap.size ≤ g14 from by rw [hg]; exact HB13.out.size); have HBg14 := Aside0.mk (below_step HB13.out hb); have BXg14 := Aside0.mk hbox; clear hg hbox hb; obtain ⟨ha_0, ha_1, ha_2, ha_3, ha_4, ha_5, ha_6, ha_7, ha_8, ha_9, ha_10⟩ := Hand.Cz.c11 BXg14.out; obtain ⟨hb_0, hb_1, hb_2, hb_3, hb_4, hb_5, hb_6, hb_7, hb_8, hb_9, hb_10⟩ := Hand.Cz.f11 BXg14.out))
  generalize hWq : World.setCell _ (Addr.mk g14 10 none) _ = w15
  have HQg14 := Aside0.mk (show Below w.heap.size w w15 from by rw [← hWq]; exact Hand.Cz.b11 HBg14.out HGg14.out)
  clear hWq HBg14 BXg14 ha_0 ha_1 ha_2 ha_3 ha_4 ha_5 ha_6 ha_7 ha_8 ha_9 ha_10 hb_0 hb_1 hb_2 hb_3 hb_4 hb_5 hb_6 hb_7 hb_8 hb_9 hb_10
  go_upto_region 16 with (first | (go_at_call 26; refine (must_no (.iface 73 (.pointer (some ⟨g9, 0, none⟩))) _ _ (fun W => mp73 _ W)).mono ?_; rintro e w16 ⟨rfl, hb⟩; have HB16 := Aside0.mk (below_step HQg14.out hb); clear hb) | ((with_reducible refine gate_dst (N := 16) rfl ?_); refine box_event ?hg (N := 16) ?hd (cs := #[.int .u64 0, .int .u64 0, .int .u64 0, .int .i64 0]) (t := 57) ?hr ?_; (case hd => rfl); (case hg => rfl); (case hr => first | (go_simp; done) | (go_simp; rfl)); intro g16 hg w17 hbox hb; have HGg16 := Aside0.mk (show w.heap.size ≤ g16 from by rw [hg]; exact HB16.out.size); have HBg16 := Aside0.mk (below_step HB16.out hb); have BXg16 := Aside0.mk hbox; clear hg hbox hb; obtain ⟨ha_0, ha_1, ha_2, ha_3⟩ := Hand.Cz.c4 BXg16.out; obtain ⟨hb_0, hb_1, hb_2, hb_3⟩ := Hand.Cz.f4 BXg16.out))
  generalize hWq : World.setCell _ (Addr.mk g16 3 none) _ = w18
  have BQg16 := Aside0.mk (show w18.heap[g16]? = some (.cells #[.int .u64 0, .int .u64 0, .int .u64 0, .int .i64 0] 57 (0, 0)) from by rw [← hWq]; exact Hand.Cz.p4 BXg16.out)
  have HQg16 := Aside0.mk (show Below w.heap.size w w18 from by rw [← hWq]; exact Hand.Cz.b4 HBg16.out HGg16.out)
  clear hWq HBg16 BXg16 ha_0 ha_1 ha_2 ha_3 hb_0 hb_1 hb_2 hb_3
  go_wp2_with (first | (go_at_call 25; refine (trace_no3 (.int .i64 what) _).mono ?_; rintro e w19 ⟨rfl, hb⟩; have HB19 := Aside0.mk (below_step HQg16.out hb); clear hb) | (go_at_call 15; refine (HA.out _).mono ?_; rintro e wA ⟨rfl, hb⟩; have HBA := Aside0.mk (below_step HB19.out hb); clear hb))
  go_ret
  exact ⟨rfl, HBA.out⟩

set_option maxHeartbeats 8000000 in
set_option maxRecDepth 100000 in
theorem must_ask4 (tr bn bd sn sd v what : Int) (ok : Bool) (A8 : Option Addr) (c8 : Nat) (l8 : List S76) (A9 : Option Addr) (c9 : Nat) (l9 : List S92) (A10 : Option Addr) (c10 : Nat) (l10 : List Int) (w : World) (hL : ∀ W, Below w.heap.size w W → Calls Try.prog 12 #[.agg #[.int .i64 4, .int .u64 tr, .int .u64 bn, .int .u64 bd, .int .u64 sn, .int .u64 sd, .int .i64 v, .bool ok, .slice A8 l8.length c8, .slice A9 l9.length c9, .slice A10 l10.length c10]] W fun e w' => e = .returned (.bool true) ∧ Below W.heap.size W w') (hO : ∀ W, Below w.heap.size w W → Calls Try.prog 23 #[.agg #[.int .i64 4, .int .u64 tr, .int .u64 bn, .int .u64 bd, .int .u64 sn, .int .u64 sd, .int .i64 v, .bool ok, .slice A8 l8.length c8, .slice A9 l9.length c9, .slice A10 l10.length c10]] W fun e w' => e = .returned (.tuple #[.iface 57 (.agg #[.int .u64 tr, .int .u64 bn, .int .u64 bd, .int .i64 v]), .int .i64 0]) ∧ Below W.heap.size W w') (hR : ∀ W, Calls Try.prog 13 #[.agg #[.int .i64 0, .int .u64 0, .int .u64 0, .int .u64 0, .int .u64 0, .int .u64 0, .int .i64 0, .bool false, .slice none 0 0, .slice none 0 0, .slice none 0 0]] W fun e w' => e = .returned (.int .i64 6) ∧ Below W.heap.size W w') (hA : ∀ W, Calls Try.prog 15 #[] W fun e w' => e = .returned (.bool true) ∧ Below W.heap.size W w') :
    Calls Try.prog 11 #[.agg #[.int .i64 4, .int .u64 tr, .int .u64 bn, .int .u64 bd, .int .u64 sn, .int .u64 sd, .int .i64 v, .bool ok, .slice A8 l8.length c8, .slice A9 l9.length c9, .slice A10 l10.length c10], .int .i64 what] w fun e w' => e = .returned (.bool true) ∧ Below w.heap.size w w' := by
  have hu30 := Try.underlying30
  have hu24 := Try.underlying24
  have hu51 := Try.underlying51
  have hu54 := Try.underlying54
  have hu57 := Try.underlying57
  have hu60 := Try.underlying60
  have hu63 := Try.underlying63
  have hu66 := Try.underlying66
  have hu69 := Try.underlying69
  have hu57 := Try.underlying57
  have HL := Aside0.mk hL
  have HA := Aside0.mk hA
  have HO := Aside0.mk hO
  have HR := Aside0.mk hR
  clear hL hA hO hR
  go_enter Try.func11, Try.ntmps11
  go_upto_region 8 with (first | ((with_reducible refine gate_dst (N := 2) rfl ?_); refine box_event ?hg (N := 2) ?hd (cs := #[.int .i64 4, .int .u64 tr, .int .u64 bn, .int .u64 bd, .int .u64 sn, .int .u64 sd, .int .i64 v, .bool ok, .slice A8 l8.length c8, .slice A9 l9.length c9, .slice A10 l10.length c10]) (t := 30) ?hr ?_; (case hd => rfl); (case hg => rfl); (case hr => first | (go_simp; done) | (go_simp; rfl)); intro gp hg w1 hbox hb; have HB1 := Aside0.mk hb; have BK1 := Aside0.mk hbox; clear hb hbox hg; obtain ⟨hp_0, hp_1, hp_2, hp_3, hp_4, hp_5, hp_6, hp_7, hp_8, hp_9, hp_10⟩ := Hand.Cz.c11 BK1.out) | (go_at_call 12; refine (HL.out _ HB1.out).mono ?_; rintro e w2 ⟨rfl, hb⟩; have BK2 := Aside0.mk (blk_below BK1.out hb); have HB2 := Aside0.mk (below_step HB1.out hb); clear hb; clear hp_0 hp_1 hp_2 hp_3 hp_4 hp_5 hp_6 hp_7 hp_8 hp_9 hp_10; obtain ⟨hp_0, hp_1, hp_2, hp_3, hp_4, hp_5, hp_6, hp_7, hp_8, hp_9, hp_10⟩ := Hand.Cz.c11 BK2.out) | (go_at_call 23; refine (HO.out _ HB2.out).mono ?_; rintro e w3 ⟨rfl, hb⟩; have BK3 := Aside0.mk (blk_below BK2.out hb); have HB3 := Aside0.mk (below_step HB2.out hb); clear hb; clear hp_0 hp_1 hp_2 hp_3 hp_4 hp_5 hp_6 hp_7 hp_8 hp_9 hp_10) | (go_at_call 26; refine (must_any (.iface 57 (.agg #[.int .u64 tr, .int .u64 bn, .int .u64 bd, .int .i64 v])) tr bn bd v false _ (fun W => caught_ok tr bn bd v W)).mono ?_; rintro e w4 ⟨rfl, hb⟩; have HB4 := Aside0.mk (below_step HB3.out hb); have BK4 := Aside0.mk (blk_below BK3.out hb); clear hb) | ((with_reducible refine gate_dst (N := 9) rfl ?_); refine box_event ?hg (N := 9) ?hd (cs := #[.int .u64 0, .int .u64 0, .int .u64 0, .int .i64 0]) (t := 57) ?hr ?_; (case hd => rfl); (case hg => rfl); (case hr => first | (go_simp; done) | (go_simp; rfl)); intro g9 hg w5 hbox hb; have HGg9 := Aside0.mk (show w.heap.size ≤ g9 from by rw [hg]; exact HB4.out.size); have HBg9 := Aside0.mk (below_step HB4.out hb); have BXg9 := Aside0.mk hbox; have BK5 := Aside0.mk (blk_below BK4.out hb); have NE9 := Aside0.mk (show gp ≠ g9 from by have := blk_lt BK4.out; omega); clear hg hbox hb; obtain ⟨ha_0, ha_1, ha_2, ha_3⟩ := Hand.Cz.c4 BXg9.out; obtain ⟨hb_0, hb_1, hb_2, hb_3⟩ := Hand.Cz.f4 BXg9.out))
  generalize hWq : World.setCell _ (Addr.mk g9 3 none) _ = w6
  have BQg9 := Aside0.mk (show w6.heap[g9]? = some (.cells #[.int .u64 tr, .int .u64 bn, .int .u64 bd, .int .i64 v] 57 (0, 0)) from by rw [← hWq]; exact Hand.Cz.p4 BXg9.out)
  have HQg9 := Aside0.mk (show Below w.heap.size w w6 from by rw [← hWq]; exact Hand.Cz.b4 HBg9.out HGg9.out)
  have BK6 := Aside0.mk (show w6.heap[gp]? = some (.cells #[.int .i64 4, .int .u64 tr, .int .u64 bn, .int .u64 bd, .int .u64 sn, .int .u64 sd, .int .i64 v, .bool ok, .slice A8 l8.length c8, .slice A9 l9.length c9, .slice A10 l10.length c10] 30 (0, 0)) from by rw [← hWq]; exact Hand.Cz.o4 BK5.out NE9.out)
  clear hWq HBg9 BXg9 ha_0 ha_1 ha_2 ha_3 hb_0 hb_1 hb_2 hb_3
  obtain ⟨ha_0, ha_1, ha_2, ha_3⟩ := Hand.Cz.c4 BQg9.out
  obtain ⟨hp_0, hp_1, hp_2, hp_3, hp_4, hp_5, hp_6, hp_7, hp_8, hp_9, hp_10⟩ := Hand.Cz.c11 BK6.out
  go_wp2
  clear ha_0 ha_1 ha_2 ha_3 hp_0 hp_1 hp_2 hp_3 hp_4 hp_5 hp_6 hp_7 hp_8 hp_9 hp_10
  refine start_ (n := 7) (S := fun w' => w'.heap[g9]? = some (.cells #[.int .u64 tr, .int .u64 bn, .int .u64 bd, .int .i64 v] 57 (0, 0)) ∧ Below w.heap.size w w') (ds := []) #[false, false, false, false, false, false, false] (by kernel_rfl) rfl rfl ⟨blk_drew BQg9.out, below_drew1 HQg9.out⟩ (fun hHeld => ?_)
  refine with_tabW mustl.tab11_11 mustl.bits11_11 (fun HT_ HW_ => ?_)
  generalize w6.drew = wd at hHeld ⊢
  refine pure_ (i := 0) (N := some 94) (v := ?_) (a' := ?_) #[true, false, false, false, false, false, false] rfl rfl (any_of HT_.out (by kernel_rfl)) (fun _ _ _ h => h) (Or.inl ⟨by rfl, ?_⟩) ?_ ?_
  rotate_left
  · intro w'
    go_simp
    with_reducible rfl
  rotate_left
  · simp only [Act.put, List.setIfInBounds_toArray, List.set_cons_zero, List.set_cons_succ, i64_w, i32_w]
    rfl
  refine pure_ (i := 1) (N := some 95) (v := ?_) (a' := ?_) #[true, true, false, false, false, false, false] rfl rfl (any_of HT_.out (by kernel_rfl)) (fun _ _ _ h => h) (Or.inl ⟨by rfl, ?_⟩) ?_ ?_
  rotate_left
  · intro w'
    go_simp
    with_reducible rfl
  rotate_left
  · simp only [Act.put, List.setIfInBounds_toArray, List.set_cons_zero, List.set_cons_succ, i64_w, i32_w]
    rfl
  refine pure_ (i := 2) (N := some 96) (v := ?_) (a' := ?_) #[true, true, true, false, false, false, false] rfl rfl (any_of HT_.out (by kernel_rfl)) (fun _ _ _ h => h) (Or.inl ⟨by rfl, ?_⟩) ?_ ?_
  rotate_left
  · intro w'
    go_simp
    with_reducible rfl
  rotate_left
  · simp only [Act.put, List.setIfInBounds_toArray, List.set_cons_zero, List.set_cons_succ, i64_w, i32_w]
    rfl
  refine take_ (i := 4) (N := some 98) (v := ?_) (a' := ?_) #[true, true, true, false, true, false, false] rfl rfl (take_ofW HT_.out HW_.out (by kernel_rfl)) (fun _ _ _ h => h) (Or.inl ⟨by rfl, ?_⟩) hHeld ?_ ?_
  rotate_left
  · rintro w' ⟨E, I⟩
    have z0 : w'.cell? ⟨g9, 0, none⟩ = some (.int .u64 tr) := (blk_cell E 0).trans rfl
    have z1 : w'.cell? ⟨g9, 1, none⟩ = some (.int .u64 bn) := (blk_cell E 1).trans rfl
    have z2 : w'.cell? ⟨g9, 2, none⟩ = some (.int .u64 bd) := (blk_cell E 2).trans rfl
    have z3 : w'.cell? ⟨g9, 3, none⟩ = some (.int .i64 v) := (blk_cell E 3).trans rfl
    go_simp
    with_reducible rfl
  rotate_left
  · simp only [Act.put, List.setIfInBounds_toArray, List.set_cons_zero, List.set_cons_succ, i64_w, i32_w]
    rfl
  refine one_ (i := 3) (N := some 97) #[true, true, true, true, true, false, false] rfl rfl (one_of HT_.out (by kernel_rfl)) (by decide) (fun K hK => ?_)
  refine goes_ Try.func27 (by kernel_rfl) rfl #[.iface 57 (.agg #[.int .u64 tr, .int .u64 bn, .int .u64 bd, .int .i64 v])] (by rfl) rfl rfl (by (try simp only [List.map_toArray, List.map_cons, List.map_nil]); first | done | rfl) ?_
  with_reducible refine (mustask_ok tr bn bd v _).mono ?_
  rintro e w8 ⟨rfl, hb⟩
  refine ⟨_, rfl, ?_⟩
  refine hK.out _ _ ⟨blk_below hHeld.1 hb, below_step hHeld.2 hb⟩ (fun hHeld => ?_)
  clear hK K
  refine norm_ (a' := ?_) ?_ ?_
  rotate_left
  · show Act.put _ (some 97) _ = _
    simp only [Act.put, List.setIfInBounds_toArray, List.set_cons_zero, List.set_cons_succ, i64_w, i32_w]
    rfl
  refine pure_ (i := 5) (N := some 99) (v := ?_) (a' := ?_) #[true, true, true, true, true, true, false] rfl rfl (any_of HT_.out (by kernel_rfl)) (fun _ _ _ h => h) (Or.inl ⟨by rfl, ?_⟩) ?_ ?_
  rotate_left
  · intro w'
    go_simp
    with_reducible rfl
  rotate_left
  · simp only [Act.put, List.setIfInBounds_toArray, List.set_cons_zero, List.set_cons_succ, i64_w, i32_w]
    rfl
  refine pure_ (i := 6) (N := some 100) (v := ?_) (a' := ?_) #[true, true, true, true, true, true, true] rfl rfl (any_of HT_.out (by kernel_rfl)) (fun _ _ _ h => h) (Or.inl ⟨by rfl, ?_⟩) ?_ ?_
  rotate_left
  · intro w'
    go_simp
    with_reducible rfl
  rotate_left
  · simp only [Act.put, List.setIfInBounds_toArray, List.set_cons_zero, List.set_cons_succ, i64_w, i32_w]
    rfl
  refine done_ (done_of HT_.out (by kernel_rfl)) ?_
  have HB7 := Aside0.mk hHeld.2
  clear hHeld
  go_upto_region 14 with (first | (go_at_call 24; refine (pkt_no _ _ (fun W => packet_no3 (.int .i64 what) W) HR.out).mono ?_; rintro e w10 ⟨rfl, hb⟩; have HB10 := Aside0.mk (below_step HB7.out hb); clear hb) | ((with_reducible refine gate_dst (N := 12) rfl ?_); refine box_event ?hg (N := 12) ?hd (cs := #[.int .i64 0, .int .u64 0, .int .u64 0, .int .u64 0, .int .u64 0, .int .u64 0, .int .i64 0, .bool false, .slice none 0 0, .slice none 0 0, .slice none 0 0]) (t := 30) ?hr ?_; (case hd => rfl); (case hg => rfl); (case hr => first | (go_simp; done) | (go_simp; rfl)); intro g12 hg w11 hbox hb; have HGg12 := Aside0.mk (show w.heap.size ≤ g12 from by rw [hg]; exact HB10.out.size); have HBg12 := Aside0.mk (below_step HB10.out hb); have BXg12 := Aside0.mk hbox; clear hg hbox hb; obtain ⟨ha_0, ha_1, ha_2, ha_3, ha_4, ha_5, ha_6, ha_7, ha_8, ha_9, ha_10⟩ := Hand.Cz.c11 BXg12.out; obtain ⟨hb_0, hb_1, hb_2, hb_3, hb_4, hb_5, hb_6, hb_7, hb_8, hb_9, hb_10⟩ := Hand.Cz.f11 BXg12.out))
  generalize hWq : World.setCell _ (Addr.mk g12 10 none) _ = w12
  have HQg12 := Aside0.mk (show Below w.heap.size w w12 from by rw [← hWq]; exact Hand.Cz.b11 HBg12.out HGg12.out)
  clear hWq HBg12 BXg12 ha_0 ha_1 ha_2 ha_3 ha_4 ha_5 ha_6 ha_7 ha_8 ha_9 ha_10 hb_0 hb_1 hb_2 hb_3 hb_4 hb_5 hb_6 hb_7 hb_8 hb_9 hb_10
  go_upto_region 15 with (first | (go_at_call 24; refine (pkt_no _ _ (fun W => packet_no73 _ W) HR.out).mono ?_; rintro e w13 ⟨rfl, hb⟩; have HB13 := Aside0.mk (below_step HQg12.out hb); clear hb) | ((with_reducible refine gate_dst (N := 14) rfl ?_); refine box_event ?hg (N := 14) ?hd (cs := #[.int .i64 0, .int .u64 0, .int .u64 0, .int .u64 0, .int .u64 0, .int .u64 0, .int .i64 0, .bool false, .slice none 0 0, .slice none 0 0, .slice none 0 0]) (t := 30) ?hr ?_; (case hd => rfl); (case hg => rfl); (case hr => first | (go_simp; done) | (go_simp; rfl)); intro g14 hg w14 hbox hb; have HGg14 := Aside0.mk (show w.heap.size ≤ g14 from by rw [hg]; exact HB13.out.size); have HBg14 := Aside0.mk (below_step HB13.out hb); have BXg14 := Aside0.mk hbox; clear hg hbox hb; obtain ⟨ha_0, ha_1, ha_2, ha_3, ha_4, ha_5, ha_6, ha_7, ha_8, ha_9, ha_10⟩ := Hand.Cz.c11 BXg14.out; obtain ⟨hb_0, hb_1, hb_2, hb_3, hb_4, hb_5, hb_6, hb_7, hb_8, hb_9, hb_10⟩ := Hand.Cz.f11 BXg14.out))
  generalize hWq : World.setCell _ (Addr.mk g14 10 none) _ = w15
  have HQg14 := Aside0.mk (show Below w.heap.size w w15 from by rw [← hWq]; exact Hand.Cz.b11 HBg14.out HGg14.out)
  clear hWq HBg14 BXg14 ha_0 ha_1 ha_2 ha_3 ha_4 ha_5 ha_6 ha_7 ha_8 ha_9 ha_10 hb_0 hb_1 hb_2 hb_3 hb_4 hb_5 hb_6 hb_7 hb_8 hb_9 hb_10
  go_upto_region 16 with (first | (go_at_call 26; refine (must_no (.iface 73 (.pointer (some ⟨g9, 0, none⟩))) _ _ (fun W => mp73 _ W)).mono ?_; rintro e w16 ⟨rfl, hb⟩; have HB16 := Aside0.mk (below_step HQg14.out hb); clear hb) | ((with_reducible refine gate_dst (N := 16) rfl ?_); refine box_event ?hg (N := 16) ?hd (cs := #[.int .u64 0, .int .u64 0, .int .u64 0, .int .i64 0]) (t := 57) ?hr ?_; (case hd => rfl); (case hg => rfl); (case hr => first | (go_simp; done) | (go_simp; rfl)); intro g16 hg w17 hbox hb; have HGg16 := Aside0.mk (show w.heap.size ≤ g16 from by rw [hg]; exact HB16.out.size); have HBg16 := Aside0.mk (below_step HB16.out hb); have BXg16 := Aside0.mk hbox; clear hg hbox hb; obtain ⟨ha_0, ha_1, ha_2, ha_3⟩ := Hand.Cz.c4 BXg16.out; obtain ⟨hb_0, hb_1, hb_2, hb_3⟩ := Hand.Cz.f4 BXg16.out))
  generalize hWq : World.setCell _ (Addr.mk g16 3 none) _ = w18
  have BQg16 := Aside0.mk (show w18.heap[g16]? = some (.cells #[.int .u64 0, .int .u64 0, .int .u64 0, .int .i64 0] 57 (0, 0)) from by rw [← hWq]; exact Hand.Cz.p4 BXg16.out)
  have HQg16 := Aside0.mk (show Below w.heap.size w w18 from by rw [← hWq]; exact Hand.Cz.b4 HBg16.out HGg16.out)
  clear hWq HBg16 BXg16 ha_0 ha_1 ha_2 ha_3 hb_0 hb_1 hb_2 hb_3
  go_wp2_with (first | (go_at_call 25; refine (trace_no3 (.int .i64 what) _).mono ?_; rintro e w19 ⟨rfl, hb⟩; have HB19 := Aside0.mk (below_step HQg16.out hb); clear hb) | (go_at_call 15; refine (HA.out _).mono ?_; rintro e wA ⟨rfl, hb⟩; have HBA := Aside0.mk (below_step HB19.out hb); clear hb))
  go_ret
  exact ⟨rfl, HBA.out⟩

set_option maxHeartbeats 8000000 in
set_option maxRecDepth 100000 in
theorem must_ask6 (tr bn bd sn sd v what : Int) (ok : Bool) (A8 : Option Addr) (c8 : Nat) (l8 : List S76) (A9 : Option Addr) (c9 : Nat) (l9 : List S92) (A10 : Option Addr) (c10 : Nat) (l10 : List Int) (w : World) (hL : ∀ W, Below w.heap.size w W → Calls Try.prog 12 #[.agg #[.int .i64 6, .int .u64 tr, .int .u64 bn, .int .u64 bd, .int .u64 sn, .int .u64 sd, .int .i64 v, .bool ok, .slice A8 l8.length c8, .slice A9 l9.length c9, .slice A10 l10.length c10]] W fun e w' => e = .returned (.bool true) ∧ Below W.heap.size W w') (hO : ∀ W, Below w.heap.size w W → Calls Try.prog 23 #[.agg #[.int .i64 6, .int .u64 tr, .int .u64 bn, .int .u64 bd, .int .u64 sn, .int .u64 sd, .int .i64 v, .bool ok, .slice A8 l8.length c8, .slice A9 l9.length c9, .slice A10 l10.length c10]] W fun e w' => e = .returned (.tuple #[.iface 57 (.agg #[.int .u64 tr, .int .u64 bn, .int .u64 bd, .int .i64 v]), .int .i64 0]) ∧ Below W.heap.size W w') (hR : ∀ W, Calls Try.prog 13 #[.agg #[.int .i64 0, .int .u64 0, .int .u64 0, .int .u64 0, .int .u64 0, .int .u64 0, .int .i64 0, .bool false, .slice none 0 0, .slice none 0 0, .slice none 0 0]] W fun e w' => e = .returned (.int .i64 6) ∧ Below W.heap.size W w') (hA : ∀ W, Calls Try.prog 15 #[] W fun e w' => e = .returned (.bool true) ∧ Below W.heap.size W w') :
    Calls Try.prog 11 #[.agg #[.int .i64 6, .int .u64 tr, .int .u64 bn, .int .u64 bd, .int .u64 sn, .int .u64 sd, .int .i64 v, .bool ok, .slice A8 l8.length c8, .slice A9 l9.length c9, .slice A10 l10.length c10], .int .i64 what] w fun e w' => e = .returned (.bool true) ∧ Below w.heap.size w w' := by
  have hu30 := Try.underlying30
  have hu24 := Try.underlying24
  have hu51 := Try.underlying51
  have hu54 := Try.underlying54
  have hu57 := Try.underlying57
  have hu60 := Try.underlying60
  have hu63 := Try.underlying63
  have hu66 := Try.underlying66
  have hu69 := Try.underlying69
  have hu57 := Try.underlying57
  have HL := Aside0.mk hL
  have HA := Aside0.mk hA
  have HO := Aside0.mk hO
  have HR := Aside0.mk hR
  clear hL hA hO hR
  go_enter Try.func11, Try.ntmps11
  go_upto_region 8 with (first | ((with_reducible refine gate_dst (N := 2) rfl ?_); refine box_event ?hg (N := 2) ?hd (cs := #[.int .i64 6, .int .u64 tr, .int .u64 bn, .int .u64 bd, .int .u64 sn, .int .u64 sd, .int .i64 v, .bool ok, .slice A8 l8.length c8, .slice A9 l9.length c9, .slice A10 l10.length c10]) (t := 30) ?hr ?_; (case hd => rfl); (case hg => rfl); (case hr => first | (go_simp; done) | (go_simp; rfl)); intro gp hg w1 hbox hb; have HB1 := Aside0.mk hb; have BK1 := Aside0.mk hbox; clear hb hbox hg; obtain ⟨hp_0, hp_1, hp_2, hp_3, hp_4, hp_5, hp_6, hp_7, hp_8, hp_9, hp_10⟩ := Hand.Cz.c11 BK1.out) | (go_at_call 12; refine (HL.out _ HB1.out).mono ?_; rintro e w2 ⟨rfl, hb⟩; have BK2 := Aside0.mk (blk_below BK1.out hb); have HB2 := Aside0.mk (below_step HB1.out hb); clear hb; clear hp_0 hp_1 hp_2 hp_3 hp_4 hp_5 hp_6 hp_7 hp_8 hp_9 hp_10; obtain ⟨hp_0, hp_1, hp_2, hp_3, hp_4, hp_5, hp_6, hp_7, hp_8, hp_9, hp_10⟩ := Hand.Cz.c11 BK2.out) | (go_at_call 23; refine (HO.out _ HB2.out).mono ?_; rintro e w3 ⟨rfl, hb⟩; have BK3 := Aside0.mk (blk_below BK2.out hb); have HB3 := Aside0.mk (below_step HB2.out hb); clear hb; clear hp_0 hp_1 hp_2 hp_3 hp_4 hp_5 hp_6 hp_7 hp_8 hp_9 hp_10) | (go_at_call 26; refine (must_any (.iface 57 (.agg #[.int .u64 tr, .int .u64 bn, .int .u64 bd, .int .i64 v])) tr bn bd v false _ (fun W => caught_ok tr bn bd v W)).mono ?_; rintro e w4 ⟨rfl, hb⟩; have HB4 := Aside0.mk (below_step HB3.out hb); have BK4 := Aside0.mk (blk_below BK3.out hb); clear hb) | ((with_reducible refine gate_dst (N := 9) rfl ?_); refine box_event ?hg (N := 9) ?hd (cs := #[.int .u64 0, .int .u64 0, .int .u64 0, .int .i64 0]) (t := 57) ?hr ?_; (case hd => rfl); (case hg => rfl); (case hr => first | (go_simp; done) | (go_simp; rfl)); intro g9 hg w5 hbox hb; have HGg9 := Aside0.mk (show w.heap.size ≤ g9 from by rw [hg]; exact HB4.out.size); have HBg9 := Aside0.mk (below_step HB4.out hb); have BXg9 := Aside0.mk hbox; have BK5 := Aside0.mk (blk_below BK4.out hb); have NE9 := Aside0.mk (show gp ≠ g9 from by have := blk_lt BK4.out; omega); clear hg hbox hb; obtain ⟨ha_0, ha_1, ha_2, ha_3⟩ := Hand.Cz.c4 BXg9.out; obtain ⟨hb_0, hb_1, hb_2, hb_3⟩ := Hand.Cz.f4 BXg9.out))
  generalize hWq : World.setCell _ (Addr.mk g9 3 none) _ = w6
  have BQg9 := Aside0.mk (show w6.heap[g9]? = some (.cells #[.int .u64 tr, .int .u64 bn, .int .u64 bd, .int .i64 v] 57 (0, 0)) from by rw [← hWq]; exact Hand.Cz.p4 BXg9.out)
  have HQg9 := Aside0.mk (show Below w.heap.size w w6 from by rw [← hWq]; exact Hand.Cz.b4 HBg9.out HGg9.out)
  have BK6 := Aside0.mk (show w6.heap[gp]? = some (.cells #[.int .i64 6, .int .u64 tr, .int .u64 bn, .int .u64 bd, .int .u64 sn, .int .u64 sd, .int .i64 v, .bool ok, .slice A8 l8.length c8, .slice A9 l9.length c9, .slice A10 l10.length c10] 30 (0, 0)) from by rw [← hWq]; exact Hand.Cz.o4 BK5.out NE9.out)
  clear hWq HBg9 BXg9 ha_0 ha_1 ha_2 ha_3 hb_0 hb_1 hb_2 hb_3
  obtain ⟨ha_0, ha_1, ha_2, ha_3⟩ := Hand.Cz.c4 BQg9.out
  obtain ⟨hp_0, hp_1, hp_2, hp_3, hp_4, hp_5, hp_6, hp_7, hp_8, hp_9, hp_10⟩ := Hand.Cz.c11 BK6.out
  go_wp2
  clear ha_0 ha_1 ha_2 ha_3 hp_0 hp_1 hp_2 hp_3 hp_4 hp_5 hp_6 hp_7 hp_8 hp_9 hp_10
  refine start_ (n := 7) (S := fun w' => w'.heap[g9]? = some (.cells #[.int .u64 tr, .int .u64 bn, .int .u64 bd, .int .i64 v] 57 (0, 0)) ∧ Below w.heap.size w w') (ds := []) #[false, false, false, false, false, false, false] (by kernel_rfl) rfl rfl ⟨blk_drew BQg9.out, below_drew1 HQg9.out⟩ (fun hHeld => ?_)
  refine with_tabW mustl.tab11_11 mustl.bits11_11 (fun HT_ HW_ => ?_)
  generalize w6.drew = wd at hHeld ⊢
  refine pure_ (i := 0) (N := some 94) (v := ?_) (a' := ?_) #[true, false, false, false, false, false, false] rfl rfl (any_of HT_.out (by kernel_rfl)) (fun _ _ _ h => h) (Or.inl ⟨by rfl, ?_⟩) ?_ ?_
  rotate_left
  · intro w'
    go_simp
    with_reducible rfl
  rotate_left
  · simp only [Act.put, List.setIfInBounds_toArray, List.set_cons_zero, List.set_cons_succ, i64_w, i32_w]
    rfl
  refine pure_ (i := 1) (N := some 95) (v := ?_) (a' := ?_) #[true, true, false, false, false, false, false] rfl rfl (any_of HT_.out (by kernel_rfl)) (fun _ _ _ h => h) (Or.inl ⟨by rfl, ?_⟩) ?_ ?_
  rotate_left
  · intro w'
    go_simp
    with_reducible rfl
  rotate_left
  · simp only [Act.put, List.setIfInBounds_toArray, List.set_cons_zero, List.set_cons_succ, i64_w, i32_w]
    rfl
  refine pure_ (i := 2) (N := some 96) (v := ?_) (a' := ?_) #[true, true, true, false, false, false, false] rfl rfl (any_of HT_.out (by kernel_rfl)) (fun _ _ _ h => h) (Or.inl ⟨by rfl, ?_⟩) ?_ ?_
  rotate_left
  · intro w'
    go_simp
    with_reducible rfl
  rotate_left
  · simp only [Act.put, List.setIfInBounds_toArray, List.set_cons_zero, List.set_cons_succ, i64_w, i32_w]
    rfl
  refine take_ (i := 4) (N := some 98) (v := ?_) (a' := ?_) #[true, true, true, false, true, false, false] rfl rfl (take_ofW HT_.out HW_.out (by kernel_rfl)) (fun _ _ _ h => h) (Or.inl ⟨by rfl, ?_⟩) hHeld ?_ ?_
  rotate_left
  · rintro w' ⟨E, I⟩
    have z0 : w'.cell? ⟨g9, 0, none⟩ = some (.int .u64 tr) := (blk_cell E 0).trans rfl
    have z1 : w'.cell? ⟨g9, 1, none⟩ = some (.int .u64 bn) := (blk_cell E 1).trans rfl
    have z2 : w'.cell? ⟨g9, 2, none⟩ = some (.int .u64 bd) := (blk_cell E 2).trans rfl
    have z3 : w'.cell? ⟨g9, 3, none⟩ = some (.int .i64 v) := (blk_cell E 3).trans rfl
    go_simp
    with_reducible rfl
  rotate_left
  · simp only [Act.put, List.setIfInBounds_toArray, List.set_cons_zero, List.set_cons_succ, i64_w, i32_w]
    rfl
  refine one_ (i := 3) (N := some 97) #[true, true, true, true, true, false, false] rfl rfl (one_of HT_.out (by kernel_rfl)) (by decide) (fun K hK => ?_)
  refine goes_ Try.func27 (by kernel_rfl) rfl #[.iface 57 (.agg #[.int .u64 tr, .int .u64 bn, .int .u64 bd, .int .i64 v])] (by rfl) rfl rfl (by (try simp only [List.map_toArray, List.map_cons, List.map_nil]); first | done | rfl) ?_
  with_reducible refine (mustask_ok tr bn bd v _).mono ?_
  rintro e w8 ⟨rfl, hb⟩
  refine ⟨_, rfl, ?_⟩
  refine hK.out _ _ ⟨blk_below hHeld.1 hb, below_step hHeld.2 hb⟩ (fun hHeld => ?_)
  clear hK K
  refine norm_ (a' := ?_) ?_ ?_
  rotate_left
  · show Act.put _ (some 97) _ = _
    simp only [Act.put, List.setIfInBounds_toArray, List.set_cons_zero, List.set_cons_succ, i64_w, i32_w]
    rfl
  refine pure_ (i := 5) (N := some 99) (v := ?_) (a' := ?_) #[true, true, true, true, true, true, false] rfl rfl (any_of HT_.out (by kernel_rfl)) (fun _ _ _ h => h) (Or.inl ⟨by rfl, ?_⟩) ?_ ?_
  rotate_left
  · intro w'
    go_simp
    with_reducible rfl
  rotate_left
  · simp only [Act.put, List.setIfInBounds_toArray, List.set_cons_zero, List.set_cons_succ, i64_w, i32_w]
    rfl
  refine pure_ (i := 6) (N := some 100) (v := ?_) (a' := ?_) #[true, true, true, true, true, true, true] rfl rfl (any_of HT_.out (by kernel_rfl)) (fun _ _ _ h => h) (Or.inl ⟨by rfl, ?_⟩) ?_ ?_
  rotate_left
  · intro w'
    go_simp
    with_reducible rfl
  rotate_left
  · simp only [Act.put, List.setIfInBounds_toArray, List.set_cons_zero, List.set_cons_succ, i64_w, i32_w]
    rfl
  refine done_ (done_of HT_.out (by kernel_rfl)) ?_
  have HB7 := Aside0.mk hHeld.2
  clear hHeld
  go_upto_region 14 with (first | (go_at_call 24; refine (pkt_no _ _ (fun W => packet_no3 (.int .i64 what) W) HR.out).mono ?_; rintro e w10 ⟨rfl, hb⟩; have HB10 := Aside0.mk (below_step HB7.out hb); clear hb) | ((with_reducible refine gate_dst (N := 12) rfl ?_); refine box_event ?hg (N := 12) ?hd (cs := #[.int .i64 0, .int .u64 0, .int .u64 0, .int .u64 0, .int .u64 0, .int .u64 0, .int .i64 0, .bool false, .slice none 0 0, .slice none 0 0, .slice none 0 0]) (t := 30) ?hr ?_; (case hd => rfl); (case hg => rfl); (case hr => first | (go_simp; done) | (go_simp; rfl)); intro g12 hg w11 hbox hb; have HGg12 := Aside0.mk (show w.heap.size ≤ g12 from by rw [hg]; exact HB10.out.size); have HBg12 := Aside0.mk (below_step HB10.out hb); have BXg12 := Aside0.mk hbox; clear hg hbox hb; obtain ⟨ha_0, ha_1, ha_2, ha_3, ha_4, ha_5, ha_6, ha_7, ha_8, ha_9, ha_10⟩ := Hand.Cz.c11 BXg12.out; obtain ⟨hb_0, hb_1, hb_2, hb_3, hb_4, hb_5, hb_6, hb_7, hb_8, hb_9, hb_10⟩ := Hand.Cz.f11 BXg12.out))
  generalize hWq : World.setCell _ (Addr.mk g12 10 none) _ = w12
  have HQg12 := Aside0.mk (show Below w.heap.size w w12 from by rw [← hWq]; exact Hand.Cz.b11 HBg12.out HGg12.out)
  clear hWq HBg12 BXg12 ha_0 ha_1 ha_2 ha_3 ha_4 ha_5 ha_6 ha_7 ha_8 ha_9 ha_10 hb_0 hb_1 hb_2 hb_3 hb_4 hb_5 hb_6 hb_7 hb_8 hb_9 hb_10
  go_upto_region 15 with (first | (go_at_call 24; refine (pkt_no _ _ (fun W => packet_no73 _ W) HR.out).mono ?_; rintro e w13 ⟨rfl, hb⟩; have HB13 := Aside0.mk (below_step HQg12.out hb); clear hb) | ((with_reducible refine gate_dst (N := 14) rfl ?_); refine box_event ?hg (N := 14) ?hd (cs := #[.int .i64 0, .int .u64 0, .int .u64 0, .int .u64 0, .int .u64 0, .int .u64 0, .int .i64 0, .bool false, .slice none 0 0, .slice none 0 0, .slice none 0 0]) (t := 30) ?hr ?_; (case hd => rfl); (case hg => rfl); (case hr => first | (go_simp; done) | (go_simp; rfl)); intro g14 hg w14 hbox hb; have HGg14 := Aside0.mk (show w.heap.size ≤ g14 from by rw [hg]; exact HB13.out.size); have HBg14 := Aside0.mk (below_step HB13.out hb); have BXg14 := Aside0.mk hbox; clear hg hbox hb; obtain ⟨ha_0, ha_1, ha_2, ha_3, ha_4, ha_5, ha_6, ha_7, ha_8, ha_9, ha_10⟩ := Hand.Cz.c11 BXg14.out; obtain ⟨hb_0, hb_1, hb_2, hb_3, hb_4, hb_5, hb_6, hb_7, hb_8, hb_9, hb_10⟩ := Hand.Cz.f11 BXg14.out))
  generalize hWq : World.setCell _ (Addr.mk g14 10 none) _ = w15
  have HQg14 := Aside0.mk (show Below w.heap.size w w15 from by rw [← hWq]; exact Hand.Cz.b11 HBg14.out HGg14.out)
  clear hWq HBg14 BXg14 ha_0 ha_1 ha_2 ha_3 ha_4 ha_5 ha_6 ha_7 ha_8 ha_9 ha_10 hb_0 hb_1 hb_2 hb_3 hb_4 hb_5 hb_6 hb_7 hb_8 hb_9 hb_10
  go_upto_region 16 with (first | (go_at_call 26; refine (must_no (.iface 73 (.pointer (some ⟨g9, 0, none⟩))) _ _ (fun W => mp73 _ W)).mono ?_; rintro e w16 ⟨rfl, hb⟩; have HB16 := Aside0.mk (below_step HQg14.out hb); clear hb) | ((with_reducible refine gate_dst (N := 16) rfl ?_); refine box_event ?hg (N := 16) ?hd (cs := #[.int .u64 0, .int .u64 0, .int .u64 0, .int .i64 0]) (t := 57) ?hr ?_; (case hd => rfl); (case hg => rfl); (case hr => first | (go_simp; done) | (go_simp; rfl)); intro g16 hg w17 hbox hb; have HGg16 := Aside0.mk (show w.heap.size ≤ g16 from by rw [hg]; exact HB16.out.size); have HBg16 := Aside0.mk (below_step HB16.out hb); have BXg16 := Aside0.mk hbox; clear hg hbox hb; obtain ⟨ha_0, ha_1, ha_2, ha_3⟩ := Hand.Cz.c4 BXg16.out; obtain ⟨hb_0, hb_1, hb_2, hb_3⟩ := Hand.Cz.f4 BXg16.out))
  generalize hWq : World.setCell _ (Addr.mk g16 3 none) _ = w18
  have BQg16 := Aside0.mk (show w18.heap[g16]? = some (.cells #[.int .u64 0, .int .u64 0, .int .u64 0, .int .i64 0] 57 (0, 0)) from by rw [← hWq]; exact Hand.Cz.p4 BXg16.out)
  have HQg16 := Aside0.mk (show Below w.heap.size w w18 from by rw [← hWq]; exact Hand.Cz.b4 HBg16.out HGg16.out)
  clear hWq HBg16 BXg16 ha_0 ha_1 ha_2 ha_3 hb_0 hb_1 hb_2 hb_3
  go_wp2_with (first | (go_at_call 25; refine (trace_no3 (.int .i64 what) _).mono ?_; rintro e w19 ⟨rfl, hb⟩; have HB19 := Aside0.mk (below_step HQg16.out hb); clear hb) | (go_at_call 15; refine (HA.out _).mono ?_; rintro e wA ⟨rfl, hb⟩; have HBA := Aside0.mk (below_step HB19.out hb); clear hb))
  go_ret
  exact ⟨rfl, HBA.out⟩

end Go.Proofs.Ytlpnpnjjmpkapaa.PAll
