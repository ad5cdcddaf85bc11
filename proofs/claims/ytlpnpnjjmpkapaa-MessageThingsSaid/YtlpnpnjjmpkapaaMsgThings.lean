/-
  message.Packet of a thing of any kind that is right, and message.Trace of it.
  Conditions: given as hypotheses (the calls of packet and of Right).
-/
import Derived.Test.YtlpnpnjjmpkapaaPAllx0
namespace Go.Proofs.Ytlpnpnjjmpkapaa.PAll
open Go.RowKit Go.Proofs.YtlpnpnjjmpkapaaW.PrintWords Go.Proofs.YtlpnpnjjmpkapaaW.PrintLast Go.Proofs.YtlpnpnjjmpkapaaW.PrintMore
attribute [local go_sem] max2_int min2_int max_two min_two max_three min_three max_four min_four
set_option linter.unusedVariables false
set_option linter.unusedSimpArgs false
set_option maxHeartbeats 8000000 in
set_option maxRecDepth 100000 in
theorem pkt_ok (m : Value) (kd tr bn bd sn sd v : Int) (ok : Bool) (l8 : List S76) (l9 : List S92) (l10 : List Int) (w : World)
  (hP : ∀ W, Below w.heap.size w W → Calls Try.prog 31 #[m] W fun e w' => ∃ v8 v9 v10 : Value, e = .returned (.agg #[.int .i64 kd, .int .u64 tr, .int .u64 bn, .int .u64 bd, .int .u64 sn, .int .u64 sd, .int .i64 v, .bool ok, v8, v9, v10]) ∧ Kd.R k76 76 w' W.heap.size (fun _ => True) v8 l8 ∧ Kd.R k92 92 w' W.heap.size (fun _ => True) v9 l9 ∧ Kd.R (Kd.int .u64) 22 w' W.heap.size (fun _ => True) v10 l10 ∧ Below W.heap.size W w')
  (hR : ∀ W A8 c8 A9 c9 A10 c10, Kd.C k76 W A8 l8.length l8 → l8.length ≤ c8 → Kd.C k92 W A9 l9.length l9 → l9.length ≤ c9 → Kd.C (Kd.int .u64) W A10 l10.length l10 → l10.length ≤ c10 → Calls Try.prog 13 #[.agg #[.int .i64 kd, .int .u64 tr, .int .u64 bn, .int .u64 bd, .int .u64 sn, .int .u64 sd, .int .i64 v, .bool ok, .slice A8 l8.length c8, .slice A9 l9.length c9, .slice A10 l10.length c10]] W fun e w' => e = .returned (.int .i64 0) ∧ Below W.heap.size W w') :
  Calls Try.prog 24 #[m] w fun e w' => ∃ v8 v9 v10 : Value, e = .returned (.tuple #[.agg #[.int .i64 kd, .int .u64 tr, .int .u64 bn, .int .u64 bd, .int .u64 sn, .int .u64 sd, .int .i64 v, .bool ok, v8, v9, v10], .int .i64 0]) ∧ Kd.R k76 76 w' w.heap.size (fun _ => True) v8 l8 ∧ Kd.R k92 92 w' w.heap.size (fun _ => True) v9 l9 ∧ Kd.R (Kd.int .u64) 22 w' w.heap.size (fun _ => True) v10 l10 ∧ Below w.heap.size w w' := by
 have hu30 := Try.underlying30; have hu24 := Try.underlying24
 have HP0 := Aside0.mk hP
 have HR0 := Aside0.mk hR
 clear hP hR
 go_enter Try.func24, Try.ntmps24
 go_wp2_with ((with_reducible refine gate_dst (N := 2) rfl ?_); refine box_event ?hg (N := 2) ?hd (cs := #[.int .i64 0, .int .u64 0, .int .u64 0, .int .u64 0, .int .u64 0, .int .u64 0, .int .i64 0, .bool false, .slice none 0 0, .slice none 0 0, .slice none 0 0]) (t := 30) ?hr ?_; (case hd => rfl); (case hg => rfl); (case hr => (go_simp; done)); intro g2 hg w2 hbox hb; have HG2 := Aside0.mk (show w.heap.size ≤ g2 from Nat.le_of_eq hg.symm); have HB2 := Aside0.mk hb; have BK2 := Aside0.mk hbox; clear hg hbox hb)
 refine (HP0.out _ HB2.out).mono ?_
 rintro e w3 ⟨v8, v9, v10, rfl, r8, r9, r10, hb⟩
 obtain ⟨A8, c8, rfl⟩ := Kd.R_slice r8
 obtain ⟨A9, c9, rfl⟩ := Kd.R_slice r9
 obtain ⟨A10, c10, rfl⟩ := Kd.R_slice r10
 have R8 := Aside0.mk (Kd.R_lower r8 HB2.out.size)
 have R9 := Aside0.mk (Kd.R_lower r9 HB2.out.size)
 have R10 := Aside0.mk (Kd.R_lower r10 HB2.out.size)
 have BK3 := Aside0.mk (blk_below BK2.out hb)
 have HB3 := Aside0.mk (below_step HB2.out hb)
 clear r8 r9 r10 hb HB2 BK2
 go_upto_region 2 with ((with_reducible refine gate_dst (N := 4) rfl ?_); refine box_event ?hg (N := 4) ?hd (cs := #[.int .i64 0, .int .u64 0, .int .u64 0, .int .u64 0, .int .u64 0, .int .u64 0, .int .i64 0, .bool false, .slice none 0 0, .slice none 0 0, .slice none 0 0]) (t := 30) ?hr ?_; (case hd => rfl); (case hg => rfl); (case hr => (go_simp; done)); intro g4 hg w5 hbox hb; have HG4 := Aside0.mk (show w.heap.size ≤ g4 from by rw [hg]; exact HB3.out.size); have HNE := Aside0.mk (show g2 ≠ g4 from by have := blk_lt BK3.out; omega); have HB5 := Aside0.mk (below_step HB3.out hb); have BK5 := Aside0.mk (blk_below BK3.out hb); have R85 := Aside0.mk (Kd.R_below R8.out hb); have R95 := Aside0.mk (Kd.R_below R9.out hb); have R105 := Aside0.mk (Kd.R_below R10.out hb); have BQ5 := Aside0.mk hbox; clear hg hbox hb; obtain ⟨P0, P1, P2, P3, P4, P5, P6, P7, P8, P9, P10⟩ := Hand.Cz.c11 BQ5.out; obtain ⟨F0, F1, F2, F3, F4, F5, F6, F7, F8, F9, F10⟩ := Hand.Cz.f11 BQ5.out)
 generalize hW6 : World.setCell _ (Addr.mk g4 10 none) _ = w6
 have BQ6 := Aside0.mk (show w6.heap[g4]? = some (.cells #[.int .i64 kd, .int .u64 tr, .int .u64 bn, .int .u64 bd, .int .u64 sn, .int .u64 sd, .int .i64 v, .bool ok, .slice A8 l8.length c8, .slice A9 l9.length c9, .slice A10 l10.length c10] 30 (0, 0)) from by rw [← hW6]; exact Hand.Cz.p11 BQ5.out)
 have BK6 := Aside0.mk (show w6.heap[g2]? = some (.cells #[.int .i64 0, .int .u64 0, .int .u64 0, .int .u64 0, .int .u64 0, .int .u64 0, .int .i64 0, .bool false, .slice none 0 0, .slice none 0 0, .slice none 0 0] 30 (0, 0)) from by rw [← hW6]; exact Hand.Cz.o11 BK5.out HNE.out)
 have HB6 := Aside0.mk (show Below w.heap.size w w6 from by rw [← hW6]; exact Hand.Cz.b11 HB5.out HG4.out)
 have R86 := Aside0.mk (show Kd.R k76 76 w6 w.heap.size (fun k => k ≠ g4) (.slice A8 l8.length c8) l8 from by rw [← hW6]; exact Hand.Cz.r11 (Kd.R_mono (Kd.R_types R85.out BQ5.out (by decide)) (fun _ hk => hk.2)))
 have R96 := Aside0.mk (show Kd.R k92 92 w6 w.heap.size (fun k => k ≠ g4) (.slice A9 l9.length c9) l9 from by rw [← hW6]; exact Hand.Cz.r11 (Kd.R_mono (Kd.R_types R95.out BQ5.out (by decide)) (fun _ hk => hk.2)))
 have R106 := Aside0.mk (show Kd.R (Kd.int .u64) 22 w6 w.heap.size (fun k => k ≠ g4) (.slice A10 l10.length c10) l10 from by rw [← hW6]; exact Hand.Cz.r11 (Kd.R_mono (Kd.R_types R105.out BQ5.out (by decide)) (fun _ hk => hk.2)))
 clear hW6 P0 P1 P2 P3 P4 P5 P6 P7 P8 P9 P10 F0 F1 F2 F3 F4 F5 F6 F7 F8 F9 F10 R8 R9 R10 R85 R95 R105 BQ5 BK5 BK3 HB5 HB3
 obtain ⟨P0, P1, P2, P3, P4, P5, P6, P7, P8, P9, P10⟩ := Hand.Cz.c11 BQ6.out
 go_wp2_with fail
 refine (HR0.out _ _ _ _ _ _ _ (Kd.R_reads' R86.out).2.2 (Kd.R_reads' R86.out).2.1 (Kd.R_reads' R96.out).2.2 (Kd.R_reads' R96.out).2.1 (Kd.R_reads' R106.out).2.2 (Kd.R_reads' R106.out).2.1).mono ?_
 rintro e w7 ⟨rfl, hb⟩
 have BQ7 := Aside0.mk (blk_below BQ6.out hb)
 have BK7 := Aside0.mk (blk_below BK6.out hb)
 have HB7 := Aside0.mk (below_step HB6.out hb)
 have R87 := Aside0.mk (Kd.R_below R86.out hb)
 have R97 := Aside0.mk (Kd.R_below R96.out hb)
 have R107 := Aside0.mk (Kd.R_below R106.out hb)
 clear hb P0 P1 P2 P3 P4 P5 P6 P7 P8 P9 P10 BQ6 BK6 HB6 R86 R96 R106
 obtain ⟨P0, P1, P2, P3, P4, P5, P6, P7, P8, P9, P10⟩ := Hand.Cz.c11 BQ7.out
 obtain ⟨S0, S1, S2, S3, S4, S5, S6, S7, S8, S9, S10⟩ := Hand.Cz.c11 BK7.out
 obtain ⟨G0, G1, G2, G3, G4, G5, G6, G7, G8, G9, G10⟩ := Hand.Cz.f11 BK7.out
 go_wp2_with fail
 refine bodyPost_ret (results_ct rfl _ _ g2 30 #[.int .i64 kd, .int .u64 tr, .int .u64 bn, .int .u64 bd, .int .u64 sn, .int .u64 sd, .int .i64 v, .bool ok, .slice A8 l8.length c8, .slice A9 l9.length c9, .slice A10 l10.length c10] (0, 0) _ rfl (Hand.Cz.p11 BK7.out) Try.underlying30 rfl (by kernel_rfl)) rfl ?_
 exact ⟨_, _, _, rfl, Kd.R_mono (Hand.Cz.r11 (Kd.R_mono (Kd.R_types R87.out BK7.out (by decide)) (fun _ hk => hk.2))) (fun _ _ => trivial), Kd.R_mono (Hand.Cz.r11 (Kd.R_mono (Kd.R_types R97.out BK7.out (by decide)) (fun _ hk => hk.2))) (fun _ _ => trivial), Kd.R_mono (Hand.Cz.r11 (Kd.R_mono (Kd.R_types R107.out BK7.out (by decide)) (fun _ hk => hk.2))) (fun _ _ => trivial), Hand.Cz.b11 HB7.out HG2.out⟩
def things.T25_5 : Bool × List (List Nat × List Nat) := (true, [([], []), ([0], [0]), ([], []), ([2], [2]), ([3], [3]), ([1, 0, 1], [1]), ([4, 5, 0, 1, 2, 3, 4, 5], [4])])
def things.B25_5 : List Nat := [0, 1, 0, 4, 12, 3, 63]
theorem things.tab25_5 : rtab .any (opsOf Try.f25 5) = things.T25_5 := by kernel_rfl
theorem things.bits25_5 : waitsOk things.T25_5.2 things.B25_5 = true := by kernel_rfl
set_option maxHeartbeats 8000000 in
set_option maxRecDepth 100000 in
theorem trace_ok (m : Value) (kd tr bn bd sn sd v : Int) (ok : Bool) (l8 : List S76) (l9 : List S92) (l10 : List Int) (w : World) (hk : (kd != 0) = true) (hta : ∀ W, (Instr.typeAssert m 20 54 true).run Try.prog W = .ok (.tuple #[.agg #[.slice none 0 0], .bool false]) W)
  (hP : ∀ W, Below w.heap.size w W → Calls Try.prog 31 #[m] W fun e w' => ∃ (A8 : Option Addr) (c8 : Nat) (A9 : Option Addr) (c9 : Nat) (A10 : Option Addr) (c10 : Nat), e = .returned (.agg #[.int .i64 kd, .int .u64 tr, .int .u64 bn, .int .u64 bd, .int .u64 sn, .int .u64 sd, .int .i64 v, .bool ok, .slice A8 l8.length c8, .slice A9 l9.length c9, .slice A10 l10.length c10]) ∧ Below W.heap.size W w') :
  Calls Try.prog 25 #[m] w fun e w' => e = .returned (.tuple #[.int .u64 tr, .bool true]) ∧ Below w.heap.size w w' := by
 have hu30 := Try.underlying30; have hu24 := Try.underlying24; have hu51 := Try.underlying51; have hu54 := Try.underlying54; have hu57 := Try.underlying57; have hu60 := Try.underlying60; have hu63 := Try.underlying63; have hu66 := Try.underlying66; have hu69 := Try.underlying69
 have HP0 := Aside0.mk hP
 clear hP
 go_enter Try.func25, Try.ntmps25
 go_wp2_with fail
 refine (HP0.out _ (by repeat (first | exact Below.refl _ _ | (with_reducible apply below_alloc)))).mono ?_
 rintro e w2 ⟨A8, c8, A9, c9, A10, c10, rfl, hb⟩
 have HB2 := Aside0.mk (show Below w.heap.size w w2 from below_step (by repeat (first | exact Below.refl _ _ | (with_reducible apply below_alloc))) hb)
 clear hb
 go_upto_region 5 with ((with_reducible refine gate_dst (N := 6) rfl ?_); refine box_event ?hg (N := 6) ?hd (cs := #[.int .i64 0, .int .u64 0, .int .u64 0, .int .u64 0, .int .u64 0, .int .u64 0, .int .i64 0, .bool false, .slice none 0 0, .slice none 0 0, .slice none 0 0]) (t := 30) ?hr ?_; (case hd => rfl); (case hg => rfl); (case hr => (go_simp; done)); intro g hg w3 hbox hb; have HGE := Aside0.mk (show w.heap.size ≤ g from by rw [hg]; exact HB2.out.size); have HB3 := Aside0.mk (below_step HB2.out hb); have BK3 := Aside0.mk hbox; clear hg hbox hb; obtain ⟨P0, P1, P2, P3, P4, P5, P6, P7, P8, P9, P10⟩ := Hand.Cz.c11 BK3.out; obtain ⟨F0, F1, F2, F3, F4, F5, F6, F7, F8, F9, F10⟩ := Hand.Cz.f11 BK3.out)
 generalize hW4 : World.setCell _ (Addr.mk g 10 none) _ = w4
 have BK4 := Aside0.mk (show w4.heap[g]? = some (.cells #[.int .i64 kd, .int .u64 tr, .int .u64 bn, .int .u64 bd, .int .u64 sn, .int .u64 sd, .int .i64 v, .bool ok, .slice A8 l8.length c8, .slice A9 l9.length c9, .slice A10 l10.length c10] 30 (0, 0)) from by rw [← hW4]; exact Hand.Cz.p11 BK3.out)
 have HB4 := Aside0.mk (show Below w.heap.size w w4 from by rw [← hW4]; exact Hand.Cz.b11 HB3.out HGE.out)
 clear hW4 P0 F0 P1 F1 P2 F2 P3 F3 P4 F4 P5 F5 P6 F6 P7 F7 P8 F8 P9 F9 P10 F10
 refine start_ (n := 7) (S := fun w' => w'.heap[g]? = some (.cells #[.int .i64 kd, .int .u64 tr, .int .u64 bn, .int .u64 bd, .int .u64 sn, .int .u64 sd, .int .i64 v, .bool ok, .slice A8 l8.length c8, .slice A9 l9.length c9, .slice A10 l10.length c10] 30 (0, 0)) ∧ Below w.heap.size w w') (ds := []) #[false, false, false, false, false, false, false] (by kernel_rfl) rfl rfl ⟨blk_drew BK4.out, below_drew1 HB4.out⟩ (fun hHeld => ?_)
 refine with_tabW things.tab25_5 things.bits25_5 (fun HT_ HW_ => ?_)
 generalize w4.drew = wd at hHeld ⊢
 refine pure_ (i := 0) (N := some 15) (v := ?_) (a' := ?_) #[true, false, false, false, false, false, false] rfl rfl (any_of HT_.out (by kernel_rfl)) (fun _ _ _ h => h) (Or.inl ⟨by rfl, ?_⟩) ?_ ?_
 rotate_left
 ·intro w'
  go_simp
  with_reducible rfl
 rotate_left
 ·simp only [Act.put, List.setIfInBounds_toArray, List.set_cons_zero, List.set_cons_succ, i64_w, i32_w]
  rfl
 refine take_ (i := 1) (N := some 16) (v := ?_) (a' := ?_) #[true, true, false, false, false, false, false] rfl rfl (take_ofW HT_.out HW_.out (by kernel_rfl)) (fun _ _ _ h => h) (Or.inl ⟨by rfl, ?_⟩) hHeld ?_ ?_
 rotate_left
 ·rintro w' ⟨E, I⟩
  have z1 : w'.cell? ⟨g, 1, none⟩ = some (.int .u64 tr) := (blk_cell E 1).trans rfl
  go_simp
  with_reducible rfl
 rotate_left
 ·simp only [Act.put, List.setIfInBounds_toArray, List.set_cons_zero, List.set_cons_succ, i64_w, i32_w]
  rfl
 refine pure_ (i := 2) (N := some 17) (v := ?_) (a' := ?_) #[true, true, true, false, false, false, false] rfl rfl (any_of HT_.out (by kernel_rfl)) (fun _ _ _ h => h) (Or.inl ⟨by rfl, ?_⟩) ?_ ?_
 rotate_left
 ·intro w'
  go_simp
  with_reducible rfl
 rotate_left
 ·simp only [Act.put, List.setIfInBounds_toArray, List.set_cons_zero, List.set_cons_succ, i64_w, i32_w]
  rfl
 refine take_ (i := 3) (N := some 18) (v := ?_) (a' := ?_) #[true, true, true, true, false, false, false] rfl rfl (take_ofW HT_.out HW_.out (by kernel_rfl)) (fun _ _ _ h => h) (Or.inl ⟨by rfl, ?_⟩) hHeld ?_ ?_
 rotate_left
 ·rintro w' ⟨E, I⟩
  have z0 : w'.cell? ⟨g, 0, none⟩ = some (.int .i64 kd) := (blk_cell E 0).trans rfl
  go_simp
  with_reducible rfl
 rotate_left
 ·simp only [Act.put, List.setIfInBounds_toArray, List.set_cons_zero, List.set_cons_succ, i64_w, i32_w]
  rfl
 refine pure_ (i := 4) (N := some 19) (v := ?_) (a' := ?_) #[true, true, true, true, true, false, false] rfl rfl (any_of HT_.out (by kernel_rfl)) (fun _ _ _ h => h) (Or.inl ⟨by rfl, ?_⟩) ?_ ?_
 rotate_left
 ·intro w'
  go_simp
  with_reducible rfl
 rotate_left
 ·simp only [Act.put, List.setIfInBounds_toArray, List.set_cons_zero, List.set_cons_succ, i64_w, i32_w]
  rfl
 refine pure_ (i := 5) (N := some 2) (v := ?_) (a' := ?_) #[true, true, true, true, true, true, false] rfl rfl (any_of HT_.out (by kernel_rfl)) (fun _ _ _ h => h) (Or.inl ⟨by rfl, ?_⟩) ?_ ?_
 rotate_left
 ·intro w'
  go_simp
  with_reducible rfl
 rotate_left
 ·simp only [Act.put, List.setIfInBounds_toArray, List.set_cons_zero, List.set_cons_succ, i64_w, i32_w]
  rfl
 refine pure_ (i := 6) (N := some 3) (v := ?_) (a' := ?_) #[true, true, true, true, true, true, true] rfl rfl (any_of HT_.out (by kernel_rfl)) (fun _ _ _ h => h) (Or.inl ⟨by rfl, ?_⟩) ?_ ?_
 rotate_left
 ·intro w'
  go_simp
  with_reducible rfl
 rotate_left
 ·simp only [Act.put, List.setIfInBounds_toArray, List.set_cons_zero, List.set_cons_succ, i64_w, i32_w]
  rfl
 refine done_ (done_of HT_.out (by kernel_rfl)) ?_
 go_wp2
 go_ret2
 exact ⟨rfl, hHeld.2⟩

theorem trace_members (A : Option Addr) (n c : Nat) (w : World) (hta : ∀ W, (Instr.typeAssert (.iface 54 (.agg #[.slice A n c])) 20 54 true).run Try.prog W = .ok (.tuple #[.agg #[.slice A n c], .bool true]) W) :
  Calls Try.prog 25 #[.iface 54 (.agg #[.slice A n c])] w fun e w' => e = .returned (.tuple #[.int .u64 0, .bool false]) ∧ Below w.heap.size w w' := by
 have hu30 := Try.underlying30; have hu54 := Try.underlying54
 go_enter Try.func25, Try.ntmps25
 go_wp2_with fail
 go_ret2
 exact ⟨rfl, by repeat (first | exact Below.refl _ _ | (with_reducible apply below_alloc))⟩
set_option maxHeartbeats 16000000 in
set_option maxRecDepth 100000 in
theorem things1 (tr bn bd sn sd v : Int) (ok : Bool) (A8 : Option Addr) (c8 : Nat) (l8 : List S76) (A9 : Option Addr) (c9 : Nat) (l9 : List S92) (A10 : Option Addr) (c10 : Nat) (l10 : List Int) (w : World)
  (hL : ∀ W, Below w.heap.size w W → Calls Try.prog 12 #[.agg #[.int .i64 1, .int .u64 tr, .int .u64 0, .int .u64 0, .int .u64 0, .int .u64 0, .int .i64 0, .bool false, .slice A8 l8.length c8, .slice A9 ([] : List S92).length c9, .slice A10 ([] : List Int).length c10]] W fun e w' => e = .returned (.bool true) ∧ Below W.heap.size W w')
  (hO : ∀ W, Below w.heap.size w W → Calls Try.prog 23 #[.agg #[.int .i64 1, .int .u64 tr, .int .u64 0, .int .u64 0, .int .u64 0, .int .u64 0, .int .i64 0, .bool false, .slice A8 l8.length c8, .slice A9 ([] : List S92).length c9, .slice A10 ([] : List Int).length c10]] W fun e w' => ∃ (Av : Option Addr) (cv : Nat), e = .returned (.tuple #[.iface 51 (.agg #[.int .u64 tr, .bool false, .slice Av l8.length cv]), .int .i64 0]) ∧ Kd.C k76 w' Av l8.length l8 ∧ l8.length ≤ cv ∧ Below W.heap.size W w')
  (hRR : ∀ W, Below w.heap.size w W → Calls Try.prog 14 #[.agg #[.int .i64 1, .int .u64 tr, .int .u64 0, .int .u64 0, .int .u64 0, .int .u64 0, .int .i64 0, .bool false, .slice A8 l8.length c8, .slice A9 ([] : List S92).length c9, .slice A10 ([] : List Int).length c10]] W fun e w' => e = .returned (.int .i64 0) ∧ Below W.heap.size W w')
  (hP : ∀ W Av cv , Below w.heap.size w W → Kd.C k76 W Av l8.length l8 → l8.length ≤ cv → Calls Try.prog 24 #[.iface 51 (.agg #[.int .u64 tr, .bool false, .slice Av l8.length cv])] W fun e w' => ∃ v8 v9 v10 : Value, e = .returned (.tuple #[.agg #[.int .i64 1, .int .u64 tr, .int .u64 0, .int .u64 0, .int .u64 0, .int .u64 0, .int .i64 0, .bool false, v8, v9, v10], .int .i64 0]) ∧ Kd.R k76 76 w' W.heap.size (fun _ => True) v8 l8 ∧ Kd.R k92 92 w' W.heap.size (fun _ => True) v9 ([] : List S92) ∧ Kd.R (Kd.int .u64) 22 w' W.heap.size (fun _ => True) v10 ([] : List Int) ∧ Below W.heap.size W w')
  (hT : ∀ W Av cv , Below w.heap.size w W → Kd.C k76 W Av l8.length l8 → l8.length ≤ cv → Calls Try.prog 25 #[.iface 51 (.agg #[.int .u64 tr, .bool false, .slice Av l8.length cv])] W fun e w' => e = .returned (.tuple #[.int .u64 tr, .bool true]) ∧ Below W.heap.size W w')
  (hS : ∀ W v8 v9 v10, Below w.heap.size w W → Kd.R k76 76 W w.heap.size (fun _ => True) v8 l8 → Kd.R k92 92 W w.heap.size (fun _ => True) v9 ([] : List S92) → Kd.R (Kd.int .u64) 22 W w.heap.size (fun _ => True) v10 ([] : List Int) → Calls Try.prog 21 #[.agg #[.int .i64 1, .int .u64 tr, .int .u64 0, .int .u64 0, .int .u64 0, .int .u64 0, .int .i64 0, .bool false, .slice A8 l8.length c8, .slice A9 ([] : List S92).length c9, .slice A10 ([] : List Int).length c10], .agg #[.int .i64 1, .int .u64 tr, .int .u64 0, .int .u64 0, .int .u64 0, .int .u64 0, .int .i64 0, .bool false, v8, v9, v10]] W fun e w' => e = .returned (.bool true) ∧ Below W.heap.size W w')
  (hA : ∀ W, Below w.heap.size w W → Calls Try.prog 15 #[] W fun e w' => e = .returned (.bool true) ∧ Below W.heap.size W w') :
  Calls Try.prog 10 #[.agg #[.int .i64 1, .int .u64 tr, .int .u64 0, .int .u64 0, .int .u64 0, .int .u64 0, .int .i64 0, .bool false, .slice A8 l8.length c8, .slice A9 ([] : List S92).length c9, .slice A10 ([] : List Int).length c10]] w fun e w' => e = .returned (.bool true) ∧ Below w.heap.size w w' := by
 have hu30 := Try.underlying30; have hu24 := Try.underlying24; have hu51 := Try.underlying51; have hu54 := Try.underlying54; have hu57 := Try.underlying57; have hu60 := Try.underlying60; have hu63 := Try.underlying63; have hu66 := Try.underlying66; have hu69 := Try.underlying69
 have HL := Aside0.mk hL
 have HO := Aside0.mk hO
 have HRR := Aside0.mk hRR
 have HP := Aside0.mk hP
 have HT := Aside0.mk hT
 have HS := Aside0.mk hS
 have HA := Aside0.mk hA
 clear hL hO hRR hP hT hS hA
 go_enter Try.func10, Try.ntmps10
 go_wp2_with (first | ((with_reducible refine gate_dst (N := 1) rfl ?_); refine box_event ?hg (N := 1) ?hd (cs := #[.int .i64 1, .int .u64 tr, .int .u64 0, .int .u64 0, .int .u64 0, .int .u64 0, .int .i64 0, .bool false, .slice A8 l8.length c8, .slice A9 ([] : List S92).length c9, .slice A10 ([] : List Int).length c10]) (t := 30) ?hr ?_; (case hd => rfl); (case hg => rfl); (case hr => (go_simp; done)); intro g1 hg w1 hbox hb; have HG1 := Aside0.mk (show w.heap.size ≤ g1 from Nat.le_of_eq hg.symm); have HB1 := Aside0.mk hb; have BK1 := Aside0.mk hbox; clear hg hbox hb; obtain ⟨P0, P1, P2, P3, P4, P5, P6, P7, P8, P9, P10⟩ := Hand.Cz.c11 BK1.out) | (go_at_call 12; refine (HL.out _ HB1.out).mono ?_; rintro e w2 ⟨rfl, hb⟩; have BK2 := Aside0.mk (blk_below BK1.out hb); have HB2 := Aside0.mk (below_step HB1.out hb); clear P0 P1 P2 P3 P4 P5 P6 P7 P8 P9 P10; obtain ⟨P0, P1, P2, P3, P4, P5, P6, P7, P8, P9, P10⟩ := Hand.Cz.c11 BK2.out; clear hb) | (go_at_call 23; refine (HO.out _ HB2.out).mono ?_; rintro e w3 ⟨Av, cv, rfl, hc, hle, hb⟩; have BK3 := Aside0.mk (blk_below BK2.out hb); have HB3 := Aside0.mk (below_step HB2.out hb); clear P0 P1 P2 P3 P4 P5 P6 P7 P8 P9 P10; obtain ⟨P0, P1, P2, P3, P4, P5, P6, P7, P8, P9, P10⟩ := Hand.Cz.c11 BK3.out; have HC3 := Aside0.mk hc; have HLE := Aside0.mk hle; clear hc hle; clear hb) | (go_at_call 14; refine (HRR.out _ HB3.out).mono ?_; rintro e w4 ⟨rfl, hb⟩; have BK4 := Aside0.mk (blk_below BK3.out hb); have HB4 := Aside0.mk (below_step HB3.out hb); clear P0 P1 P2 P3 P4 P5 P6 P7 P8 P9 P10; obtain ⟨P0, P1, P2, P3, P4, P5, P6, P7, P8, P9, P10⟩ := Hand.Cz.c11 BK4.out; have HC4 := Aside0.mk (Kd.C_below HC3.out hb); clear hb))
 refine (HP.out _ _ _ HB4.out HC4.out HLE.out).mono ?_
 rintro e w5 ⟨v8, v9, v10, rfl, r8, r9, r10, hb⟩
 obtain ⟨B8, d8, rfl⟩ := Kd.R_slice r8
 have R85 := Aside0.mk (Kd.R_lower r8 HB4.out.size)
 obtain ⟨B9, d9, rfl⟩ := Kd.R_slice r9
 have R95 := Aside0.mk (Kd.R_lower r9 HB4.out.size)
 obtain ⟨B10, d10, rfl⟩ := Kd.R_slice r10
 have R105 := Aside0.mk (Kd.R_lower r10 HB4.out.size)
 have BK5 := Aside0.mk (blk_below BK4.out hb)
 have HB5 := Aside0.mk (below_step HB4.out hb)
 have HC5 := Aside0.mk (Kd.C_below HC4.out hb)
 clear r8 r9 r10 hb P0 P1 P2 P3 P4 P5 P6 P7 P8 P9 P10
 go_upto_region 7 with ((with_reducible refine gate_dst (N := 5) rfl ?_); refine box_event ?hg (N := 5) ?hd (cs := #[.int .i64 0, .int .u64 0, .int .u64 0, .int .u64 0, .int .u64 0, .int .u64 0, .int .i64 0, .bool false, .slice none 0 0, .slice none 0 0, .slice none 0 0]) (t := 30) ?hr ?_; (case hd => rfl); (case hg => rfl); (case hr => (go_simp; done)); intro g5 hg w6 hbox hb; have HG5 := Aside0.mk (show w.heap.size ≤ g5 from by rw [hg]; exact HB5.out.size); have HGG := Aside0.mk (show w5.heap.size ≤ g5 from Nat.le_of_eq hg.symm); have HNE := Aside0.mk (show g1 ≠ g5 from by have := blk_lt BK5.out; omega); have HB6 := Aside0.mk (below_step HB5.out hb); have HBB := Aside0.mk hb; have BK6 := Aside0.mk (blk_below BK5.out hb); have R86 := Aside0.mk (Kd.R_below R85.out hb); have R96 := Aside0.mk (Kd.R_below R95.out hb); have R106 := Aside0.mk (Kd.R_below R105.out hb); have BQ6 := Aside0.mk hbox; clear hg hbox hb; obtain ⟨Q0, Q1, Q2, Q3, Q4, Q5, Q6, Q7, Q8, Q9, Q10⟩ := Hand.Cz.c11 BQ6.out; obtain ⟨F0, F1, F2, F3, F4, F5, F6, F7, F8, F9, F10⟩ := Hand.Cz.f11 BQ6.out)
 generalize hW7 : World.setCell _ (Addr.mk g5 10 none) _ = w7
 have BQ7 := Aside0.mk (show w7.heap[g5]? = some (.cells #[.int .i64 1, .int .u64 tr, .int .u64 0, .int .u64 0, .int .u64 0, .int .u64 0, .int .i64 0, .bool false, .slice B8 l8.length d8, .slice B9 ([] : List S92).length d9, .slice B10 ([] : List Int).length d10] 30 (0, 0)) from by rw [← hW7]; exact Hand.Cz.p11 BQ6.out)
 have BK7 := Aside0.mk (show w7.heap[g1]? = some (.cells #[.int .i64 1, .int .u64 tr, .int .u64 0, .int .u64 0, .int .u64 0, .int .u64 0, .int .i64 0, .bool false, .slice A8 l8.length c8, .slice A9 ([] : List S92).length c9, .slice A10 ([] : List Int).length c10] 30 (0, 0)) from by rw [← hW7]; exact Hand.Cz.o11 BK6.out HNE.out)
 have HB7 := Aside0.mk (show Below w.heap.size w w7 from by rw [← hW7]; exact Hand.Cz.b11 HB6.out HG5.out)
 have R87 := Aside0.mk (show Kd.R k76 76 w7 w.heap.size (fun k => k ≠ g5) (.slice B8 l8.length d8) l8 from by rw [← hW7]; exact Hand.Cz.r11 (Kd.R_mono (Kd.R_types R86.out BQ6.out (by decide)) (fun _ hk => hk.2)))
 have R97 := Aside0.mk (show Kd.R k92 92 w7 w.heap.size (fun k => k ≠ g5) (.slice B9 ([] : List S92).length d9) ([] : List S92) from by rw [← hW7]; exact Hand.Cz.r11 (Kd.R_mono (Kd.R_types R96.out BQ6.out (by decide)) (fun _ hk => hk.2)))
 have R107 := Aside0.mk (show Kd.R (Kd.int .u64) 22 w7 w.heap.size (fun k => k ≠ g5) (.slice B10 ([] : List Int).length d10) ([] : List Int) from by rw [← hW7]; exact Hand.Cz.r11 (Kd.R_mono (Kd.R_types R106.out BQ6.out (by decide)) (fun _ hk => hk.2)))
 have HC7 := Aside0.mk (Kd.C_below HC5.out (show Below w5.heap.size w5 w7 from by rw [← hW7]; exact Hand.Cz.b11 HBB.out HGG.out))
 clear hW7 Q0 Q1 Q2 Q3 Q4 Q5 Q6 Q7 Q8 Q9 Q10 F0 F1 F2 F3 F4 F5 F6 F7 F8 F9 F10 BQ6 BK6 HB6 HBB R86 R96 R106 R85 R95 R105
 obtain ⟨Q0, Q1, Q2, Q3, Q4, Q5, Q6, Q7, Q8, Q9, Q10⟩ := Hand.Cz.c11 BQ7.out
 obtain ⟨P0, P1, P2, P3, P4, P5, P6, P7, P8, P9, P10⟩ := Hand.Cz.c11 BK7.out
 have hta : ∀ W, (Instr.typeAssert (.iface 51 (.agg #[.int .u64 tr, .bool false, .slice Av l8.length cv])) 20 51 true).run Try.prog W = .ok (.tuple #[.agg #[.int .u64 tr, .bool false, .slice Av l8.length cv], .bool true]) W := fun W => by kernel_rfl
 go_upto_region 15 with (first | (go_at_call 25; refine (HT.out _ _ _ HB7.out HC7.out HLE.out).mono ?_; rintro e w8 ⟨rfl, hb⟩; have BQ8 := Aside0.mk (blk_below BQ7.out hb); have BK8 := Aside0.mk (blk_below BK7.out hb); have HB8 := Aside0.mk (below_step HB7.out hb); clear P0 P1 P2 P3 P4 P5 P6 P7 P8 P9 P10 Q0 Q1 Q2 Q3 Q4 Q5 Q6 Q7 Q8 Q9 Q10; obtain ⟨Q0, Q1, Q2, Q3, Q4, Q5, Q6, Q7, Q8, Q9, Q10⟩ := Hand.Cz.c11 BQ8.out; obtain ⟨P0, P1, P2, P3, P4, P5, P6, P7, P8, P9, P10⟩ := Hand.Cz.c11 BK8.out; have R88 := Aside0.mk (Kd.R_below R87.out hb); have R98 := Aside0.mk (Kd.R_below R97.out hb); have R108 := Aside0.mk (Kd.R_below R107.out hb); clear hb) | (go_at_call 21; refine (HS.out _ _ _ _ HB8.out (Kd.R_mono R88.out (fun _ _ => trivial)) (Kd.R_mono R98.out (fun _ _ => trivial)) (Kd.R_mono R108.out (fun _ _ => trivial))).mono ?_; rintro e w9 ⟨rfl, hb⟩; have BQ9 := Aside0.mk (blk_below BQ8.out hb); have BK9 := Aside0.mk (blk_below BK8.out hb); have HB9 := Aside0.mk (below_step HB8.out hb); clear P0 P1 P2 P3 P4 P5 P6 P7 P8 P9 P10 Q0 Q1 Q2 Q3 Q4 Q5 Q6 Q7 Q8 Q9 Q10; obtain ⟨Q0, Q1, Q2, Q3, Q4, Q5, Q6, Q7, Q8, Q9, Q10⟩ := Hand.Cz.c11 BQ9.out; obtain ⟨P0, P1, P2, P3, P4, P5, P6, P7, P8, P9, P10⟩ := Hand.Cz.c11 BK9.out; clear hb) | ((with_reducible refine gate_dst (N := 10) rfl ?_); refine box_event ?hg (N := 10) ?hd (cs := #[.int .u64 0, .bool false, .slice none 0 0]) (t := 51) ?hr ?_; (case hd => rfl); (case hg => rfl); (case hr => (go_simp; done)); intro gx hg wx hbox hb; have HGX := Aside0.mk (show w.heap.size ≤ gx from by rw [hg]; exact HB9.out.size); have HNX := Aside0.mk (show g1 ≠ gx from by have := blk_lt BK9.out; omega); have HBX := Aside0.mk (below_step HB9.out hb); have BKX := Aside0.mk (blk_below BK9.out hb); have BX := Aside0.mk hbox; clear hg hbox hb; obtain ⟨hx_0, hx_1, hx_2⟩ := Hand.Cz.c3 BX.out; obtain ⟨hy_0, hy_1, hy_2⟩ := Hand.Cz.f3 BX.out))
 generalize hWY : World.setCell _ (Addr.mk gx 2 none) _ = wy
 have BY := Aside0.mk (show wy.heap[gx]? = some (.cells #[.int .u64 tr, .bool false, .slice Av l8.length cv] 51 (0, 0)) from by rw [← hWY]; exact Hand.Cz.p3 BX.out)
 have BKY := Aside0.mk (show wy.heap[g1]? = some (.cells #[.int .i64 1, .int .u64 tr, .int .u64 0, .int .u64 0, .int .u64 0, .int .u64 0, .int .i64 0, .bool false, .slice A8 l8.length c8, .slice A9 ([] : List S92).length c9, .slice A10 ([] : List Int).length c10] 30 (0, 0)) from by rw [← hWY]; exact Hand.Cz.o3 BKX.out HNX.out)
 have HBY := Aside0.mk (show Below w.heap.size w wy from by rw [← hWY]; exact Hand.Cz.b3 HBX.out HGX.out)
 clear hWY hx_0 hx_1 hx_2 hy_0 hy_1 hy_2 P0 P1 P2 P3 P4 P5 P6 P7 P8 P9 P10 Q0 Q1 Q2 Q3 Q4 Q5 Q6 Q7 Q8 Q9 Q10
 obtain ⟨hx_0, hx_1, hx_2⟩ := Hand.Cz.c3 BY.out
 obtain ⟨P0, P1, P2, P3, P4, P5, P6, P7, P8, P9, P10⟩ := Hand.Cz.c11 BKY.out
 go_wp2_with (go_at_call 15; refine (HA.out _ HBY.out).mono ?_; rintro e wz ⟨rfl, hb⟩; have HBZ := Aside0.mk (below_step HBY.out hb); clear hb)
 go_ret
 exact ⟨rfl, HBZ.out⟩
set_option maxHeartbeats 16000000 in
set_option maxRecDepth 100000 in
theorem things2 (tr bn bd sn sd v : Int) (ok : Bool) (A8 : Option Addr) (c8 : Nat) (l8 : List S76) (A9 : Option Addr) (c9 : Nat) (l9 : List S92) (A10 : Option Addr) (c10 : Nat) (l10 : List Int) (w : World)
  (hL : ∀ W, Below w.heap.size w W → Calls Try.prog 12 #[.agg #[.int .i64 2, .int .u64 tr, .int .u64 0, .int .u64 0, .int .u64 0, .int .u64 0, .int .i64 0, .bool false, .slice A8 l8.length c8, .slice A9 ([] : List S92).length c9, .slice A10 ([] : List Int).length c10]] W fun e w' => e = .returned (.bool true) ∧ Below W.heap.size W w')
  (hO : ∀ W, Below w.heap.size w W → Calls Try.prog 23 #[.agg #[.int .i64 2, .int .u64 tr, .int .u64 0, .int .u64 0, .int .u64 0, .int .u64 0, .int .i64 0, .bool false, .slice A8 l8.length c8, .slice A9 ([] : List S92).length c9, .slice A10 ([] : List Int).length c10]] W fun e w' => ∃ (Av : Option Addr) (cv : Nat), e = .returned (.tuple #[.iface 51 (.agg #[.int .u64 tr, .bool true, .slice Av l8.length cv]), .int .i64 0]) ∧ Kd.C k76 w' Av l8.length l8 ∧ l8.length ≤ cv ∧ Below W.heap.size W w')
  (hRR : ∀ W, Below w.heap.size w W → Calls Try.prog 14 #[.agg #[.int .i64 2, .int .u64 tr, .int .u64 0, .int .u64 0, .int .u64 0, .int .u64 0, .int .i64 0, .bool false, .slice A8 l8.length c8, .slice A9 ([] : List S92).length c9, .slice A10 ([] : List Int).length c10]] W fun e w' => e = .returned (.int .i64 0) ∧ Below W.heap.size W w')
  (hP : ∀ W Av cv , Below w.heap.size w W → Kd.C k76 W Av l8.length l8 → l8.length ≤ cv → Calls Try.prog 24 #[.iface 51 (.agg #[.int .u64 tr, .bool true, .slice Av l8.length cv])] W fun e w' => ∃ v8 v9 v10 : Value, e = .returned (.tuple #[.agg #[.int .i64 2, .int .u64 tr, .int .u64 0, .int .u64 0, .int .u64 0, .int .u64 0, .int .i64 0, .bool false, v8, v9, v10], .int .i64 0]) ∧ Kd.R k76 76 w' W.heap.size (fun _ => True) v8 l8 ∧ Kd.R k92 92 w' W.heap.size (fun _ => True) v9 ([] : List S92) ∧ Kd.R (Kd.int .u64) 22 w' W.heap.size (fun _ => True) v10 ([] : List Int) ∧ Below W.heap.size W w')
  (hT : ∀ W Av cv , Below w.heap.size w W → Kd.C k76 W Av l8.length l8 → l8.length ≤ cv → Calls Try.prog 25 #[.iface 51 (.agg #[.int .u64 tr, .bool true, .slice Av l8.length cv])] W fun e w' => e = .returned (.tuple #[.int .u64 tr, .bool true]) ∧ Below W.heap.size W w')
  (hS : ∀ W v8 v9 v10, Below w.heap.size w W → Kd.R k76 76 W w.heap.size (fun _ => True) v8 l8 → Kd.R k92 92 W w.heap.size (fun _ => True) v9 ([] : List S92) → Kd.R (Kd.int .u64) 22 W w.heap.size (fun _ => True) v10 ([] : List Int) → Calls Try.prog 21 #[.agg #[.int .i64 2, .int .u64 tr, .int .u64 0, .int .u64 0, .int .u64 0, .int .u64 0, .int .i64 0, .bool false, .slice A8 l8.length c8, .slice A9 ([] : List S92).length c9, .slice A10 ([] : List Int).length c10], .agg #[.int .i64 2, .int .u64 tr, .int .u64 0, .int .u64 0, .int .u64 0, .int .u64 0, .int .i64 0, .bool false, v8, v9, v10]] W fun e w' => e = .returned (.bool true) ∧ Below W.heap.size W w')
  (hA : ∀ W, Below w.heap.size w W → Calls Try.prog 15 #[] W fun e w' => e = .returned (.bool true) ∧ Below W.heap.size W w') :
  Calls Try.prog 10 #[.agg #[.int .i64 2, .int .u64 tr, .int .u64 0, .int .u64 0, .int .u64 0, .int .u64 0, .int .i64 0, .bool false, .slice A8 l8.length c8, .slice A9 ([] : List S92).length c9, .slice A10 ([] : List Int).length c10]] w fun e w' => e = .returned (.bool true) ∧ Below w.heap.size w w' := by
 have hu30 := Try.underlying30; have hu24 := Try.underlying24; have hu51 := Try.underlying51; have hu54 := Try.underlying54; have hu57 := Try.underlying57; have hu60 := Try.underlying60; have hu63 := Try.underlying63; have hu66 := Try.underlying66; have hu69 := Try.underlying69
 have HL := Aside0.mk hL
 have HO := Aside0.mk hO
 have HRR := Aside0.mk hRR
 have HP := Aside0.mk hP
 have HT := Aside0.mk hT
 have HS := Aside0.mk hS
 have HA := Aside0.mk hA
 clear hL hO hRR hP hT hS hA
 go_enter Try.func10, Try.ntmps10
 go_wp2_with (first | ((with_reducible refine gate_dst (N := 1) rfl ?_); refine box_event ?hg (N := 1) ?hd (cs := #[.int .i64 2, .int .u64 tr, .int .u64 0, .int .u64 0, .int .u64 0, .int .u64 0, .int .i64 0, .bool false, .slice A8 l8.length c8, .slice A9 ([] : List S92).length c9, .slice A10 ([] : List Int).length c10]) (t := 30) ?hr ?_; (case hd => rfl); (case hg => rfl); (case hr => (go_simp; done)); intro g1 hg w1 hbox hb; have HG1 := Aside0.mk (show w.heap.size ≤ g1 from Nat.le_of_eq hg.symm); have HB1 := Aside0.mk hb; have BK1 := Aside0.mk hbox; clear hg hbox hb; obtain ⟨P0, P1, P2, P3, P4, P5, P6, P7, P8, P9, P10⟩ := Hand.Cz.c11 BK1.out) | (go_at_call 12; refine (HL.out _ HB1.out).mono ?_; rintro e w2 ⟨rfl, hb⟩; have BK2 := Aside0.mk (blk_below BK1.out hb); have HB2 := Aside0.mk (below_step HB1.out hb); clear P0 P1 P2 P3 P4 P5 P6 P7 P8 P9 P10; obtain ⟨P0, P1, P2, P3, P4, P5, P6, P7, P8, P9, P10⟩ := Hand.Cz.c11 BK2.out; clear hb) | (go_at_call 23; refine (HO.out _ HB2.out).mono ?_; rintro e w3 ⟨Av, cv, rfl, hc, hle, hb⟩; have BK3 := Aside0.mk (blk_below BK2.out hb); have HB3 := Aside0.mk (below_step HB2.out hb); clear P0 P1 P2 P3 P4 P5 P6 P7 P8 P9 P10; obtain ⟨P0, P1, P2, P3, P4, P5, P6, P7, P8, P9, P10⟩ := Hand.Cz.c11 BK3.out; have HC3 := Aside0.mk hc; have HLE := Aside0.mk hle; clear hc hle; clear hb) | (go_at_call 14; refine (HRR.out _ HB3.out).mono ?_; rintro e w4 ⟨rfl, hb⟩; have BK4 := Aside0.mk (blk_below BK3.out hb); have HB4 := Aside0.mk (below_step HB3.out hb); clear P0 P1 P2 P3 P4 P5 P6 P7 P8 P9 P10; obtain ⟨P0, P1, P2, P3, P4, P5, P6, P7, P8, P9, P10⟩ := Hand.Cz.c11 BK4.out; have HC4 := Aside0.mk (Kd.C_below HC3.out hb); clear hb))
 refine (HP.out _ _ _ HB4.out HC4.out HLE.out).mono ?_
 rintro e w5 ⟨v8, v9, v10, rfl, r8, r9, r10, hb⟩
 obtain ⟨B8, d8, rfl⟩ := Kd.R_slice r8
 have R85 := Aside0.mk (Kd.R_lower r8 HB4.out.size)
 obtain ⟨B9, d9, rfl⟩ := Kd.R_slice r9
 have R95 := Aside0.mk (Kd.R_lower r9 HB4.out.size)
 obtain ⟨B10, d10, rfl⟩ := Kd.R_slice r10
 have R105 := Aside0.mk (Kd.R_lower r10 HB4.out.size)
 have BK5 := Aside0.mk (blk_below BK4.out hb)
 have HB5 := Aside0.mk (below_step HB4.out hb)
 have HC5 := Aside0.mk (Kd.C_below HC4.out hb)
 clear r8 r9 r10 hb P0 P1 P2 P3 P4 P5 P6 P7 P8 P9 P10
 go_upto_region 7 with ((with_reducible refine gate_dst (N := 5) rfl ?_); refine box_event ?hg (N := 5) ?hd (cs := #[.int .i64 0, .int .u64 0, .int .u64 0, .int .u64 0, .int .u64 0, .int .u64 0, .int .i64 0, .bool false, .slice none 0 0, .slice none 0 0, .slice none 0 0]) (t := 30) ?hr ?_; (case hd => rfl); (case hg => rfl); (case hr => (go_simp; done)); intro g5 hg w6 hbox hb; have HG5 := Aside0.mk (show w.heap.size ≤ g5 from by rw [hg]; exact HB5.out.size); have HGG := Aside0.mk (show w5.heap.size ≤ g5 from Nat.le_of_eq hg.symm); have HNE := Aside0.mk (show g1 ≠ g5 from by have := blk_lt BK5.out; omega); have HB6 := Aside0.mk (below_step HB5.out hb); have HBB := Aside0.mk hb; have BK6 := Aside0.mk (blk_below BK5.out hb); have R86 := Aside0.mk (Kd.R_below R85.out hb); have R96 := Aside0.mk (Kd.R_below R95.out hb); have R106 := Aside0.mk (Kd.R_below R105.out hb); have BQ6 := Aside0.mk hbox; clear hg hbox hb; obtain ⟨Q0, Q1, Q2, Q3, Q4, Q5, Q6, Q7, Q8, Q9, Q10⟩ := Hand.Cz.c11 BQ6.out; obtain ⟨F0, F1, F2, F3, F4, F5, F6, F7, F8, F9, F10⟩ := Hand.Cz.f11 BQ6.out)
 generalize hW7 : World.setCell _ (Addr.mk g5 10 none) _ = w7
 have BQ7 := Aside0.mk (show w7.heap[g5]? = some (.cells #[.int .i64 2, .int .u64 tr, .int .u64 0, .int .u64 0, .int .u64 0, .int .u64 0, .int .i64 0, .bool false, .slice B8 l8.length d8, .slice B9 ([] : List S92).length d9, .slice B10 ([] : List Int).length d10] 30 (0, 0)) from by rw [← hW7]; exact Hand.Cz.p11 BQ6.out)
 have BK7 := Aside0.mk (show w7.heap[g1]? = some (.cells #[.int .i64 2, .int .u64 tr, .int .u64 0, .int .u64 0, .int .u64 0, .int .u64 0, .int .i64 0, .bool false, .slice A8 l8.length c8, .slice A9 ([] : List S92).length c9, .slice A10 ([] : List Int).length c10] 30 (0, 0)) from by rw [← hW7]; exact Hand.Cz.o11 BK6.out HNE.out)
 have HB7 := Aside0.mk (show Below w.heap.size w w7 from by rw [← hW7]; exact Hand.Cz.b11 HB6.out HG5.out)
 have R87 := Aside0.mk (show Kd.R k76 76 w7 w.heap.size (fun k => k ≠ g5) (.slice B8 l8.length d8) l8 from by rw [← hW7]; exact Hand.Cz.r11 (Kd.R_mono (Kd.R_types R86.out BQ6.out (by decide)) (fun _ hk => hk.2)))
 have R97 := Aside0.mk (show Kd.R k92 92 w7 w.heap.size (fun k => k ≠ g5) (.slice B9 ([] : List S92).length d9) ([] : List S92) from by rw [← hW7]; exact Hand.Cz.r11 (Kd.R_mono (Kd.R_types R96.out BQ6.out (by decide)) (fun _ hk => hk.2)))
 have R107 := Aside0.mk (show Kd.R (Kd.int .u64) 22 w7 w.heap.size (fun k => k ≠ g5) (.slice B10 ([] : List Int).length d10) ([] : List Int) from by rw [← hW7]; exact Hand.Cz.r11 (Kd.R_mono (Kd.R_types R106.out BQ6.out (by decide)) (fun _ hk => hk.2)))
 have HC7 := Aside0.mk (Kd.C_below HC5.out (show Below w5.heap.size w5 w7 from by rw [← hW7]; exact Hand.Cz.b11 HBB.out HGG.out))
 clear hW7 Q0 Q1 Q2 Q3 Q4 Q5 Q6 Q7 Q8 Q9 Q10 F0 F1 F2 F3 F4 F5 F6 F7 F8 F9 F10 BQ6 BK6 HB6 HBB R86 R96 R106 R85 R95 R105
 obtain ⟨Q0, Q1, Q2, Q3, Q4, Q5, Q6, Q7, Q8, Q9, Q10⟩ := Hand.Cz.c11 BQ7.out
 obtain ⟨P0, P1, P2, P3, P4, P5, P6, P7, P8, P9, P10⟩ := Hand.Cz.c11 BK7.out
 have hta : ∀ W, (Instr.typeAssert (.iface 51 (.agg #[.int .u64 tr, .bool true, .slice Av l8.length cv])) 20 51 true).run Try.prog W = .ok (.tuple #[.agg #[.int .u64 tr, .bool true, .slice Av l8.length cv], .bool true]) W := fun W => by kernel_rfl
 go_upto_region 15 with (first | (go_at_call 25; refine (HT.out _ _ _ HB7.out HC7.out HLE.out).mono ?_; rintro e w8 ⟨rfl, hb⟩; have BQ8 := Aside0.mk (blk_below BQ7.out hb); have BK8 := Aside0.mk (blk_below BK7.out hb); have HB8 := Aside0.mk (below_step HB7.out hb); clear P0 P1 P2 P3 P4 P5 P6 P7 P8 P9 P10 Q0 Q1 Q2 Q3 Q4 Q5 Q6 Q7 Q8 Q9 Q10; obtain ⟨Q0, Q1, Q2, Q3, Q4, Q5, Q6, Q7, Q8, Q9, Q10⟩ := Hand.Cz.c11 BQ8.out; obtain ⟨P0, P1, P2, P3, P4, P5, P6, P7, P8, P9, P10⟩ := Hand.Cz.c11 BK8.out; have R88 := Aside0.mk (Kd.R_below R87.out hb); have R98 := Aside0.mk (Kd.R_below R97.out hb); have R108 := Aside0.mk (Kd.R_below R107.out hb); clear hb) | (go_at_call 21; refine (HS.out _ _ _ _ HB8.out (Kd.R_mono R88.out (fun _ _ => trivial)) (Kd.R_mono R98.out (fun _ _ => trivial)) (Kd.R_mono R108.out (fun _ _ => trivial))).mono ?_; rintro e w9 ⟨rfl, hb⟩; have BQ9 := Aside0.mk (blk_below BQ8.out hb); have BK9 := Aside0.mk (blk_below BK8.out hb); have HB9 := Aside0.mk (below_step HB8.out hb); clear P0 P1 P2 P3 P4 P5 P6 P7 P8 P9 P10 Q0 Q1 Q2 Q3 Q4 Q5 Q6 Q7 Q8 Q9 Q10; obtain ⟨Q0, Q1, Q2, Q3, Q4, Q5, Q6, Q7, Q8, Q9, Q10⟩ := Hand.Cz.c11 BQ9.out; obtain ⟨P0, P1, P2, P3, P4, P5, P6, P7, P8, P9, P10⟩ := Hand.Cz.c11 BK9.out; clear hb) | ((with_reducible refine gate_dst (N := 10) rfl ?_); refine box_event ?hg (N := 10) ?hd (cs := #[.int .u64 0, .bool false, .slice none 0 0]) (t := 51) ?hr ?_; (case hd => rfl); (case hg => rfl); (case hr => (go_simp; done)); intro gx hg wx hbox hb; have HGX := Aside0.mk (show w.heap.size ≤ gx from by rw [hg]; exact HB9.out.size); have HNX := Aside0.mk (show g1 ≠ gx from by have := blk_lt BK9.out; omega); have HBX := Aside0.mk (below_step HB9.out hb); have BKX := Aside0.mk (blk_below BK9.out hb); have BX := Aside0.mk hbox; clear hg hbox hb; obtain ⟨hx_0, hx_1, hx_2⟩ := Hand.Cz.c3 BX.out; obtain ⟨hy_0, hy_1, hy_2⟩ := Hand.Cz.f3 BX.out))
 generalize hWY : World.setCell _ (Addr.mk gx 2 none) _ = wy
 have BY := Aside0.mk (show wy.heap[gx]? = some (.cells #[.int .u64 tr, .bool true, .slice Av l8.length cv] 51 (0, 0)) from by rw [← hWY]; exact Hand.Cz.p3 BX.out)
 have BKY := Aside0.mk (show wy.heap[g1]? = some (.cells #[.int .i64 2, .int .u64 tr, .int .u64 0, .int .u64 0, .int .u64 0, .int .u64 0, .int .i64 0, .bool false, .slice A8 l8.length c8, .slice A9 ([] : List S92).length c9, .slice A10 ([] : List Int).length c10] 30 (0, 0)) from by rw [← hWY]; exact Hand.Cz.o3 BKX.out HNX.out)
 have HBY := Aside0.mk (show Below w.heap.size w wy from by rw [← hWY]; exact Hand.Cz.b3 HBX.out HGX.out)
 clear hWY hx_0 hx_1 hx_2 hy_0 hy_1 hy_2 P0 P1 P2 P3 P4 P5 P6 P7 P8 P9 P10 Q0 Q1 Q2 Q3 Q4 Q5 Q6 Q7 Q8 Q9 Q10
 obtain ⟨hx_0, hx_1, hx_2⟩ := Hand.Cz.c3 BY.out
 obtain ⟨P0, P1, P2, P3, P4, P5, P6, P7, P8, P9, P10⟩ := Hand.Cz.c11 BKY.out
 go_wp2_with (go_at_call 15; refine (HA.out _ HBY.out).mono ?_; rintro e wz ⟨rfl, hb⟩; have HBZ := Aside0.mk (below_step HBY.out hb); clear hb)
 go_ret
 exact ⟨rfl, HBZ.out⟩
set_option maxHeartbeats 16000000 in
set_option maxRecDepth 100000 in
theorem things3 (tr bn bd sn sd v : Int) (ok : Bool) (A8 : Option Addr) (c8 : Nat) (l8 : List S76) (A9 : Option Addr) (c9 : Nat) (l9 : List S92) (A10 : Option Addr) (c10 : Nat) (l10 : List Int) (w : World)
  (hL : ∀ W, Below w.heap.size w W → Calls Try.prog 12 #[.agg #[.int .i64 3, .int .u64 0, .int .u64 0, .int .u64 0, .int .u64 0, .int .u64 0, .int .i64 0, .bool false, .slice A8 ([] : List S76).length c8, .slice A9 l9.length c9, .slice A10 ([] : List Int).length c10]] W fun e w' => e = .returned (.bool true) ∧ Below W.heap.size W w')
  (hO : ∀ W, Below w.heap.size w W → Calls Try.prog 23 #[.agg #[.int .i64 3, .int .u64 0, .int .u64 0, .int .u64 0, .int .u64 0, .int .u64 0, .int .i64 0, .bool false, .slice A8 ([] : List S76).length c8, .slice A9 l9.length c9, .slice A10 ([] : List Int).length c10]] W fun e w' => ∃ (Av : Option Addr) (cv : Nat), e = .returned (.tuple #[.iface 54 (.agg #[.slice Av l9.length cv]), .int .i64 0]) ∧ Kd.C k92 w' Av l9.length l9 ∧ l9.length ≤ cv ∧ Below W.heap.size W w')
  (hRR : ∀ W, Below w.heap.size w W → Calls Try.prog 14 #[.agg #[.int .i64 3, .int .u64 0, .int .u64 0, .int .u64 0, .int .u64 0, .int .u64 0, .int .i64 0, .bool false, .slice A8 ([] : List S76).length c8, .slice A9 l9.length c9, .slice A10 ([] : List Int).length c10]] W fun e w' => e = .returned (.int .i64 0) ∧ Below W.heap.size W w')
  (hP : ∀ W Av cv , Below w.heap.size w W → Kd.C k92 W Av l9.length l9 → l9.length ≤ cv → Calls Try.prog 24 #[.iface 54 (.agg #[.slice Av l9.length cv])] W fun e w' => ∃ v8 v9 v10 : Value, e = .returned (.tuple #[.agg #[.int .i64 3, .int .u64 0, .int .u64 0, .int .u64 0, .int .u64 0, .int .u64 0, .int .i64 0, .bool false, v8, v9, v10], .int .i64 0]) ∧ Kd.R k76 76 w' W.heap.size (fun _ => True) v8 ([] : List S76) ∧ Kd.R k92 92 w' W.heap.size (fun _ => True) v9 l9 ∧ Kd.R (Kd.int .u64) 22 w' W.heap.size (fun _ => True) v10 ([] : List Int) ∧ Below W.heap.size W w')
  (hT : ∀ W Av cv , Below w.heap.size w W → Kd.C k92 W Av l9.length l9 → l9.length ≤ cv → Calls Try.prog 25 #[.iface 54 (.agg #[.slice Av l9.length cv])] W fun e w' => e = .returned (.tuple #[.int .u64 0, .bool false]) ∧ Below W.heap.size W w')
  (hS : ∀ W v8 v9 v10, Below w.heap.size w W → Kd.R k76 76 W w.heap.size (fun _ => True) v8 ([] : List S76) → Kd.R k92 92 W w.heap.size (fun _ => True) v9 l9 → Kd.R (Kd.int .u64) 22 W w.heap.size (fun _ => True) v10 ([] : List Int) → Calls Try.prog 21 #[.agg #[.int .i64 3, .int .u64 0, .int .u64 0, .int .u64 0, .int .u64 0, .int .u64 0, .int .i64 0, .bool false, .slice A8 ([] : List S76).length c8, .slice A9 l9.length c9, .slice A10 ([] : List Int).length c10], .agg #[.int .i64 3, .int .u64 0, .int .u64 0, .int .u64 0, .int .u64 0, .int .u64 0, .int .i64 0, .bool false, v8, v9, v10]] W fun e w' => e = .returned (.bool true) ∧ Below W.heap.size W w')
  (hA : ∀ W, Below w.heap.size w W → Calls Try.prog 15 #[] W fun e w' => e = .returned (.bool true) ∧ Below W.heap.size W w') :
  Calls Try.prog 10 #[.agg #[.int .i64 3, .int .u64 0, .int .u64 0, .int .u64 0, .int .u64 0, .int .u64 0, .int .i64 0, .bool false, .slice A8 ([] : List S76).length c8, .slice A9 l9.length c9, .slice A10 ([] : List Int).length c10]] w fun e w' => e = .returned (.bool true) ∧ Below w.heap.size w w' := by
 have hu30 := Try.underlying30; have hu24 := Try.underlying24; have hu51 := Try.underlying51; have hu54 := Try.underlying54; have hu57 := Try.underlying57; have hu60 := Try.underlying60; have hu63 := Try.underlying63; have hu66 := Try.underlying66; have hu69 := Try.underlying69
 have HL := Aside0.mk hL
 have HO := Aside0.mk hO
 have HRR := Aside0.mk hRR
 have HP := Aside0.mk hP
 have HT := Aside0.mk hT
 have HS := Aside0.mk hS
 have HA := Aside0.mk hA
 clear hL hO hRR hP hT hS hA
 go_enter Try.func10, Try.ntmps10
 go_wp2_with (first | ((with_reducible refine gate_dst (N := 1) rfl ?_); refine box_event ?hg (N := 1) ?hd (cs := #[.int .i64 3, .int .u64 0, .int .u64 0, .int .u64 0, .int .u64 0, .int .u64 0, .int .i64 0, .bool false, .slice A8 ([] : List S76).length c8, .slice A9 l9.length c9, .slice A10 ([] : List Int).length c10]) (t := 30) ?hr ?_; (case hd => rfl); (case hg => rfl); (case hr => (go_simp; done)); intro g1 hg w1 hbox hb; have HG1 := Aside0.mk (show w.heap.size ≤ g1 from Nat.le_of_eq hg.symm); have HB1 := Aside0.mk hb; have BK1 := Aside0.mk hbox; clear hg hbox hb; obtain ⟨P0, P1, P2, P3, P4, P5, P6, P7, P8, P9, P10⟩ := Hand.Cz.c11 BK1.out) | (go_at_call 12; refine (HL.out _ HB1.out).mono ?_; rintro e w2 ⟨rfl, hb⟩; have BK2 := Aside0.mk (blk_below BK1.out hb); have HB2 := Aside0.mk (below_step HB1.out hb); clear P0 P1 P2 P3 P4 P5 P6 P7 P8 P9 P10; obtain ⟨P0, P1, P2, P3, P4, P5, P6, P7, P8, P9, P10⟩ := Hand.Cz.c11 BK2.out; clear hb) | (go_at_call 23; refine (HO.out _ HB2.out).mono ?_; rintro e w3 ⟨Av, cv, rfl, hc, hle, hb⟩; have BK3 := Aside0.mk (blk_below BK2.out hb); have HB3 := Aside0.mk (below_step HB2.out hb); clear P0 P1 P2 P3 P4 P5 P6 P7 P8 P9 P10; obtain ⟨P0, P1, P2, P3, P4, P5, P6, P7, P8, P9, P10⟩ := Hand.Cz.c11 BK3.out; have HC3 := Aside0.mk hc; have HLE := Aside0.mk hle; clear hc hle; clear hb) | (go_at_call 14; refine (HRR.out _ HB3.out).mono ?_; rintro e w4 ⟨rfl, hb⟩; have BK4 := Aside0.mk (blk_below BK3.out hb); have HB4 := Aside0.mk (below_step HB3.out hb); clear P0 P1 P2 P3 P4 P5 P6 P7 P8 P9 P10; obtain ⟨P0, P1, P2, P3, P4, P5, P6, P7, P8, P9, P10⟩ := Hand.Cz.c11 BK4.out; have HC4 := Aside0.mk (Kd.C_below HC3.out hb); clear hb))
 refine (HP.out _ _ _ HB4.out HC4.out HLE.out).mono ?_
 rintro e w5 ⟨v8, v9, v10, rfl, r8, r9, r10, hb⟩
 obtain ⟨B8, d8, rfl⟩ := Kd.R_slice r8
 have R85 := Aside0.mk (Kd.R_lower r8 HB4.out.size)
 obtain ⟨B9, d9, rfl⟩ := Kd.R_slice r9
 have R95 := Aside0.mk (Kd.R_lower r9 HB4.out.size)
 obtain ⟨B10, d10, rfl⟩ := Kd.R_slice r10
 have R105 := Aside0.mk (Kd.R_lower r10 HB4.out.size)
 have BK5 := Aside0.mk (blk_below BK4.out hb)
 have HB5 := Aside0.mk (below_step HB4.out hb)
 have HC5 := Aside0.mk (Kd.C_below HC4.out hb)
 clear r8 r9 r10 hb P0 P1 P2 P3 P4 P5 P6 P7 P8 P9 P10
 go_upto_region 7 with ((with_reducible refine gate_dst (N := 5) rfl ?_); refine box_event ?hg (N := 5) ?hd (cs := #[.int .i64 0, .int .u64 0, .int .u64 0, .int .u64 0, .int .u64 0, .int .u64 0, .int .i64 0, .bool false, .slice none 0 0, .slice none 0 0, .slice none 0 0]) (t := 30) ?hr ?_; (case hd => rfl); (case hg => rfl); (case hr => (go_simp; done)); intro g5 hg w6 hbox hb; have HG5 := Aside0.mk (show w.heap.size ≤ g5 from by rw [hg]; exact HB5.out.size); have HGG := Aside0.mk (show w5.heap.size ≤ g5 from Nat.le_of_eq hg.symm); have HNE := Aside0.mk (show g1 ≠ g5 from by have := blk_lt BK5.out; omega); have HB6 := Aside0.mk (below_step HB5.out hb); have HBB := Aside0.mk hb; have BK6 := Aside0.mk (blk_below BK5.out hb); have R86 := Aside0.mk (Kd.R_below R85.out hb); have R96 := Aside0.mk (Kd.R_below R95.out hb); have R106 := Aside0.mk (Kd.R_below R105.out hb); have BQ6 := Aside0.mk hbox; clear hg hbox hb; obtain ⟨Q0, Q1, Q2, Q3, Q4, Q5, Q6, Q7, Q8, Q9, Q10⟩ := Hand.Cz.c11 BQ6.out; obtain ⟨F0, F1, F2, F3, F4, F5, F6, F7, F8, F9, F10⟩ := Hand.Cz.f11 BQ6.out)
 generalize hW7 : World.setCell _ (Addr.mk g5 10 none) _ = w7
 have BQ7 := Aside0.mk (show w7.heap[g5]? = some (.cells #[.int .i64 3, .int .u64 0, .int .u64 0, .int .u64 0, .int .u64 0, .int .u64 0, .int .i64 0, .bool false, .slice B8 ([] : List S76).length d8, .slice B9 l9.length d9, .slice B10 ([] : List Int).length d10] 30 (0, 0)) from by rw [← hW7]; exact Hand.Cz.p11 BQ6.out)
 have BK7 := Aside0.mk (show w7.heap[g1]? = some (.cells #[.int .i64 3, .int .u64 0, .int .u64 0, .int .u64 0, .int .u64 0, .int .u64 0, .int .i64 0, .bool false, .slice A8 ([] : List S76).length c8, .slice A9 l9.length c9, .slice A10 ([] : List Int).length c10] 30 (0, 0)) from by rw [← hW7]; exact Hand.Cz.o11 BK6.out HNE.out)
 have HB7 := Aside0.mk (show Below w.heap.size w w7 from by rw [← hW7]; exact Hand.Cz.b11 HB6.out HG5.out)
 have R87 := Aside0.mk (show Kd.R k76 76 w7 w.heap.size (fun k => k ≠ g5) (.slice B8 ([] : List S76).length d8) ([] : List S76) from by rw [← hW7]; exact Hand.Cz.r11 (Kd.R_mono (Kd.R_types R86.out BQ6.out (by decide)) (fun _ hk => hk.2)))
 have R97 := Aside0.mk (show Kd.R k92 92 w7 w.heap.size (fun k => k ≠ g5) (.slice B9 l9.length d9) l9 from by rw [← hW7]; exact Hand.Cz.r11 (Kd.R_mono (Kd.R_types R96.out BQ6.out (by decide)) (fun _ hk => hk.2)))
 have R107 := Aside0.mk (show Kd.R (Kd.int .u64) 22 w7 w.heap.size (fun k => k ≠ g5) (.slice B10 ([] : List Int).length d10) ([] : List Int) from by rw [← hW7]; exact Hand.Cz.r11 (Kd.R_mono (Kd.R_types R106.out BQ6.out (by decide)) (fun _ hk => hk.2)))
 have HC7 := Aside0.mk (Kd.C_below HC5.out (show Below w5.heap.size w5 w7 from by rw [← hW7]; exact Hand.Cz.b11 HBB.out HGG.out))
 clear hW7 Q0 Q1 Q2 Q3 Q4 Q5 Q6 Q7 Q8 Q9 Q10 F0 F1 F2 F3 F4 F5 F6 F7 F8 F9 F10 BQ6 BK6 HB6 HBB R86 R96 R106 R85 R95 R105
 obtain ⟨Q0, Q1, Q2, Q3, Q4, Q5, Q6, Q7, Q8, Q9, Q10⟩ := Hand.Cz.c11 BQ7.out
 obtain ⟨P0, P1, P2, P3, P4, P5, P6, P7, P8, P9, P10⟩ := Hand.Cz.c11 BK7.out
 have hta : ∀ W, (Instr.typeAssert (.iface 54 (.agg #[.slice Av l9.length cv])) 20 54 true).run Try.prog W = .ok (.tuple #[.agg #[.slice Av l9.length cv], .bool true]) W := fun W => by kernel_rfl
 go_upto_region 18 with (first | (go_at_call 25; refine (HT.out _ _ _ HB7.out HC7.out HLE.out).mono ?_; rintro e w8 ⟨rfl, hb⟩; have BQ8 := Aside0.mk (blk_below BQ7.out hb); have BK8 := Aside0.mk (blk_below BK7.out hb); have HB8 := Aside0.mk (below_step HB7.out hb); clear P0 P1 P2 P3 P4 P5 P6 P7 P8 P9 P10 Q0 Q1 Q2 Q3 Q4 Q5 Q6 Q7 Q8 Q9 Q10; obtain ⟨Q0, Q1, Q2, Q3, Q4, Q5, Q6, Q7, Q8, Q9, Q10⟩ := Hand.Cz.c11 BQ8.out; obtain ⟨P0, P1, P2, P3, P4, P5, P6, P7, P8, P9, P10⟩ := Hand.Cz.c11 BK8.out; have R88 := Aside0.mk (Kd.R_below R87.out hb); have R98 := Aside0.mk (Kd.R_below R97.out hb); have R108 := Aside0.mk (Kd.R_below R107.out hb); clear hb) | (go_at_call 21; refine (HS.out _ _ _ _ HB8.out (Kd.R_mono R88.out (fun _ _ => trivial)) (Kd.R_mono R98.out (fun _ _ => trivial)) (Kd.R_mono R108.out (fun _ _ => trivial))).mono ?_; rintro e w9 ⟨rfl, hb⟩; have BQ9 := Aside0.mk (blk_below BQ8.out hb); have BK9 := Aside0.mk (blk_below BK8.out hb); have HB9 := Aside0.mk (below_step HB8.out hb); clear P0 P1 P2 P3 P4 P5 P6 P7 P8 P9 P10 Q0 Q1 Q2 Q3 Q4 Q5 Q6 Q7 Q8 Q9 Q10; obtain ⟨Q0, Q1, Q2, Q3, Q4, Q5, Q6, Q7, Q8, Q9, Q10⟩ := Hand.Cz.c11 BQ9.out; obtain ⟨P0, P1, P2, P3, P4, P5, P6, P7, P8, P9, P10⟩ := Hand.Cz.c11 BK9.out; clear hb) | ((with_reducible refine gate_dst (N := 12) rfl ?_); refine box_event ?hg (N := 12) ?hd (cs := #[.slice none 0 0]) (t := 54) ?hr ?_; (case hd => rfl); (case hg => rfl); (case hr => (go_simp; done)); intro gx hg wx hbox hb; have HGX := Aside0.mk (show w.heap.size ≤ gx from by rw [hg]; exact HB9.out.size); have HNX := Aside0.mk (show g1 ≠ gx from by have := blk_lt BK9.out; omega); have HBX := Aside0.mk (below_step HB9.out hb); have BKX := Aside0.mk (blk_below BK9.out hb); have BX := Aside0.mk hbox; clear hg hbox hb; obtain hx_0 := Hand.Cz.c1 BX.out; obtain hy_0 := Hand.Cz.f1 BX.out))
 generalize hWY : World.setCell _ (Addr.mk gx 0 none) _ = wy
 have BY := Aside0.mk (show wy.heap[gx]? = some (.cells #[.slice Av l9.length cv] 54 (0, 0)) from by rw [← hWY]; exact Hand.Cz.p1 BX.out)
 have BKY := Aside0.mk (show wy.heap[g1]? = some (.cells #[.int .i64 3, .int .u64 0, .int .u64 0, .int .u64 0, .int .u64 0, .int .u64 0, .int .i64 0, .bool false, .slice A8 ([] : List S76).length c8, .slice A9 l9.length c9, .slice A10 ([] : List Int).length c10] 30 (0, 0)) from by rw [← hWY]; exact Hand.Cz.o1 BKX.out HNX.out)
 have HBY := Aside0.mk (show Below w.heap.size w wy from by rw [← hWY]; exact Hand.Cz.b1 HBX.out HGX.out)
 clear hWY hx_0 hy_0 P0 P1 P2 P3 P4 P5 P6 P7 P8 P9 P10 Q0 Q1 Q2 Q3 Q4 Q5 Q6 Q7 Q8 Q9 Q10
 obtain hx_0 := Hand.Cz.c1 BY.out
 obtain ⟨P0, P1, P2, P3, P4, P5, P6, P7, P8, P9, P10⟩ := Hand.Cz.c11 BKY.out
 go_wp2_with (go_at_call 15; refine (HA.out _ HBY.out).mono ?_; rintro e wz ⟨rfl, hb⟩; have HBZ := Aside0.mk (below_step HBY.out hb); clear hb)
 go_ret
 exact ⟨rfl, HBZ.out⟩
set_option maxHeartbeats 16000000 in
set_option maxRecDepth 100000 in
theorem things4 (tr bn bd sn sd v : Int) (ok : Bool) (A8 : Option Addr) (c8 : Nat) (l8 : List S76) (A9 : Option Addr) (c9 : Nat) (l9 : List S92) (A10 : Option Addr) (c10 : Nat) (l10 : List Int) (w : World)
  (hL : ∀ W, Below w.heap.size w W → Calls Try.prog 12 #[.agg #[.int .i64 4, .int .u64 tr, .int .u64 bn, .int .u64 bd, .int .u64 0, .int .u64 0, .int .i64 0, .bool false, .slice A8 ([] : List S76).length c8, .slice A9 ([] : List S92).length c9, .slice A10 ([] : List Int).length c10]] W fun e w' => e = .returned (.bool true) ∧ Below W.heap.size W w')
  (hO : ∀ W, Below w.heap.size w W → Calls Try.prog 23 #[.agg #[.int .i64 4, .int .u64 tr, .int .u64 bn, .int .u64 bd, .int .u64 0, .int .u64 0, .int .i64 0, .bool false, .slice A8 ([] : List S76).length c8, .slice A9 ([] : List S92).length c9, .slice A10 ([] : List Int).length c10]] W fun e w' => e = .returned (.tuple #[.iface 57 (.agg #[.int .u64 tr, .int .u64 bn, .int .u64 bd, .int .i64 0]), .int .i64 0]) ∧ Below W.heap.size W w')
  (hRR : ∀ W, Below w.heap.size w W → Calls Try.prog 14 #[.agg #[.int .i64 4, .int .u64 tr, .int .u64 bn, .int .u64 bd, .int .u64 0, .int .u64 0, .int .i64 0, .bool false, .slice A8 ([] : List S76).length c8, .slice A9 ([] : List S92).length c9, .slice A10 ([] : List Int).length c10]] W fun e w' => e = .returned (.int .i64 0) ∧ Below W.heap.size W w')
  (hP : ∀ W, Below w.heap.size w W → Calls Try.prog 24 #[.iface 57 (.agg #[.int .u64 tr, .int .u64 bn, .int .u64 bd, .int .i64 0])] W fun e w' => ∃ v8 v9 v10 : Value, e = .returned (.tuple #[.agg #[.int .i64 4, .int .u64 tr, .int .u64 bn, .int .u64 bd, .int .u64 0, .int .u64 0, .int .i64 0, .bool false, v8, v9, v10], .int .i64 0]) ∧ Kd.R k76 76 w' W.heap.size (fun _ => True) v8 ([] : List S76) ∧ Kd.R k92 92 w' W.heap.size (fun _ => True) v9 ([] : List S92) ∧ Kd.R (Kd.int .u64) 22 w' W.heap.size (fun _ => True) v10 ([] : List Int) ∧ Below W.heap.size W w')
  (hT : ∀ W, Below w.heap.size w W → Calls Try.prog 25 #[.iface 57 (.agg #[.int .u64 tr, .int .u64 bn, .int .u64 bd, .int .i64 0])] W fun e w' => e = .returned (.tuple #[.int .u64 tr, .bool true]) ∧ Below W.heap.size W w')
  (hS : ∀ W v8 v9 v10, Below w.heap.size w W → Kd.R k76 76 W w.heap.size (fun _ => True) v8 ([] : List S76) → Kd.R k92 92 W w.heap.size (fun _ => True) v9 ([] : List S92) → Kd.R (Kd.int .u64) 22 W w.heap.size (fun _ => True) v10 ([] : List Int) → Calls Try.prog 21 #[.agg #[.int .i64 4, .int .u64 tr, .int .u64 bn, .int .u64 bd, .int .u64 0, .int .u64 0, .int .i64 0, .bool false, .slice A8 ([] : List S76).length c8, .slice A9 ([] : List S92).length c9, .slice A10 ([] : List Int).length c10], .agg #[.int .i64 4, .int .u64 tr, .int .u64 bn, .int .u64 bd, .int .u64 0, .int .u64 0, .int .i64 0, .bool false, v8, v9, v10]] W fun e w' => e = .returned (.bool true) ∧ Below W.heap.size W w')
  (hA : ∀ W, Below w.heap.size w W → Calls Try.prog 15 #[] W fun e w' => e = .returned (.bool true) ∧ Below W.heap.size W w') :
  Calls Try.prog 10 #[.agg #[.int .i64 4, .int .u64 tr, .int .u64 bn, .int .u64 bd, .int .u64 0, .int .u64 0, .int .i64 0, .bool false, .slice A8 ([] : List S76).length c8, .slice A9 ([] : List S92).length c9, .slice A10 ([] : List Int).length c10]] w fun e w' => e = .returned (.bool true) ∧ Below w.heap.size w w' := by
 have hu30 := Try.underlying30; have hu24 := Try.underlying24; have hu51 := Try.underlying51; have hu54 := Try.underlying54; have hu57 := Try.underlying57; have hu60 := Try.underlying60; have hu63 := Try.underlying63; have hu66 := Try.underlying66; have hu69 := Try.underlying69
 have HL := Aside0.mk hL
 have HO := Aside0.mk hO
 have HRR := Aside0.mk hRR
 have HP := Aside0.mk hP
 have HT := Aside0.mk hT
 have HS := Aside0.mk hS
 have HA := Aside0.mk hA
 clear hL hO hRR hP hT hS hA
 go_enter Try.func10, Try.ntmps10
 go_wp2_with (first | ((with_reducible refine gate_dst (N := 1) rfl ?_); refine box_event ?hg (N := 1) ?hd (cs := #[.int .i64 4, .int .u64 tr, .int .u64 bn, .int .u64 bd, .int .u64 0, .int .u64 0, .int .i64 0, .bool false, .slice A8 ([] : List S76).length c8, .slice A9 ([] : List S92).length c9, .slice A10 ([] : List Int).length c10]) (t := 30) ?hr ?_; (case hd => rfl); (case hg => rfl); (case hr => (go_simp; done)); intro g1 hg w1 hbox hb; have HG1 := Aside0.mk (show w.heap.size ≤ g1 from Nat.le_of_eq hg.symm); have HB1 := Aside0.mk hb; have BK1 := Aside0.mk hbox; clear hg hbox hb; obtain ⟨P0, P1, P2, P3, P4, P5, P6, P7, P8, P9, P10⟩ := Hand.Cz.c11 BK1.out) | (go_at_call 12; refine (HL.out _ HB1.out).mono ?_; rintro e w2 ⟨rfl, hb⟩; have BK2 := Aside0.mk (blk_below BK1.out hb); have HB2 := Aside0.mk (below_step HB1.out hb); clear P0 P1 P2 P3 P4 P5 P6 P7 P8 P9 P10; obtain ⟨P0, P1, P2, P3, P4, P5, P6, P7, P8, P9, P10⟩ := Hand.Cz.c11 BK2.out; clear hb) | (go_at_call 23; refine (HO.out _ HB2.out).mono ?_; rintro e w3 ⟨rfl, hb⟩; have BK3 := Aside0.mk (blk_below BK2.out hb); have HB3 := Aside0.mk (below_step HB2.out hb); clear P0 P1 P2 P3 P4 P5 P6 P7 P8 P9 P10; obtain ⟨P0, P1, P2, P3, P4, P5, P6, P7, P8, P9, P10⟩ := Hand.Cz.c11 BK3.out; clear hb) | (go_at_call 14; refine (HRR.out _ HB3.out).mono ?_; rintro e w4 ⟨rfl, hb⟩; have BK4 := Aside0.mk (blk_below BK3.out hb); have HB4 := Aside0.mk (below_step HB3.out hb); clear P0 P1 P2 P3 P4 P5 P6 P7 P8 P9 P10; obtain ⟨P0, P1, P2, P3, P4, P5, P6, P7, P8, P9, P10⟩ := Hand.Cz.c11 BK4.out; clear hb))
 refine (HP.out _ HB4.out).mono ?_
 rintro e w5 ⟨v8, v9, v10, rfl, r8, r9, r10, hb⟩
 obtain ⟨B8, d8, rfl⟩ := Kd.R_slice r8
 have R85 := Aside0.mk (Kd.R_lower r8 HB4.out.size)
 obtain ⟨B9, d9, rfl⟩ := Kd.R_slice r9
 have R95 := Aside0.mk (Kd.R_lower r9 HB4.out.size)
 obtain ⟨B10, d10, rfl⟩ := Kd.R_slice r10
 have R105 := Aside0.mk (Kd.R_lower r10 HB4.out.size)
 have BK5 := Aside0.mk (blk_below BK4.out hb)
 have HB5 := Aside0.mk (below_step HB4.out hb)
 clear r8 r9 r10 hb P0 P1 P2 P3 P4 P5 P6 P7 P8 P9 P10
 go_upto_region 7 with ((with_reducible refine gate_dst (N := 5) rfl ?_); refine box_event ?hg (N := 5) ?hd (cs := #[.int .i64 0, .int .u64 0, .int .u64 0, .int .u64 0, .int .u64 0, .int .u64 0, .int .i64 0, .bool false, .slice none 0 0, .slice none 0 0, .slice none 0 0]) (t := 30) ?hr ?_; (case hd => rfl); (case hg => rfl); (case hr => (go_simp; done)); intro g5 hg w6 hbox hb; have HG5 := Aside0.mk (show w.heap.size ≤ g5 from by rw [hg]; exact HB5.out.size); have HGG := Aside0.mk (show w5.heap.size ≤ g5 from Nat.le_of_eq hg.symm); have HNE := Aside0.mk (show g1 ≠ g5 from by have := blk_lt BK5.out; omega); have HB6 := Aside0.mk (below_step HB5.out hb); have HBB := Aside0.mk hb; have BK6 := Aside0.mk (blk_below BK5.out hb); have R86 := Aside0.mk (Kd.R_below R85.out hb); have R96 := Aside0.mk (Kd.R_below R95.out hb); have R106 := Aside0.mk (Kd.R_below R105.out hb); have BQ6 := Aside0.mk hbox; clear hg hbox hb; obtain ⟨Q0, Q1, Q2, Q3, Q4, Q5, Q6, Q7, Q8, Q9, Q10⟩ := Hand.Cz.c11 BQ6.out; obtain ⟨F0, F1, F2, F3, F4, F5, F6, F7, F8, F9, F10⟩ := Hand.Cz.f11 BQ6.out)
 generalize hW7 : World.setCell _ (Addr.mk g5 10 none) _ = w7
 have BQ7 := Aside0.mk (show w7.heap[g5]? = some (.cells #[.int .i64 4, .int .u64 tr, .int .u64 bn, .int .u64 bd, .int .u64 0, .int .u64 0, .int .i64 0, .bool false, .slice B8 ([] : List S76).length d8, .slice B9 ([] : List S92).length d9, .slice B10 ([] : List Int).length d10] 30 (0, 0)) from by rw [← hW7]; exact Hand.Cz.p11 BQ6.out)
 have BK7 := Aside0.mk (show w7.heap[g1]? = some (.cells #[.int .i64 4, .int .u64 tr, .int .u64 bn, .int .u64 bd, .int .u64 0, .int .u64 0, .int .i64 0, .bool false, .slice A8 ([] : List S76).length c8, .slice A9 ([] : List S92).length c9, .slice A10 ([] : List Int).length c10] 30 (0, 0)) from by rw [← hW7]; exact Hand.Cz.o11 BK6.out HNE.out)
 have HB7 := Aside0.mk (show Below w.heap.size w w7 from by rw [← hW7]; exact Hand.Cz.b11 HB6.out HG5.out)
 have R87 := Aside0.mk (show Kd.R k76 76 w7 w.heap.size (fun k => k ≠ g5) (.slice B8 ([] : List S76).length d8) ([] : List S76) from by rw [← hW7]; exact Hand.Cz.r11 (Kd.R_mono (Kd.R_types R86.out BQ6.out (by decide)) (fun _ hk => hk.2)))
 have R97 := Aside0.mk (show Kd.R k92 92 w7 w.heap.size (fun k => k ≠ g5) (.slice B9 ([] : List S92).length d9) ([] : List S92) from by rw [← hW7]; exact Hand.Cz.r11 (Kd.R_mono (Kd.R_types R96.out BQ6.out (by decide)) (fun _ hk => hk.2)))
 have R107 := Aside0.mk (show Kd.R (Kd.int .u64) 22 w7 w.heap.size (fun k => k ≠ g5) (.slice B10 ([] : List Int).length d10) ([] : List Int) from by rw [← hW7]; exact Hand.Cz.r11 (Kd.R_mono (Kd.R_types R106.out BQ6.out (by decide)) (fun _ hk => hk.2)))
 clear hW7 Q0 Q1 Q2 Q3 Q4 Q5 Q6 Q7 Q8 Q9 Q10 F0 F1 F2 F3 F4 F5 F6 F7 F8 F9 F10 BQ6 BK6 HB6 HBB R86 R96 R106 R85 R95 R105
 obtain ⟨Q0, Q1, Q2, Q3, Q4, Q5, Q6, Q7, Q8, Q9, Q10⟩ := Hand.Cz.c11 BQ7.out
 obtain ⟨P0, P1, P2, P3, P4, P5, P6, P7, P8, P9, P10⟩ := Hand.Cz.c11 BK7.out
 have hta : ∀ W, (Instr.typeAssert (.iface 57 (.agg #[.int .u64 tr, .int .u64 bn, .int .u64 bd, .int .i64 0])) 20 57 true).run Try.prog W = .ok (.tuple #[.agg #[.int .u64 tr, .int .u64 bn, .int .u64 bd, .int .i64 0], .bool true]) W := fun W => by kernel_rfl
 go_upto_region 22 with (first | (go_at_call 25; refine (HT.out _ HB7.out).mono ?_; rintro e w8 ⟨rfl, hb⟩; have BQ8 := Aside0.mk (blk_below BQ7.out hb); have BK8 := Aside0.mk (blk_below BK7.out hb); have HB8 := Aside0.mk (below_step HB7.out hb); clear P0 P1 P2 P3 P4 P5 P6 P7 P8 P9 P10 Q0 Q1 Q2 Q3 Q4 Q5 Q6 Q7 Q8 Q9 Q10; obtain ⟨Q0, Q1, Q2, Q3, Q4, Q5, Q6, Q7, Q8, Q9, Q10⟩ := Hand.Cz.c11 BQ8.out; obtain ⟨P0, P1, P2, P3, P4, P5, P6, P7, P8, P9, P10⟩ := Hand.Cz.c11 BK8.out; have R88 := Aside0.mk (Kd.R_below R87.out hb); have R98 := Aside0.mk (Kd.R_below R97.out hb); have R108 := Aside0.mk (Kd.R_below R107.out hb); clear hb) | (go_at_call 21; refine (HS.out _ _ _ _ HB8.out (Kd.R_mono R88.out (fun _ _ => trivial)) (Kd.R_mono R98.out (fun _ _ => trivial)) (Kd.R_mono R108.out (fun _ _ => trivial))).mono ?_; rintro e w9 ⟨rfl, hb⟩; have BQ9 := Aside0.mk (blk_below BQ8.out hb); have BK9 := Aside0.mk (blk_below BK8.out hb); have HB9 := Aside0.mk (below_step HB8.out hb); clear P0 P1 P2 P3 P4 P5 P6 P7 P8 P9 P10 Q0 Q1 Q2 Q3 Q4 Q5 Q6 Q7 Q8 Q9 Q10; obtain ⟨Q0, Q1, Q2, Q3, Q4, Q5, Q6, Q7, Q8, Q9, Q10⟩ := Hand.Cz.c11 BQ9.out; obtain ⟨P0, P1, P2, P3, P4, P5, P6, P7, P8, P9, P10⟩ := Hand.Cz.c11 BK9.out; clear hb) | ((with_reducible refine gate_dst (N := 14) rfl ?_); refine box_event ?hg (N := 14) ?hd (cs := #[.int .u64 0, .int .u64 0, .int .u64 0, .int .i64 0]) (t := 57) ?hr ?_; (case hd => rfl); (case hg => rfl); (case hr => (go_simp; done)); intro gx hg wx hbox hb; have HGX := Aside0.mk (show w.heap.size ≤ gx from by rw [hg]; exact HB9.out.size); have HNX := Aside0.mk (show g1 ≠ gx from by have := blk_lt BK9.out; omega); have HBX := Aside0.mk (below_step HB9.out hb); have BKX := Aside0.mk (blk_below BK9.out hb); have BX := Aside0.mk hbox; clear hg hbox hb; obtain ⟨hx_0, hx_1, hx_2, hx_3⟩ := Hand.Cz.c4 BX.out; obtain ⟨hy_0, hy_1, hy_2, hy_3⟩ := Hand.Cz.f4 BX.out))
 generalize hWY : World.setCell _ (Addr.mk gx 3 none) _ = wy
 have BY := Aside0.mk (show wy.heap[gx]? = some (.cells #[.int .u64 tr, .int .u64 bn, .int .u64 bd, .int .i64 0] 57 (0, 0)) from by rw [← hWY]; exact Hand.Cz.p4 BX.out)
 have BKY := Aside0.mk (show wy.heap[g1]? = some (.cells #[.int .i64 4, .int .u64 tr, .int .u64 bn, .int .u64 bd, .int .u64 0, .int .u64 0, .int .i64 0, .bool false, .slice A8 ([] : List S76).length c8, .slice A9 ([] : List S92).length c9, .slice A10 ([] : List Int).length c10] 30 (0, 0)) from by rw [← hWY]; exact Hand.Cz.o4 BKX.out HNX.out)
 have HBY := Aside0.mk (show Below w.heap.size w wy from by rw [← hWY]; exact Hand.Cz.b4 HBX.out HGX.out)
 clear hWY hx_0 hx_1 hx_2 hx_3 hy_0 hy_1 hy_2 hy_3 P0 P1 P2 P3 P4 P5 P6 P7 P8 P9 P10 Q0 Q1 Q2 Q3 Q4 Q5 Q6 Q7 Q8 Q9 Q10
 obtain ⟨hx_0, hx_1, hx_2, hx_3⟩ := Hand.Cz.c4 BY.out
 obtain ⟨P0, P1, P2, P3, P4, P5, P6, P7, P8, P9, P10⟩ := Hand.Cz.c11 BKY.out
 go_wp2_with (go_at_call 15; refine (HA.out _ HBY.out).mono ?_; rintro e wz ⟨rfl, hb⟩; have HBZ := Aside0.mk (below_step HBY.out hb); clear hb)
 go_ret
 exact ⟨rfl, HBZ.out⟩
set_option maxHeartbeats 16000000 in
set_option maxRecDepth 100000 in
theorem things5 (tr bn bd sn sd v : Int) (ok : Bool) (A8 : Option Addr) (c8 : Nat) (l8 : List S76) (A9 : Option Addr) (c9 : Nat) (l9 : List S92) (A10 : Option Addr) (c10 : Nat) (l10 : List Int) (w : World)
  (hL : ∀ W, Below w.heap.size w W → Calls Try.prog 12 #[.agg #[.int .i64 5, .int .u64 tr, .int .u64 bn, .int .u64 bd, .int .u64 sn, .int .u64 sd, .int .i64 v, .bool ok, .slice A8 ([] : List S76).length c8, .slice A9 ([] : List S92).length c9, .slice A10 ([] : List Int).length c10]] W fun e w' => e = .returned (.bool true) ∧ Below W.heap.size W w')
  (hO : ∀ W, Below w.heap.size w W → Calls Try.prog 23 #[.agg #[.int .i64 5, .int .u64 tr, .int .u64 bn, .int .u64 bd, .int .u64 sn, .int .u64 sd, .int .i64 v, .bool ok, .slice A8 ([] : List S76).length c8, .slice A9 ([] : List S92).length c9, .slice A10 ([] : List Int).length c10]] W fun e w' => e = .returned (.tuple #[.iface 60 (.agg #[.int .u64 tr, .int .u64 bn, .int .u64 bd, .bool ok, .int .u64 sn, .int .u64 sd, .int .i64 v, .bool false]), .int .i64 0]) ∧ Below W.heap.size W w')
  (hRR : ∀ W, Below w.heap.size w W → Calls Try.prog 14 #[.agg #[.int .i64 5, .int .u64 tr, .int .u64 bn, .int .u64 bd, .int .u64 sn, .int .u64 sd, .int .i64 v, .bool ok, .slice A8 ([] : List S76).length c8, .slice A9 ([] : List S92).length c9, .slice A10 ([] : List Int).length c10]] W fun e w' => e = .returned (.int .i64 0) ∧ Below W.heap.size W w')
  (hP : ∀ W, Below w.heap.size w W → Calls Try.prog 24 #[.iface 60 (.agg #[.int .u64 tr, .int .u64 bn, .int .u64 bd, .bool ok, .int .u64 sn, .int .u64 sd, .int .i64 v, .bool false])] W fun e w' => ∃ v8 v9 v10 : Value, e = .returned (.tuple #[.agg #[.int .i64 5, .int .u64 tr, .int .u64 bn, .int .u64 bd, .int .u64 sn, .int .u64 sd, .int .i64 v, .bool ok, v8, v9, v10], .int .i64 0]) ∧ Kd.R k76 76 w' W.heap.size (fun _ => True) v8 ([] : List S76) ∧ Kd.R k92 92 w' W.heap.size (fun _ => True) v9 ([] : List S92) ∧ Kd.R (Kd.int .u64) 22 w' W.heap.size (fun _ => True) v10 ([] : List Int) ∧ Below W.heap.size W w')
  (hT : ∀ W, Below w.heap.size w W → Calls Try.prog 25 #[.iface 60 (.agg #[.int .u64 tr, .int .u64 bn, .int .u64 bd, .bool ok, .int .u64 sn, .int .u64 sd, .int .i64 v, .bool false])] W fun e w' => e = .returned (.tuple #[.int .u64 tr, .bool true]) ∧ Below W.heap.size W w')
  (hS : ∀ W v8 v9 v10, Below w.heap.size w W → Kd.R k76 76 W w.heap.size (fun _ => True) v8 ([] : List S76) → Kd.R k92 92 W w.heap.size (fun _ => True) v9 ([] : List S92) → Kd.R (Kd.int .u64) 22 W w.heap.size (fun _ => True) v10 ([] : List Int) → Calls Try.prog 21 #[.agg #[.int .i64 5, .int .u64 tr, .int .u64 bn, .int .u64 bd, .int .u64 sn, .int .u64 sd, .int .i64 v, .bool ok, .slice A8 ([] : List S76).length c8, .slice A9 ([] : List S92).length c9, .slice A10 ([] : List Int).length c10], .agg #[.int .i64 5, .int .u64 tr, .int .u64 bn, .int .u64 bd, .int .u64 sn, .int .u64 sd, .int .i64 v, .bool ok, v8, v9, v10]] W fun e w' => e = .returned (.bool true) ∧ Below W.heap.size W w')
  (hA : ∀ W, Below w.heap.size w W → Calls Try.prog 15 #[] W fun e w' => e = .returned (.bool true) ∧ Below W.heap.size W w') :
  Calls Try.prog 10 #[.agg #[.int .i64 5, .int .u64 tr, .int .u64 bn, .int .u64 bd, .int .u64 sn, .int .u64 sd, .int .i64 v, .bool ok, .slice A8 ([] : List S76).length c8, .slice A9 ([] : List S92).length c9, .slice A10 ([] : List Int).length c10]] w fun e w' => e = .returned (.bool true) ∧ Below w.heap.size w w' := by
 have hu30 := Try.underlying30; have hu24 := Try.underlying24; have hu51 := Try.underlying51; have hu54 := Try.underlying54; have hu57 := Try.underlying57; have hu60 := Try.underlying60; have hu63 := Try.underlying63; have hu66 := Try.underlying66; have hu69 := Try.underlying69
 have HL := Aside0.mk hL
 have HO := Aside0.mk hO
 have HRR := Aside0.mk hRR
 have HP := Aside0.mk hP
 have HT := Aside0.mk hT
 have HS := Aside0.mk hS
 have HA := Aside0.mk hA
 clear hL hO hRR hP hT hS hA
 go_enter Try.func10, Try.ntmps10
 go_wp2_with (first | ((with_reducible refine gate_dst (N := 1) rfl ?_); refine box_event ?hg (N := 1) ?hd (cs := #[.int .i64 5, .int .u64 tr, .int .u64 bn, .int .u64 bd, .int .u64 sn, .int .u64 sd, .int .i64 v, .bool ok, .slice A8 ([] : List S76).length c8, .slice A9 ([] : List S92).length c9, .slice A10 ([] : List Int).length c10]) (t := 30) ?hr ?_; (case hd => rfl); (case hg => rfl); (case hr => (go_simp; done)); intro g1 hg w1 hbox hb; have HG1 := Aside0.mk (show w.heap.size ≤ g1 from Nat.le_of_eq hg.symm); have HB1 := Aside0.mk hb; have BK1 := Aside0.mk hbox; clear hg hbox hb; obtain ⟨P0, P1, P2, P3, P4, P5, P6, P7, P8, P9, P10⟩ := Hand.Cz.c11 BK1.out) | (go_at_call 12; refine (HL.out _ HB1.out).mono ?_; rintro e w2 ⟨rfl, hb⟩; have BK2 := Aside0.mk (blk_below BK1.out hb); have HB2 := Aside0.mk (below_step HB1.out hb); clear P0 P1 P2 P3 P4 P5 P6 P7 P8 P9 P10; obtain ⟨P0, P1, P2, P3, P4, P5, P6, P7, P8, P9, P10⟩ := Hand.Cz.c11 BK2.out; clear hb) | (go_at_call 23; refine (HO.out _ HB2.out).mono ?_; rintro e w3 ⟨rfl, hb⟩; have BK3 := Aside0.mk (blk_below BK2.out hb); have HB3 := Aside0.mk (below_step HB2.out hb); clear P0 P1 P2 P3 P4 P5 P6 P7 P8 P9 P10; obtain ⟨P0, P1, P2, P3, P4, P5, P6, P7, P8, P9, P10⟩ := Hand.Cz.c11 BK3.out; clear hb) | (go_at_call 14; refine (HRR.out _ HB3.out).mono ?_; rintro e w4 ⟨rfl, hb⟩; have BK4 := Aside0.mk (blk_below BK3.out hb); have HB4 := Aside0.mk (below_step HB3.out hb); clear P0 P1 P2 P3 P4 P5 P6 P7 P8 P9 P10; obtain ⟨P0, P1, P2, P3, P4, P5, P6, P7, P8, P9, P10⟩ := Hand.Cz.c11 BK4.out; clear hb))
 refine (HP.out _ HB4.out).mono ?_
 rintro e w5 ⟨v8, v9, v10, rfl, r8, r9, r10, hb⟩
 obtain ⟨B8, d8, rfl⟩ := Kd.R_slice r8
 have R85 := Aside0.mk (Kd.R_lower r8 HB4.out.size)
 obtain ⟨B9, d9, rfl⟩ := Kd.R_slice r9
 have R95 := Aside0.mk (Kd.R_lower r9 HB4.out.size)
 obtain ⟨B10, d10, rfl⟩ := Kd.R_slice r10
 have R105 := Aside0.mk (Kd.R_lower r10 HB4.out.size)
 have BK5 := Aside0.mk (blk_below BK4.out hb)
 have HB5 := Aside0.mk (below_step HB4.out hb)
 clear r8 r9 r10 hb P0 P1 P2 P3 P4 P5 P6 P7 P8 P9 P10
 go_upto_region 7 with ((with_reducible refine gate_dst (N := 5) rfl ?_); refine box_event ?hg (N := 5) ?hd (cs := #[.int .i64 0, .int .u64 0, .int .u64 0, .int .u64 0, .int .u64 0, .int .u64 0, .int .i64 0, .bool false, .slice none 0 0, .slice none 0 0, .slice none 0 0]) (t := 30) ?hr ?_; (case hd => rfl); (case hg => rfl); (case hr => (go_simp; done)); intro g5 hg w6 hbox hb; have HG5 := Aside0.mk (show w.heap.size ≤ g5 from by rw [hg]; exact HB5.out.size); have HGG := Aside0.mk (show w5.heap.size ≤ g5 from Nat.le_of_eq hg.symm); have HNE := Aside0.mk (show g1 ≠ g5 from by have := blk_lt BK5.out; omega); have HB6 := Aside0.mk (below_step HB5.out hb); have HBB := Aside0.mk hb; have BK6 := Aside0.mk (blk_below BK5.out hb); have R86 := Aside0.mk (Kd.R_below R85.out hb); have R96 := Aside0.mk (Kd.R_below R95.out hb); have R106 := Aside0.mk (Kd.R_below R105.out hb); have BQ6 := Aside0.mk hbox; clear hg hbox hb; obtain ⟨Q0, Q1, Q2, Q3, Q4, Q5, Q6, Q7, Q8, Q9, Q10⟩ := Hand.Cz.c11 BQ6.out; obtain ⟨F0, F1, F2, F3, F4, F5, F6, F7, F8, F9, F10⟩ := Hand.Cz.f11 BQ6.out)
 generalize hW7 : World.setCell _ (Addr.mk g5 10 none) _ = w7
 have BQ7 := Aside0.mk (show w7.heap[g5]? = some (.cells #[.int .i64 5, .int .u64 tr, .int .u64 bn, .int .u64 bd, .int .u64 sn, .int .u64 sd, .int .i64 v, .bool ok, .slice B8 ([] : List S76).length d8, .slice B9 ([] : List S92).length d9, .slice B10 ([] : List Int).length d10] 30 (0, 0)) from by rw [← hW7]; exact Hand.Cz.p11 BQ6.out)
 have BK7 := Aside0.mk (show w7.heap[g1]? = some (.cells #[.int .i64 5, .int .u64 tr, .int .u64 bn, .int .u64 bd, .int .u64 sn, .int .u64 sd, .int .i64 v, .bool ok, .slice A8 ([] : List S76).length c8, .slice A9 ([] : List S92).length c9, .slice A10 ([] : List Int).length c10] 30 (0, 0)) from by rw [← hW7]; exact Hand.Cz.o11 BK6.out HNE.out)
 have HB7 := Aside0.mk (show Below w.heap.size w w7 from by rw [← hW7]; exact Hand.Cz.b11 HB6.out HG5.out)
 have R87 := Aside0.mk (show Kd.R k76 76 w7 w.heap.size (fun k => k ≠ g5) (.slice B8 ([] : List S76).length d8) ([] : List S76) from by rw [← hW7]; exact Hand.Cz.r11 (Kd.R_mono (Kd.R_types R86.out BQ6.out (by decide)) (fun _ hk => hk.2)))
 have R97 := Aside0.mk (show Kd.R k92 92 w7 w.heap.size (fun k => k ≠ g5) (.slice B9 ([] : List S92).length d9) ([] : List S92) from by rw [← hW7]; exact Hand.Cz.r11 (Kd.R_mono (Kd.R_types R96.out BQ6.out (by decide)) (fun _ hk => hk.2)))
 have R107 := Aside0.mk (show Kd.R (Kd.int .u64) 22 w7 w.heap.size (fun k => k ≠ g5) (.slice B10 ([] : List Int).length d10) ([] : List Int) from by rw [← hW7]; exact Hand.Cz.r11 (Kd.R_mono (Kd.R_types R106.out BQ6.out (by decide)) (fun _ hk => hk.2)))
 clear hW7 Q0 Q1 Q2 Q3 Q4 Q5 Q6 Q7 Q8 Q9 Q10 F0 F1 F2 F3 F4 F5 F6 F7 F8 F9 F10 BQ6 BK6 HB6 HBB R86 R96 R106 R85 R95 R105
 obtain ⟨Q0, Q1, Q2, Q3, Q4, Q5, Q6, Q7, Q8, Q9, Q10⟩ := Hand.Cz.c11 BQ7.out
 obtain ⟨P0, P1, P2, P3, P4, P5, P6, P7, P8, P9, P10⟩ := Hand.Cz.c11 BK7.out
 have hta : ∀ W, (Instr.typeAssert (.iface 60 (.agg #[.int .u64 tr, .int .u64 bn, .int .u64 bd, .bool ok, .int .u64 sn, .int .u64 sd, .int .i64 v, .bool false])) 20 60 true).run Try.prog W = .ok (.tuple #[.agg #[.int .u64 tr, .int .u64 bn, .int .u64 bd, .bool ok, .int .u64 sn, .int .u64 sd, .int .i64 v, .bool false], .bool true]) W := fun W => by kernel_rfl
 go_upto_region 26 with (first | (go_at_call 25; refine (HT.out _ HB7.out).mono ?_; rintro e w8 ⟨rfl, hb⟩; have BQ8 := Aside0.mk (blk_below BQ7.out hb); have BK8 := Aside0.mk (blk_below BK7.out hb); have HB8 := Aside0.mk (below_step HB7.out hb); clear P0 P1 P2 P3 P4 P5 P6 P7 P8 P9 P10 Q0 Q1 Q2 Q3 Q4 Q5 Q6 Q7 Q8 Q9 Q10; obtain ⟨Q0, Q1, Q2, Q3, Q4, Q5, Q6, Q7, Q8, Q9, Q10⟩ := Hand.Cz.c11 BQ8.out; obtain ⟨P0, P1, P2, P3, P4, P5, P6, P7, P8, P9, P10⟩ := Hand.Cz.c11 BK8.out; have R88 := Aside0.mk (Kd.R_below R87.out hb); have R98 := Aside0.mk (Kd.R_below R97.out hb); have R108 := Aside0.mk (Kd.R_below R107.out hb); clear hb) | (go_at_call 21; refine (HS.out _ _ _ _ HB8.out (Kd.R_mono R88.out (fun _ _ => trivial)) (Kd.R_mono R98.out (fun _ _ => trivial)) (Kd.R_mono R108.out (fun _ _ => trivial))).mono ?_; rintro e w9 ⟨rfl, hb⟩; have BQ9 := Aside0.mk (blk_below BQ8.out hb); have BK9 := Aside0.mk (blk_below BK8.out hb); have HB9 := Aside0.mk (below_step HB8.out hb); clear P0 P1 P2 P3 P4 P5 P6 P7 P8 P9 P10 Q0 Q1 Q2 Q3 Q4 Q5 Q6 Q7 Q8 Q9 Q10; obtain ⟨Q0, Q1, Q2, Q3, Q4, Q5, Q6, Q7, Q8, Q9, Q10⟩ := Hand.Cz.c11 BQ9.out; obtain ⟨P0, P1, P2, P3, P4, P5, P6, P7, P8, P9, P10⟩ := Hand.Cz.c11 BK9.out; clear hb) | ((with_reducible refine gate_dst (N := 16) rfl ?_); refine box_event ?hg (N := 16) ?hd (cs := #[.int .u64 0, .int .u64 0, .int .u64 0, .bool false, .int .u64 0, .int .u64 0, .int .i64 0, .bool false]) (t := 60) ?hr ?_; (case hd => rfl); (case hg => rfl); (case hr => (go_simp; done)); intro gx hg wx hbox hb; have HGX := Aside0.mk (show w.heap.size ≤ gx from by rw [hg]; exact HB9.out.size); have HNX := Aside0.mk (show g1 ≠ gx from by have := blk_lt BK9.out; omega); have HBX := Aside0.mk (below_step HB9.out hb); have BKX := Aside0.mk (blk_below BK9.out hb); have BX := Aside0.mk hbox; clear hg hbox hb; obtain ⟨hx_0, hx_1, hx_2, hx_3, hx_4, hx_5, hx_6, hx_7⟩ := Hand.Cz.c8 BX.out; obtain ⟨hy_0, hy_1, hy_2, hy_3, hy_4, hy_5, hy_6, hy_7⟩ := Hand.Cz.f8 BX.out))
 generalize hWY : World.setCell _ (Addr.mk gx 7 none) _ = wy
 have BY := Aside0.mk (show wy.heap[gx]? = some (.cells #[.int .u64 tr, .int .u64 bn, .int .u64 bd, .bool ok, .int .u64 sn, .int .u64 sd, .int .i64 v, .bool false] 60 (0, 0)) from by rw [← hWY]; exact Hand.Cz.p8 BX.out)
 have BKY := Aside0.mk (show wy.heap[g1]? = some (.cells #[.int .i64 5, .int .u64 tr, .int .u64 bn, .int .u64 bd, .int .u64 sn, .int .u64 sd, .int .i64 v, .bool ok, .slice A8 ([] : List S76).length c8, .slice A9 ([] : List S92).length c9, .slice A10 ([] : List Int).length c10] 30 (0, 0)) from by rw [← hWY]; exact Hand.Cz.o8 BKX.out HNX.out)
 have HBY := Aside0.mk (show Below w.heap.size w wy from by rw [← hWY]; exact Hand.Cz.b8 HBX.out HGX.out)
 clear hWY hx_0 hx_1 hx_2 hx_3 hx_4 hx_5 hx_6 hx_7 hy_0 hy_1 hy_2 hy_3 hy_4 hy_5 hy_6 hy_7 P0 P1 P2 P3 P4 P5 P6 P7 P8 P9 P10 Q0 Q1 Q2 Q3 Q4 Q5 Q6 Q7 Q8 Q9 Q10
 obtain ⟨hx_0, hx_1, hx_2, hx_3, hx_4, hx_5, hx_6, hx_7⟩ := Hand.Cz.c8 BY.out
 obtain ⟨P0, P1, P2, P3, P4, P5, P6, P7, P8, P9, P10⟩ := Hand.Cz.c11 BKY.out
 go_wp2_with (go_at_call 15; refine (HA.out _ HBY.out).mono ?_; rintro e wz ⟨rfl, hb⟩; have HBZ := Aside0.mk (below_step HBY.out hb); clear hb)
 go_ret
 exact ⟨rfl, HBZ.out⟩
set_option maxHeartbeats 16000000 in
set_option maxRecDepth 100000 in
theorem things6 (tr bn bd sn sd v : Int) (ok : Bool) (A8 : Option Addr) (c8 : Nat) (l8 : List S76) (A9 : Option Addr) (c9 : Nat) (l9 : List S92) (A10 : Option Addr) (c10 : Nat) (l10 : List Int) (w : World)
  (hL : ∀ W, Below w.heap.size w W → Calls Try.prog 12 #[.agg #[.int .i64 6, .int .u64 tr, .int .u64 bn, .int .u64 bd, .int .u64 0, .int .u64 0, .int .i64 v, .bool false, .slice A8 ([] : List S76).length c8, .slice A9 ([] : List S92).length c9, .slice A10 ([] : List Int).length c10]] W fun e w' => e = .returned (.bool true) ∧ Below W.heap.size W w')
  (hO : ∀ W, Below w.heap.size w W → Calls Try.prog 23 #[.agg #[.int .i64 6, .int .u64 tr, .int .u64 bn, .int .u64 bd, .int .u64 0, .int .u64 0, .int .i64 v, .bool false, .slice A8 ([] : List S76).length c8, .slice A9 ([] : List S92).length c9, .slice A10 ([] : List Int).length c10]] W fun e w' => e = .returned (.tuple #[.iface 57 (.agg #[.int .u64 tr, .int .u64 bn, .int .u64 bd, .int .i64 v]), .int .i64 0]) ∧ Below W.heap.size W w')
  (hRR : ∀ W, Below w.heap.size w W → Calls Try.prog 14 #[.agg #[.int .i64 6, .int .u64 tr, .int .u64 bn, .int .u64 bd, .int .u64 0, .int .u64 0, .int .i64 v, .bool false, .slice A8 ([] : List S76).length c8, .slice A9 ([] : List S92).length c9, .slice A10 ([] : List Int).length c10]] W fun e w' => e = .returned (.int .i64 0) ∧ Below W.heap.size W w')
  (hP : ∀ W, Below w.heap.size w W → Calls Try.prog 24 #[.iface 57 (.agg #[.int .u64 tr, .int .u64 bn, .int .u64 bd, .int .i64 v])] W fun e w' => ∃ v8 v9 v10 : Value, e = .returned (.tuple #[.agg #[.int .i64 6, .int .u64 tr, .int .u64 bn, .int .u64 bd, .int .u64 0, .int .u64 0, .int .i64 v, .bool false, v8, v9, v10], .int .i64 0]) ∧ Kd.R k76 76 w' W.heap.size (fun _ => True) v8 ([] : List S76) ∧ Kd.R k92 92 w' W.heap.size (fun _ => True) v9 ([] : List S92) ∧ Kd.R (Kd.int .u64) 22 w' W.heap.size (fun _ => True) v10 ([] : List Int) ∧ Below W.heap.size W w')
  (hT : ∀ W, Below w.heap.size w W → Calls Try.prog 25 #[.iface 57 (.agg #[.int .u64 tr, .int .u64 bn, .int .u64 bd, .int .i64 v])] W fun e w' => e = .returned (.tuple #[.int .u64 tr, .bool true]) ∧ Below W.heap.size W w')
  (hS : ∀ W v8 v9 v10, Below w.heap.size w W → Kd.R k76 76 W w.heap.size (fun _ => True) v8 ([] : List S76) → Kd.R k92 92 W w.heap.size (fun _ => True) v9 ([] : List S92) → Kd.R (Kd.int .u64) 22 W w.heap.size (fun _ => True) v10 ([] : List Int) → Calls Try.prog 21 #[.agg #[.int .i64 6, .int .u64 tr, .int .u64 bn, .int .u64 bd, .int .u64 0, .int .u64 0, .int .i64 v, .bool false, .slice A8 ([] : List S76).length c8, .slice A9 ([] : List S92).length c9, .slice A10 ([] : List Int).length c10], .agg #[.int .i64 6, .int .u64 tr, .int .u64 bn, .int .u64 bd, .int .u64 0, .int .u64 0, .int .i64 v, .bool false, v8, v9, v10]] W fun e w' => e = .returned (.bool true) ∧ Below W.heap.size W w')
  (hA : ∀ W, Below w.heap.size w W → Calls Try.prog 15 #[] W fun e w' => e = .returned (.bool true) ∧ Below W.heap.size W w') :
  Calls Try.prog 10 #[.agg #[.int .i64 6, .int .u64 tr, .int .u64 bn, .int .u64 bd, .int .u64 0, .int .u64 0, .int .i64 v, .bool false, .slice A8 ([] : List S76).length c8, .slice A9 ([] : List S92).length c9, .slice A10 ([] : List Int).length c10]] w fun e w' => e = .returned (.bool true) ∧ Below w.heap.size w w' := by
 have hu30 := Try.underlying30; have hu24 := Try.underlying24; have hu51 := Try.underlying51; have hu54 := Try.underlying54; have hu57 := Try.underlying57; have hu60 := Try.underlying60; have hu63 := Try.underlying63; have hu66 := Try.underlying66; have hu69 := Try.underlying69
 have HL := Aside0.mk hL
 have HO := Aside0.mk hO
 have HRR := Aside0.mk hRR
 have HP := Aside0.mk hP
 have HT := Aside0.mk hT
 have HS := Aside0.mk hS
 have HA := Aside0.mk hA
 clear hL hO hRR hP hT hS hA
 go_enter Try.func10, Try.ntmps10
 go_wp2_with (first | ((with_reducible refine gate_dst (N := 1) rfl ?_); refine box_event ?hg (N := 1) ?hd (cs := #[.int .i64 6, .int .u64 tr, .int .u64 bn, .int .u64 bd, .int .u64 0, .int .u64 0, .int .i64 v, .bool false, .slice A8 ([] : List S76).length c8, .slice A9 ([] : List S92).length c9, .slice A10 ([] : List Int).length c10]) (t := 30) ?hr ?_; (case hd => rfl); (case hg => rfl); (case hr => (go_simp; done)); intro g1 hg w1 hbox hb; have HG1 := Aside0.mk (show w.heap.size ≤ g1 from Nat.le_of_eq hg.symm); have HB1 := Aside0.mk hb; have BK1 := Aside0.mk hbox; clear hg hbox hb; obtain ⟨P0, P1, P2, P3, P4, P5, P6, P7, P8, P9, P10⟩ := Hand.Cz.c11 BK1.out) | (go_at_call 12; refine (HL.out _ HB1.out).mono ?_; rintro e w2 ⟨rfl, hb⟩; have BK2 := Aside0.mk (blk_below BK1.out hb); have HB2 := Aside0.mk (below_step HB1.out hb); clear P0 P1 P2 P3 P4 P5 P6 P7 P8 P9 P10; obtain ⟨P0, P1, P2, P3, P4, P5, P6, P7, P8, P9, P10⟩ := Hand.Cz.c11 BK2.out; clear hb) | (go_at_call 23; refine (HO.out _ HB2.out).mono ?_; rintro e w3 ⟨rfl, hb⟩; have BK3 := Aside0.mk (blk_below BK2.out hb); have HB3 := Aside0.mk (below_step HB2.out hb); clear P0 P1 P2 P3 P4 P5 P6 P7 P8 P9 P10; obtain ⟨P0, P1, P2, P3, P4, P5, P6, P7, P8, P9, P10⟩ := Hand.Cz.c11 BK3.out; clear hb) | (go_at_call 14; refine (HRR.out _ HB3.out).mono ?_; rintro e w4 ⟨rfl, hb⟩; have BK4 := Aside0.mk (blk_below BK3.out hb); have HB4 := Aside0.mk (below_step HB3.out hb); clear P0 P1 P2 P3 P4 P5 P6 P7 P8 P9 P10; obtain ⟨P0, P1, P2, P3, P4, P5, P6, P7, P8, P9, P10⟩ := Hand.Cz.c11 BK4.out; clear hb))
 refine (HP.out _ HB4.out).mono ?_
 rintro e w5 ⟨v8, v9, v10, rfl, r8, r9, r10, hb⟩
 obtain ⟨B8, d8, rfl⟩ := Kd.R_slice r8
 have R85 := Aside0.mk (Kd.R_lower r8 HB4.out.size)
 obtain ⟨B9, d9, rfl⟩ := Kd.R_slice r9
 have R95 := Aside0.mk (Kd.R_lower r9 HB4.out.size)
 obtain ⟨B10, d10, rfl⟩ := Kd.R_slice r10
 have R105 := Aside0.mk (Kd.R_lower r10 HB4.out.size)
 have BK5 := Aside0.mk (blk_below BK4.out hb)
 have HB5 := Aside0.mk (below_step HB4.out hb)
 clear r8 r9 r10 hb P0 P1 P2 P3 P4 P5 P6 P7 P8 P9 P10
 go_upto_region 7 with ((with_reducible refine gate_dst (N := 5) rfl ?_); refine box_event ?hg (N := 5) ?hd (cs := #[.int .i64 0, .int .u64 0, .int .u64 0, .int .u64 0, .int .u64 0, .int .u64 0, .int .i64 0, .bool false, .slice none 0 0, .slice none 0 0, .slice none 0 0]) (t := 30) ?hr ?_; (case hd => rfl); (case hg => rfl); (case hr => (go_simp; done)); intro g5 hg w6 hbox hb; have HG5 := Aside0.mk (show w.heap.size ≤ g5 from by rw [hg]; exact HB5.out.size); have HGG := Aside0.mk (show w5.heap.size ≤ g5 from Nat.le_of_eq hg.symm); have HNE := Aside0.mk (show g1 ≠ g5 from by have := blk_lt BK5.out; omega); have HB6 := Aside0.mk (below_step HB5.out hb); have HBB := Aside0.mk hb; have BK6 := Aside0.mk (blk_below BK5.out hb); have R86 := Aside0.mk (Kd.R_below R85.out hb); have R96 := Aside0.mk (Kd.R_below R95.out hb); have R106 := Aside0.mk (Kd.R_below R105.out hb); have BQ6 := Aside0.mk hbox; clear hg hbox hb; obtain ⟨Q0, Q1, Q2, Q3, Q4, Q5, Q6, Q7, Q8, Q9, Q10⟩ := Hand.Cz.c11 BQ6.out; obtain ⟨F0, F1, F2, F3, F4, F5, F6, F7, F8, F9, F10⟩ := Hand.Cz.f11 BQ6.out)
 generalize hW7 : World.setCell _ (Addr.mk g5 10 none) _ = w7
 have BQ7 := Aside0.mk (show w7.heap[g5]? = some (.cells #[.int .i64 6, .int .u64 tr, .int .u64 bn, .int .u64 bd, .int .u64 0, .int .u64 0, .int .i64 v, .bool false, .slice B8 ([] : List S76).length d8, .slice B9 ([] : List S92).length d9, .slice B10 ([] : List Int).length d10] 30 (0, 0)) from by rw [← hW7]; exact Hand.Cz.p11 BQ6.out)
 have BK7 := Aside0.mk (show w7.heap[g1]? = some (.cells #[.int .i64 6, .int .u64 tr, .int .u64 bn, .int .u64 bd, .int .u64 0, .int .u64 0, .int .i64 v, .bool false, .slice A8 ([] : List S76).length c8, .slice A9 ([] : List S92).length c9, .slice A10 ([] : List Int).length c10] 30 (0, 0)) from by rw [← hW7]; exact Hand.Cz.o11 BK6.out HNE.out)
 have HB7 := Aside0.mk (show Below w.heap.size w w7 from by rw [← hW7]; exact Hand.Cz.b11 HB6.out HG5.out)
 have R87 := Aside0.mk (show Kd.R k76 76 w7 w.heap.size (fun k => k ≠ g5) (.slice B8 ([] : List S76).length d8) ([] : List S76) from by rw [← hW7]; exact Hand.Cz.r11 (Kd.R_mono (Kd.R_types R86.out BQ6.out (by decide)) (fun _ hk => hk.2)))
 have R97 := Aside0.mk (show Kd.R k92 92 w7 w.heap.size (fun k => k ≠ g5) (.slice B9 ([] : List S92).length d9) ([] : List S92) from by rw [← hW7]; exact Hand.Cz.r11 (Kd.R_mono (Kd.R_types R96.out BQ6.out (by decide)) (fun _ hk => hk.2)))
 have R107 := Aside0.mk (show Kd.R (Kd.int .u64) 22 w7 w.heap.size (fun k => k ≠ g5) (.slice B10 ([] : List Int).length d10) ([] : List Int) from by rw [← hW7]; exact Hand.Cz.r11 (Kd.R_mono (Kd.R_types R106.out BQ6.out (by decide)) (fun _ hk => hk.2)))
 clear hW7 Q0 Q1 Q2 Q3 Q4 Q5 Q6 Q7 Q8 Q9 Q10 F0 F1 F2 F3 F4 F5 F6 F7 F8 F9 F10 BQ6 BK6 HB6 HBB R86 R96 R106 R85 R95 R105
 obtain ⟨Q0, Q1, Q2, Q3, Q4, Q5, Q6, Q7, Q8, Q9, Q10⟩ := Hand.Cz.c11 BQ7.out
 obtain ⟨P0, P1, P2, P3, P4, P5, P6, P7, P8, P9, P10⟩ := Hand.Cz.c11 BK7.out
 have hta : ∀ W, (Instr.typeAssert (.iface 57 (.agg #[.int .u64 tr, .int .u64 bn, .int .u64 bd, .int .i64 v])) 20 57 true).run Try.prog W = .ok (.tuple #[.agg #[.int .u64 tr, .int .u64 bn, .int .u64 bd, .int .i64 v], .bool true]) W := fun W => by kernel_rfl
 go_upto_region 22 with (first | (go_at_call 25; refine (HT.out _ HB7.out).mono ?_; rintro e w8 ⟨rfl, hb⟩; have BQ8 := Aside0.mk (blk_below BQ7.out hb); have BK8 := Aside0.mk (blk_below BK7.out hb); have HB8 := Aside0.mk (below_step HB7.out hb); clear P0 P1 P2 P3 P4 P5 P6 P7 P8 P9 P10 Q0 Q1 Q2 Q3 Q4 Q5 Q6 Q7 Q8 Q9 Q10; obtain ⟨Q0, Q1, Q2, Q3, Q4, Q5, Q6, Q7, Q8, Q9, Q10⟩ := Hand.Cz.c11 BQ8.out; obtain ⟨P0, P1, P2, P3, P4, P5, P6, P7, P8, P9, P10⟩ := Hand.Cz.c11 BK8.out; have R88 := Aside0.mk (Kd.R_below R87.out hb); have R98 := Aside0.mk (Kd.R_below R97.out hb); have R108 := Aside0.mk (Kd.R_below R107.out hb); clear hb) | (go_at_call 21; refine (HS.out _ _ _ _ HB8.out (Kd.R_mono R88.out (fun _ _ => trivial)) (Kd.R_mono R98.out (fun _ _ => trivial)) (Kd.R_mono R108.out (fun _ _ => trivial))).mono ?_; rintro e w9 ⟨rfl, hb⟩; have BQ9 := Aside0.mk (blk_below BQ8.out hb); have BK9 := Aside0.mk (blk_below BK8.out hb); have HB9 := Aside0.mk (below_step HB8.out hb); clear P0 P1 P2 P3 P4 P5 P6 P7 P8 P9 P10 Q0 Q1 Q2 Q3 Q4 Q5 Q6 Q7 Q8 Q9 Q10; obtain ⟨Q0, Q1, Q2, Q3, Q4, Q5, Q6, Q7, Q8, Q9, Q10⟩ := Hand.Cz.c11 BQ9.out; obtain ⟨P0, P1, P2, P3, P4, P5, P6, P7, P8, P9, P10⟩ := Hand.Cz.c11 BK9.out; clear hb) | ((with_reducible refine gate_dst (N := 14) rfl ?_); refine box_event ?hg (N := 14) ?hd (cs := #[.int .u64 0, .int .u64 0, .int .u64 0, .int .i64 0]) (t := 57) ?hr ?_; (case hd => rfl); (case hg => rfl); (case hr => (go_simp; done)); intro gx hg wx hbox hb; have HGX := Aside0.mk (show w.heap.size ≤ gx from by rw [hg]; exact HB9.out.size); have HNX := Aside0.mk (show g1 ≠ gx from by have := blk_lt BK9.out; omega); have HBX := Aside0.mk (below_step HB9.out hb); have BKX := Aside0.mk (blk_below BK9.out hb); have BX := Aside0.mk hbox; clear hg hbox hb; obtain ⟨hx_0, hx_1, hx_2, hx_3⟩ := Hand.Cz.c4 BX.out; obtain ⟨hy_0, hy_1, hy_2, hy_3⟩ := Hand.Cz.f4 BX.out))
 generalize hWY : World.setCell _ (Addr.mk gx 3 none) _ = wy
 have BY := Aside0.mk (show wy.heap[gx]? = some (.cells #[.int .u64 tr, .int .u64 bn, .int .u64 bd, .int .i64 v] 57 (0, 0)) from by rw [← hWY]; exact Hand.Cz.p4 BX.out)
 have BKY := Aside0.mk (show wy.heap[g1]? = some (.cells #[.int .i64 6, .int .u64 tr, .int .u64 bn, .int .u64 bd, .int .u64 0, .int .u64 0, .int .i64 v, .bool false, .slice A8 ([] : List S76).length c8, .slice A9 ([] : List S92).length c9, .slice A10 ([] : List Int).length c10] 30 (0, 0)) from by rw [← hWY]; exact Hand.Cz.o4 BKX.out HNX.out)
 have HBY := Aside0.mk (show Below w.heap.size w wy from by rw [← hWY]; exact Hand.Cz.b4 HBX.out HGX.out)
 clear hWY hx_0 hx_1 hx_2 hx_3 hy_0 hy_1 hy_2 hy_3 P0 P1 P2 P3 P4 P5 P6 P7 P8 P9 P10 Q0 Q1 Q2 Q3 Q4 Q5 Q6 Q7 Q8 Q9 Q10
 obtain ⟨hx_0, hx_1, hx_2, hx_3⟩ := Hand.Cz.c4 BY.out
 obtain ⟨P0, P1, P2, P3, P4, P5, P6, P7, P8, P9, P10⟩ := Hand.Cz.c11 BKY.out
 go_wp2_with (go_at_call 15; refine (HA.out _ HBY.out).mono ?_; rintro e wz ⟨rfl, hb⟩; have HBZ := Aside0.mk (below_step HBY.out hb); clear hb)
 go_ret
 exact ⟨rfl, HBZ.out⟩
set_option maxHeartbeats 16000000 in
set_option maxRecDepth 100000 in
theorem things7 (tr bn bd sn sd v : Int) (ok : Bool) (A8 : Option Addr) (c8 : Nat) (l8 : List S76) (A9 : Option Addr) (c9 : Nat) (l9 : List S92) (A10 : Option Addr) (c10 : Nat) (l10 : List Int) (w : World)
  (hL : ∀ W, Below w.heap.size w W → Calls Try.prog 12 #[.agg #[.int .i64 7, .int .u64 tr, .int .u64 bn, .int .u64 bd, .int .u64 sn, .int .u64 sd, .int .i64 0, .bool ok, .slice A8 ([] : List S76).length c8, .slice A9 ([] : List S92).length c9, .slice A10 ([] : List Int).length c10]] W fun e w' => e = .returned (.bool true) ∧ Below W.heap.size W w')
  (hO : ∀ W, Below w.heap.size w W → Calls Try.prog 23 #[.agg #[.int .i64 7, .int .u64 tr, .int .u64 bn, .int .u64 bd, .int .u64 sn, .int .u64 sd, .int .i64 0, .bool ok, .slice A8 ([] : List S76).length c8, .slice A9 ([] : List S92).length c9, .slice A10 ([] : List Int).length c10]] W fun e w' => e = .returned (.tuple #[.iface 60 (.agg #[.int .u64 tr, .int .u64 bn, .int .u64 bd, .bool ok, .int .u64 sn, .int .u64 sd, .int .i64 0, .bool true]), .int .i64 0]) ∧ Below W.heap.size W w')
  (hRR : ∀ W, Below w.heap.size w W → Calls Try.prog 14 #[.agg #[.int .i64 7, .int .u64 tr, .int .u64 bn, .int .u64 bd, .int .u64 sn, .int .u64 sd, .int .i64 0, .bool ok, .slice A8 ([] : List S76).length c8, .slice A9 ([] : List S92).length c9, .slice A10 ([] : List Int).length c10]] W fun e w' => e = .returned (.int .i64 0) ∧ Below W.heap.size W w')
  (hP : ∀ W, Below w.heap.size w W → Calls Try.prog 24 #[.iface 60 (.agg #[.int .u64 tr, .int .u64 bn, .int .u64 bd, .bool ok, .int .u64 sn, .int .u64 sd, .int .i64 0, .bool true])] W fun e w' => ∃ v8 v9 v10 : Value, e = .returned (.tuple #[.agg #[.int .i64 7, .int .u64 tr, .int .u64 bn, .int .u64 bd, .int .u64 sn, .int .u64 sd, .int .i64 0, .bool ok, v8, v9, v10], .int .i64 0]) ∧ Kd.R k76 76 w' W.heap.size (fun _ => True) v8 ([] : List S76) ∧ Kd.R k92 92 w' W.heap.size (fun _ => True) v9 ([] : List S92) ∧ Kd.R (Kd.int .u64) 22 w' W.heap.size (fun _ => True) v10 ([] : List Int) ∧ Below W.heap.size W w')
  (hT : ∀ W, Below w.heap.size w W → Calls Try.prog 25 #[.iface 60 (.agg #[.int .u64 tr, .int .u64 bn, .int .u64 bd, .bool ok, .int .u64 sn, .int .u64 sd, .int .i64 0, .bool true])] W fun e w' => e = .returned (.tuple #[.int .u64 tr, .bool true]) ∧ Below W.heap.size W w')
  (hS : ∀ W v8 v9 v10, Below w.heap.size w W → Kd.R k76 76 W w.heap.size (fun _ => True) v8 ([] : List S76) → Kd.R k92 92 W w.heap.size (fun _ => True) v9 ([] : List S92) → Kd.R (Kd.int .u64) 22 W w.heap.size (fun _ => True) v10 ([] : List Int) → Calls Try.prog 21 #[.agg #[.int .i64 7, .int .u64 tr, .int .u64 bn, .int .u64 bd, .int .u64 sn, .int .u64 sd, .int .i64 0, .bool ok, .slice A8 ([] : List S76).length c8, .slice A9 ([] : List S92).length c9, .slice A10 ([] : List Int).length c10], .agg #[.int .i64 7, .int .u64 tr, .int .u64 bn, .int .u64 bd, .int .u64 sn, .int .u64 sd, .int .i64 0, .bool ok, v8, v9, v10]] W fun e w' => e = .returned (.bool true) ∧ Below W.heap.size W w')
  (hA : ∀ W, Below w.heap.size w W → Calls Try.prog 15 #[] W fun e w' => e = .returned (.bool true) ∧ Below W.heap.size W w') :
  Calls Try.prog 10 #[.agg #[.int .i64 7, .int .u64 tr, .int .u64 bn, .int .u64 bd, .int .u64 sn, .int .u64 sd, .int .i64 0, .bool ok, .slice A8 ([] : List S76).length c8, .slice A9 ([] : List S92).length c9, .slice A10 ([] : List Int).length c10]] w fun e w' => e = .returned (.bool true) ∧ Below w.heap.size w w' := by
 have hu30 := Try.underlying30; have hu24 := Try.underlying24; have hu51 := Try.underlying51; have hu54 := Try.underlying54; have hu57 := Try.underlying57; have hu60 := Try.underlying60; have hu63 := Try.underlying63; have hu66 := Try.underlying66; have hu69 := Try.underlying69
 have HL := Aside0.mk hL
 have HO := Aside0.mk hO
 have HRR := Aside0.mk hRR
 have HP := Aside0.mk hP
 have HT := Aside0.mk hT
 have HS := Aside0.mk hS
 have HA := Aside0.mk hA
 clear hL hO hRR hP hT hS hA
 go_enter Try.func10, Try.ntmps10
 go_wp2_with (first | ((with_reducible refine gate_dst (N := 1) rfl ?_); refine box_event ?hg (N := 1) ?hd (cs := #[.int .i64 7, .int .u64 tr, .int .u64 bn, .int .u64 bd, .int .u64 sn, .int .u64 sd, .int .i64 0, .bool ok, .slice A8 ([] : List S76).length c8, .slice A9 ([] : List S92).length c9, .slice A10 ([] : List Int).length c10]) (t := 30) ?hr ?_; (case hd => rfl); (case hg => rfl); (case hr => (go_simp; done)); intro g1 hg w1 hbox hb; have HG1 := Aside0.mk (show w.heap.size ≤ g1 from Nat.le_of_eq hg.symm); have HB1 := Aside0.mk hb; have BK1 := Aside0.mk hbox; clear hg hbox hb; obtain ⟨P0, P1, P2, P3, P4, P5, P6, P7, P8, P9, P10⟩ := Hand.Cz.c11 BK1.out) | (go_at_call 12; refine (HL.out _ HB1.out).mono ?_; rintro e w2 ⟨rfl, hb⟩; have BK2 := Aside0.mk (blk_below BK1.out hb); have HB2 := Aside0.mk (below_step HB1.out hb); clear P0 P1 P2 P3 P4 P5 P6 P7 P8 P9 P10; obtain ⟨P0, P1, P2, P3, P4, P5, P6, P7, P8, P9, P10⟩ := Hand.Cz.c11 BK2.out; clear hb) | (go_at_call 23; refine (HO.out _ HB2.out).mono ?_; rintro e w3 ⟨rfl, hb⟩; have BK3 := Aside0.mk (blk_below BK2.out hb); have HB3 := Aside0.mk (below_step HB2.out hb); clear P0 P1 P2 P3 P4 P5 P6 P7 P8 P9 P10; obtain ⟨P0, P1, P2, P3, P4, P5, P6, P7, P8, P9, P10⟩ := Hand.Cz.c11 BK3.out; clear hb) | (go_at_call 14; refine (HRR.out _ HB3.out).mono ?_; rintro e w4 ⟨rfl, hb⟩; have BK4 := Aside0.mk (blk_below BK3.out hb); have HB4 := Aside0.mk (below_step HB3.out hb); clear P0 P1 P2 P3 P4 P5 P6 P7 P8 P9 P10; obtain ⟨P0, P1, P2, P3, P4, P5, P6, P7, P8, P9, P10⟩ := Hand.Cz.c11 BK4.out; clear hb))
 refine (HP.out _ HB4.out).mono ?_
 rintro e w5 ⟨v8, v9, v10, rfl, r8, r9, r10, hb⟩
 obtain ⟨B8, d8, rfl⟩ := Kd.R_slice r8
 have R85 := Aside0.mk (Kd.R_lower r8 HB4.out.size)
 obtain ⟨B9, d9, rfl⟩ := Kd.R_slice r9
 have R95 := Aside0.mk (Kd.R_lower r9 HB4.out.size)
 obtain ⟨B10, d10, rfl⟩ := Kd.R_slice r10
 have R105 := Aside0.mk (Kd.R_lower r10 HB4.out.size)
 have BK5 := Aside0.mk (blk_below BK4.out hb)
 have HB5 := Aside0.mk (below_step HB4.out hb)
 clear r8 r9 r10 hb P0 P1 P2 P3 P4 P5 P6 P7 P8 P9 P10
 go_upto_region 7 with ((with_reducible refine gate_dst (N := 5) rfl ?_); refine box_event ?hg (N := 5) ?hd (cs := #[.int .i64 0, .int .u64 0, .int .u64 0, .int .u64 0, .int .u64 0, .int .u64 0, .int .i64 0, .bool false, .slice none 0 0, .slice none 0 0, .slice none 0 0]) (t := 30) ?hr ?_; (case hd => rfl); (case hg => rfl); (case hr => (go_simp; done)); intro g5 hg w6 hbox hb; have HG5 := Aside0.mk (show w.heap.size ≤ g5 from by rw [hg]; exact HB5.out.size); have HGG := Aside0.mk (show w5.heap.size ≤ g5 from Nat.le_of_eq hg.symm); have HNE := Aside0.mk (show g1 ≠ g5 from by have := blk_lt BK5.out; omega); have HB6 := Aside0.mk (below_step HB5.out hb); have HBB := Aside0.mk hb; have BK6 := Aside0.mk (blk_below BK5.out hb); have R86 := Aside0.mk (Kd.R_below R85.out hb); have R96 := Aside0.mk (Kd.R_below R95.out hb); have R106 := Aside0.mk (Kd.R_below R105.out hb); have BQ6 := Aside0.mk hbox; clear hg hbox hb; obtain ⟨Q0, Q1, Q2, Q3, Q4, Q5, Q6, Q7, Q8, Q9, Q10⟩ := Hand.Cz.c11 BQ6.out; obtain ⟨F0, F1, F2, F3, F4, F5, F6, F7, F8, F9, F10⟩ := Hand.Cz.f11 BQ6.out)
 generalize hW7 : World.setCell _ (Addr.mk g5 10 none) _ = w7
 have BQ7 := Aside0.mk (show w7.heap[g5]? = some (.cells #[.int .i64 7, .int .u64 tr, .int .u64 bn, .int .u64 bd, .int .u64 sn, .int .u64 sd, .int .i64 0, .bool ok, .slice B8 ([] : List S76).length d8, .slice B9 ([] : List S92).length d9, .slice B10 ([] : List Int).length d10] 30 (0, 0)) from by rw [← hW7]; exact Hand.Cz.p11 BQ6.out)
 have BK7 := Aside0.mk (show w7.heap[g1]? = some (.cells #[.int .i64 7, .int .u64 tr, .int .u64 bn, .int .u64 bd, .int .u64 sn, .int .u64 sd, .int .i64 0, .bool ok, .slice A8 ([] : List S76).length c8, .slice A9 ([] : List S92).length c9, .slice A10 ([] : List Int).length c10] 30 (0, 0)) from by rw [← hW7]; exact Hand.Cz.o11 BK6.out HNE.out)
 have HB7 := Aside0.mk (show Below w.heap.size w w7 from by rw [← hW7]; exact Hand.Cz.b11 HB6.out HG5.out)
 have R87 := Aside0.mk (show Kd.R k76 76 w7 w.heap.size (fun k => k ≠ g5) (.slice B8 ([] : List S76).length d8) ([] : List S76) from by rw [← hW7]; exact Hand.Cz.r11 (Kd.R_mono (Kd.R_types R86.out BQ6.out (by decide)) (fun _ hk => hk.2)))
 have R97 := Aside0.mk (show Kd.R k92 92 w7 w.heap.size (fun k => k ≠ g5) (.slice B9 ([] : List S92).length d9) ([] : List S92) from by rw [← hW7]; exact Hand.Cz.r11 (Kd.R_mono (Kd.R_types R96.out BQ6.out (by decide)) (fun _ hk => hk.2)))
 have R107 := Aside0.mk (show Kd.R (Kd.int .u64) 22 w7 w.heap.size (fun k => k ≠ g5) (.slice B10 ([] : List Int).length d10) ([] : List Int) from by rw [← hW7]; exact Hand.Cz.r11 (Kd.R_mono (Kd.R_types R106.out BQ6.out (by decide)) (fun _ hk => hk.2)))
 clear hW7 Q0 Q1 Q2 Q3 Q4 Q5 Q6 Q7 Q8 Q9 Q10 F0 F1 F2 F3 F4 F5 F6 F7 F8 F9 F10 BQ6 BK6 HB6 HBB R86 R96 R106 R85 R95 R105
 obtain ⟨Q0, Q1, Q2, Q3, Q4, Q5, Q6, Q7, Q8, Q9, Q10⟩ := Hand.Cz.c11 BQ7.out
 obtain ⟨P0, P1, P2, P3, P4, P5, P6, P7, P8, P9, P10⟩ := Hand.Cz.c11 BK7.out
 have hta : ∀ W, (Instr.typeAssert (.iface 60 (.agg #[.int .u64 tr, .int .u64 bn, .int .u64 bd, .bool ok, .int .u64 sn, .int .u64 sd, .int .i64 0, .bool true])) 20 60 true).run Try.prog W = .ok (.tuple #[.agg #[.int .u64 tr, .int .u64 bn, .int .u64 bd, .bool ok, .int .u64 sn, .int .u64 sd, .int .i64 0, .bool true], .bool true]) W := fun W => by kernel_rfl
 go_upto_region 26 with (first | (go_at_call 25; refine (HT.out _ HB7.out).mono ?_; rintro e w8 ⟨rfl, hb⟩; have BQ8 := Aside0.mk (blk_below BQ7.out hb); have BK8 := Aside0.mk (blk_below BK7.out hb); have HB8 := Aside0.mk (below_step HB7.out hb); clear P0 P1 P2 P3 P4 P5 P6 P7 P8 P9 P10 Q0 Q1 Q2 Q3 Q4 Q5 Q6 Q7 Q8 Q9 Q10; obtain ⟨Q0, Q1, Q2, Q3, Q4, Q5, Q6, Q7, Q8, Q9, Q10⟩ := Hand.Cz.c11 BQ8.out; obtain ⟨P0, P1, P2, P3, P4, P5, P6, P7, P8, P9, P10⟩ := Hand.Cz.c11 BK8.out; have R88 := Aside0.mk (Kd.R_below R87.out hb); have R98 := Aside0.mk (Kd.R_below R97.out hb); have R108 := Aside0.mk (Kd.R_below R107.out hb); clear hb) | (go_at_call 21; refine (HS.out _ _ _ _ HB8.out (Kd.R_mono R88.out (fun _ _ => trivial)) (Kd.R_mono R98.out (fun _ _ => trivial)) (Kd.R_mono R108.out (fun _ _ => trivial))).mono ?_; rintro e w9 ⟨rfl, hb⟩; have BQ9 := Aside0.mk (blk_below BQ8.out hb); have BK9 := Aside0.mk (blk_below BK8.out hb); have HB9 := Aside0.mk (below_step HB8.out hb); clear P0 P1 P2 P3 P4 P5 P6 P7 P8 P9 P10 Q0 Q1 Q2 Q3 Q4 Q5 Q6 Q7 Q8 Q9 Q10; obtain ⟨Q0, Q1, Q2, Q3, Q4, Q5, Q6, Q7, Q8, Q9, Q10⟩ := Hand.Cz.c11 BQ9.out; obtain ⟨P0, P1, P2, P3, P4, P5, P6, P7, P8, P9, P10⟩ := Hand.Cz.c11 BK9.out; clear hb) | ((with_reducible refine gate_dst (N := 16) rfl ?_); refine box_event ?hg (N := 16) ?hd (cs := #[.int .u64 0, .int .u64 0, .int .u64 0, .bool false, .int .u64 0, .int .u64 0, .int .i64 0, .bool false]) (t := 60) ?hr ?_; (case hd => rfl); (case hg => rfl); (case hr => (go_simp; done)); intro gx hg wx hbox hb; have HGX := Aside0.mk (show w.heap.size ≤ gx from by rw [hg]; exact HB9.out.size); have HNX := Aside0.mk (show g1 ≠ gx from by have := blk_lt BK9.out; omega); have HBX := Aside0.mk (below_step HB9.out hb); have BKX := Aside0.mk (blk_below BK9.out hb); have BX := Aside0.mk hbox; clear hg hbox hb; obtain ⟨hx_0, hx_1, hx_2, hx_3, hx_4, hx_5, hx_6, hx_7⟩ := Hand.Cz.c8 BX.out; obtain ⟨hy_0, hy_1, hy_2, hy_3, hy_4, hy_5, hy_6, hy_7⟩ := Hand.Cz.f8 BX.out))
 generalize hWY : World.setCell _ (Addr.mk gx 7 none) _ = wy
 have BY := Aside0.mk (show wy.heap[gx]? = some (.cells #[.int .u64 tr, .int .u64 bn, .int .u64 bd, .bool ok, .int .u64 sn, .int .u64 sd, .int .i64 0, .bool true] 60 (0, 0)) from by rw [← hWY]; exact Hand.Cz.p8 BX.out)
 have BKY := Aside0.mk (show wy.heap[g1]? = some (.cells #[.int .i64 7, .int .u64 tr, .int .u64 bn, .int .u64 bd, .int .u64 sn, .int .u64 sd, .int .i64 0, .bool ok, .slice A8 ([] : List S76).length c8, .slice A9 ([] : List S92).length c9, .slice A10 ([] : List Int).length c10] 30 (0, 0)) from by rw [← hWY]; exact Hand.Cz.o8 BKX.out HNX.out)
 have HBY := Aside0.mk (show Below w.heap.size w wy from by rw [← hWY]; exact Hand.Cz.b8 HBX.out HGX.out)
 clear hWY hx_0 hx_1 hx_2 hx_3 hx_4 hx_5 hx_6 hx_7 hy_0 hy_1 hy_2 hy_3 hy_4 hy_5 hy_6 hy_7 P0 P1 P2 P3 P4 P5 P6 P7 P8 P9 P10 Q0 Q1 Q2 Q3 Q4 Q5 Q6 Q7 Q8 Q9 Q10
 obtain ⟨hx_0, hx_1, hx_2, hx_3, hx_4, hx_5, hx_6, hx_7⟩ := Hand.Cz.c8 BY.out
 obtain ⟨P0, P1, P2, P3, P4, P5, P6, P7, P8, P9, P10⟩ := Hand.Cz.c11 BKY.out
 go_wp2_with (go_at_call 15; refine (HA.out _ HBY.out).mono ?_; rintro e wz ⟨rfl, hb⟩; have HBZ := Aside0.mk (below_step HBY.out hb); clear hb)
 go_ret
 exact ⟨rfl, HBZ.out⟩
set_option maxHeartbeats 16000000 in
set_option maxRecDepth 100000 in
theorem things8 (tr bn bd sn sd v : Int) (ok : Bool) (A8 : Option Addr) (c8 : Nat) (l8 : List S76) (A9 : Option Addr) (c9 : Nat) (l9 : List S92) (A10 : Option Addr) (c10 : Nat) (l10 : List Int) (w : World)
  (hL : ∀ W, Below w.heap.size w W → Calls Try.prog 12 #[.agg #[.int .i64 8, .int .u64 tr, .int .u64 0, .int .u64 0, .int .u64 0, .int .u64 0, .int .i64 v, .bool false, .slice A8 ([] : List S76).length c8, .slice A9 ([] : List S92).length c9, .slice A10 ([] : List Int).length c10]] W fun e w' => e = .returned (.bool true) ∧ Below W.heap.size W w')
  (hO : ∀ W, Below w.heap.size w W → Calls Try.prog 23 #[.agg #[.int .i64 8, .int .u64 tr, .int .u64 0, .int .u64 0, .int .u64 0, .int .u64 0, .int .i64 v, .bool false, .slice A8 ([] : List S76).length c8, .slice A9 ([] : List S92).length c9, .slice A10 ([] : List Int).length c10]] W fun e w' => e = .returned (.tuple #[.iface 63 (.agg #[.int .u64 tr, .int .i64 v]), .int .i64 0]) ∧ Below W.heap.size W w')
  (hRR : ∀ W, Below w.heap.size w W → Calls Try.prog 14 #[.agg #[.int .i64 8, .int .u64 tr, .int .u64 0, .int .u64 0, .int .u64 0, .int .u64 0, .int .i64 v, .bool false, .slice A8 ([] : List S76).length c8, .slice A9 ([] : List S92).length c9, .slice A10 ([] : List Int).length c10]] W fun e w' => e = .returned (.int .i64 0) ∧ Below W.heap.size W w')
  (hP : ∀ W, Below w.heap.size w W → Calls Try.prog 24 #[.iface 63 (.agg #[.int .u64 tr, .int .i64 v])] W fun e w' => ∃ v8 v9 v10 : Value, e = .returned (.tuple #[.agg #[.int .i64 8, .int .u64 tr, .int .u64 0, .int .u64 0, .int .u64 0, .int .u64 0, .int .i64 v, .bool false, v8, v9, v10], .int .i64 0]) ∧ Kd.R k76 76 w' W.heap.size (fun _ => True) v8 ([] : List S76) ∧ Kd.R k92 92 w' W.heap.size (fun _ => True) v9 ([] : List S92) ∧ Kd.R (Kd.int .u64) 22 w' W.heap.size (fun _ => True) v10 ([] : List Int) ∧ Below W.heap.size W w')
  (hT : ∀ W, Below w.heap.size w W → Calls Try.prog 25 #[.iface 63 (.agg #[.int .u64 tr, .int .i64 v])] W fun e w' => e = .returned (.tuple #[.int .u64 tr, .bool true]) ∧ Below W.heap.size W w')
  (hS : ∀ W v8 v9 v10, Below w.heap.size w W → Kd.R k76 76 W w.heap.size (fun _ => True) v8 ([] : List S76) → Kd.R k92 92 W w.heap.size (fun _ => True) v9 ([] : List S92) → Kd.R (Kd.int .u64) 22 W w.heap.size (fun _ => True) v10 ([] : List Int) → Calls Try.prog 21 #[.agg #[.int .i64 8, .int .u64 tr, .int .u64 0, .int .u64 0, .int .u64 0, .int .u64 0, .int .i64 v, .bool false, .slice A8 ([] : List S76).length c8, .slice A9 ([] : List S92).length c9, .slice A10 ([] : List Int).length c10], .agg #[.int .i64 8, .int .u64 tr, .int .u64 0, .int .u64 0, .int .u64 0, .int .u64 0, .int .i64 v, .bool false, v8, v9, v10]] W fun e w' => e = .returned (.bool true) ∧ Below W.heap.size W w')
  (hA : ∀ W, Below w.heap.size w W → Calls Try.prog 15 #[] W fun e w' => e = .returned (.bool true) ∧ Below W.heap.size W w') :
  Calls Try.prog 10 #[.agg #[.int .i64 8, .int .u64 tr, .int .u64 0, .int .u64 0, .int .u64 0, .int .u64 0, .int .i64 v, .bool false, .slice A8 ([] : List S76).length c8, .slice A9 ([] : List S92).length c9, .slice A10 ([] : List Int).length c10]] w fun e w' => e = .returned (.bool true) ∧ Below w.heap.size w w' := by
 have hu30 := Try.underlying30; have hu24 := Try.underlying24; have hu51 := Try.underlying51; have hu54 := Try.underlying54; have hu57 := Try.underlying57; have hu60 := Try.underlying60; have hu63 := Try.underlying63; have hu66 := Try.underlying66; have hu69 := Try.underlying69
 have HL := Aside0.mk hL
 have HO := Aside0.mk hO
 have HRR := Aside0.mk hRR
 have HP := Aside0.mk hP
 have HT := Aside0.mk hT
 have HS := Aside0.mk hS
 have HA := Aside0.mk hA
 clear hL hO hRR hP hT hS hA
 go_enter Try.func10, Try.ntmps10
 go_wp2_with (first | ((with_reducible refine gate_dst (N := 1) rfl ?_); refine box_event ?hg (N := 1) ?hd (cs := #[.int .i64 8, .int .u64 tr, .int .u64 0, .int .u64 0, .int .u64 0, .int .u64 0, .int .i64 v, .bool false, .slice A8 ([] : List S76).length c8, .slice A9 ([] : List S92).length c9, .slice A10 ([] : List Int).length c10]) (t := 30) ?hr ?_; (case hd => rfl); (case hg => rfl); (case hr => (go_simp; done)); intro g1 hg w1 hbox hb; have HG1 := Aside0.mk (show w.heap.size ≤ g1 from Nat.le_of_eq hg.symm); have HB1 := Aside0.mk hb; have BK1 := Aside0.mk hbox; clear hg hbox hb; obtain ⟨P0, P1, P2, P3, P4, P5, P6, P7, P8, P9, P10⟩ := Hand.Cz.c11 BK1.out) | (go_at_call 12; refine (HL.out _ HB1.out).mono ?_; rintro e w2 ⟨rfl, hb⟩; have BK2 := Aside0.mk (blk_below BK1.out hb); have HB2 := Aside0.mk (below_step HB1.out hb); clear P0 P1 P2 P3 P4 P5 P6 P7 P8 P9 P10; obtain ⟨P0, P1, P2, P3, P4, P5, P6, P7, P8, P9, P10⟩ := Hand.Cz.c11 BK2.out; clear hb) | (go_at_call 23; refine (HO.out _ HB2.out).mono ?_; rintro e w3 ⟨rfl, hb⟩; have BK3 := Aside0.mk (blk_below BK2.out hb); have HB3 := Aside0.mk (below_step HB2.out hb); clear P0 P1 P2 P3 P4 P5 P6 P7 P8 P9 P10; obtain ⟨P0, P1, P2, P3, P4, P5, P6, P7, P8, P9, P10⟩ := Hand.Cz.c11 BK3.out; clear hb) | (go_at_call 14; refine (HRR.out _ HB3.out).mono ?_; rintro e w4 ⟨rfl, hb⟩; have BK4 := Aside0.mk (blk_below BK3.out hb); have HB4 := Aside0.mk (below_step HB3.out hb); clear P0 P1 P2 P3 P4 P5 P6 P7 P8 P9 P10; obtain ⟨P0, P1, P2, P3, P4, P5, P6, P7, P8, P9, P10⟩ := Hand.Cz.c11 BK4.out; clear hb))
 refine (HP.out _ HB4.out).mono ?_
 rintro e w5 ⟨v8, v9, v10, rfl, r8, r9, r10, hb⟩
 obtain ⟨B8, d8, rfl⟩ := Kd.R_slice r8
 have R85 := Aside0.mk (Kd.R_lower r8 HB4.out.size)
 obtain ⟨B9, d9, rfl⟩ := Kd.R_slice r9
 have R95 := Aside0.mk (Kd.R_lower r9 HB4.out.size)
 obtain ⟨B10, d10, rfl⟩ := Kd.R_slice r10
 have R105 := Aside0.mk (Kd.R_lower r10 HB4.out.size)
 have BK5 := Aside0.mk (blk_below BK4.out hb)
 have HB5 := Aside0.mk (below_step HB4.out hb)
 clear r8 r9 r10 hb P0 P1 P2 P3 P4 P5 P6 P7 P8 P9 P10
 go_upto_region 7 with ((with_reducible refine gate_dst (N := 5) rfl ?_); refine box_event ?hg (N := 5) ?hd (cs := #[.int .i64 0, .int .u64 0, .int .u64 0, .int .u64 0, .int .u64 0, .int .u64 0, .int .i64 0, .bool false, .slice none 0 0, .slice none 0 0, .slice none 0 0]) (t := 30) ?hr ?_; (case hd => rfl); (case hg => rfl); (case hr => (go_simp; done)); intro g5 hg w6 hbox hb; have HG5 := Aside0.mk (show w.heap.size ≤ g5 from by rw [hg]; exact HB5.out.size); have HGG := Aside0.mk (show w5.heap.size ≤ g5 from Nat.le_of_eq hg.symm); have HNE := Aside0.mk (show g1 ≠ g5 from by have := blk_lt BK5.out; omega); have HB6 := Aside0.mk (below_step HB5.out hb); have HBB := Aside0.mk hb; have BK6 := Aside0.mk (blk_below BK5.out hb); have R86 := Aside0.mk (Kd.R_below R85.out hb); have R96 := Aside0.mk (Kd.R_below R95.out hb); have R106 := Aside0.mk (Kd.R_below R105.out hb); have BQ6 := Aside0.mk hbox; clear hg hbox hb; obtain ⟨Q0, Q1, Q2, Q3, Q4, Q5, Q6, Q7, Q8, Q9, Q10⟩ := Hand.Cz.c11 BQ6.out; obtain ⟨F0, F1, F2, F3, F4, F5, F6, F7, F8, F9, F10⟩ := Hand.Cz.f11 BQ6.out)
 generalize hW7 : World.setCell _ (Addr.mk g5 10 none) _ = w7
 have BQ7 := Aside0.mk (show w7.heap[g5]? = some (.cells #[.int .i64 8, .int .u64 tr, .int .u64 0, .int .u64 0, .int .u64 0, .int .u64 0, .int .i64 v, .bool false, .slice B8 ([] : List S76).length d8, .slice B9 ([] : List S92).length d9, .slice B10 ([] : List Int).length d10] 30 (0, 0)) from by rw [← hW7]; exact Hand.Cz.p11 BQ6.out)
 have BK7 := Aside0.mk (show w7.heap[g1]? = some (.cells #[.int .i64 8, .int .u64 tr, .int .u64 0, .int .u64 0, .int .u64 0, .int .u64 0, .int .i64 v, .bool false, .slice A8 ([] : List S76).length c8, .slice A9 ([] : List S92).length c9, .slice A10 ([] : List Int).length c10] 30 (0, 0)) from by rw [← hW7]; exact Hand.Cz.o11 BK6.out HNE.out)
 have HB7 := Aside0.mk (show Below w.heap.size w w7 from by rw [← hW7]; exact Hand.Cz.b11 HB6.out HG5.out)
 have R87 := Aside0.mk (show Kd.R k76 76 w7 w.heap.size (fun k => k ≠ g5) (.slice B8 ([] : List S76).length d8) ([] : List S76) from by rw [← hW7]; exact Hand.Cz.r11 (Kd.R_mono (Kd.R_types R86.out BQ6.out (by decide)) (fun _ hk => hk.2)))
 have R97 := Aside0.mk (show Kd.R k92 92 w7 w.heap.size (fun k => k ≠ g5) (.slice B9 ([] : List S92).length d9) ([] : List S92) from by rw [← hW7]; exact Hand.Cz.r11 (Kd.R_mono (Kd.R_types R96.out BQ6.out (by decide)) (fun _ hk => hk.2)))
 have R107 := Aside0.mk (show Kd.R (Kd.int .u64) 22 w7 w.heap.size (fun k => k ≠ g5) (.slice B10 ([] : List Int).length d10) ([] : List Int) from by rw [← hW7]; exact Hand.Cz.r11 (Kd.R_mono (Kd.R_types R106.out BQ6.out (by decide)) (fun _ hk => hk.2)))
 clear hW7 Q0 Q1 Q2 Q3 Q4 Q5 Q6 Q7 Q8 Q9 Q10 F0 F1 F2 F3 F4 F5 F6 F7 F8 F9 F10 BQ6 BK6 HB6 HBB R86 R96 R106 R85 R95 R105
 obtain ⟨Q0, Q1, Q2, Q3, Q4, Q5, Q6, Q7, Q8, Q9, Q10⟩ := Hand.Cz.c11 BQ7.out
 obtain ⟨P0, P1, P2, P3, P4, P5, P6, P7, P8, P9, P10⟩ := Hand.Cz.c11 BK7.out
 have hta : ∀ W, (Instr.typeAssert (.iface 63 (.agg #[.int .u64 tr, .int .i64 v])) 20 63 true).run Try.prog W = .ok (.tuple #[.agg #[.int .u64 tr, .int .i64 v], .bool true]) W := fun W => by kernel_rfl
 go_upto_region 29 with (first | (go_at_call 25; refine (HT.out _ HB7.out).mono ?_; rintro e w8 ⟨rfl, hb⟩; have BQ8 := Aside0.mk (blk_below BQ7.out hb); have BK8 := Aside0.mk (blk_below BK7.out hb); have HB8 := Aside0.mk (below_step HB7.out hb); clear P0 P1 P2 P3 P4 P5 P6 P7 P8 P9 P10 Q0 Q1 Q2 Q3 Q4 Q5 Q6 Q7 Q8 Q9 Q10; obtain ⟨Q0, Q1, Q2, Q3, Q4, Q5, Q6, Q7, Q8, Q9, Q10⟩ := Hand.Cz.c11 BQ8.out; obtain ⟨P0, P1, P2, P3, P4, P5, P6, P7, P8, P9, P10⟩ := Hand.Cz.c11 BK8.out; have R88 := Aside0.mk (Kd.R_below R87.out hb); have R98 := Aside0.mk (Kd.R_below R97.out hb); have R108 := Aside0.mk (Kd.R_below R107.out hb); clear hb) | (go_at_call 21; refine (HS.out _ _ _ _ HB8.out (Kd.R_mono R88.out (fun _ _ => trivial)) (Kd.R_mono R98.out (fun _ _ => trivial)) (Kd.R_mono R108.out (fun _ _ => trivial))).mono ?_; rintro e w9 ⟨rfl, hb⟩; have BQ9 := Aside0.mk (blk_below BQ8.out hb); have BK9 := Aside0.mk (blk_below BK8.out hb); have HB9 := Aside0.mk (below_step HB8.out hb); clear P0 P1 P2 P3 P4 P5 P6 P7 P8 P9 P10 Q0 Q1 Q2 Q3 Q4 Q5 Q6 Q7 Q8 Q9 Q10; obtain ⟨Q0, Q1, Q2, Q3, Q4, Q5, Q6, Q7, Q8, Q9, Q10⟩ := Hand.Cz.c11 BQ9.out; obtain ⟨P0, P1, P2, P3, P4, P5, P6, P7, P8, P9, P10⟩ := Hand.Cz.c11 BK9.out; clear hb) | ((with_reducible refine gate_dst (N := 18) rfl ?_); refine box_event ?hg (N := 18) ?hd (cs := #[.int .u64 0, .int .i64 0]) (t := 63) ?hr ?_; (case hd => rfl); (case hg => rfl); (case hr => (go_simp; done)); intro gx hg wx hbox hb; have HGX := Aside0.mk (show w.heap.size ≤ gx from by rw [hg]; exact HB9.out.size); have HNX := Aside0.mk (show g1 ≠ gx from by have := blk_lt BK9.out; omega); have HBX := Aside0.mk (below_step HB9.out hb); have BKX := Aside0.mk (blk_below BK9.out hb); have BX := Aside0.mk hbox; clear hg hbox hb; obtain ⟨hx_0, hx_1⟩ := Hand.Cz.c2 BX.out; obtain ⟨hy_0, hy_1⟩ := Hand.Cz.f2 BX.out))
 generalize hWY : World.setCell _ (Addr.mk gx 1 none) _ = wy
 have BY := Aside0.mk (show wy.heap[gx]? = some (.cells #[.int .u64 tr, .int .i64 v] 63 (0, 0)) from by rw [← hWY]; exact Hand.Cz.p2 BX.out)
 have BKY := Aside0.mk (show wy.heap[g1]? = some (.cells #[.int .i64 8, .int .u64 tr, .int .u64 0, .int .u64 0, .int .u64 0, .int .u64 0, .int .i64 v, .bool false, .slice A8 ([] : List S76).length c8, .slice A9 ([] : List S92).length c9, .slice A10 ([] : List Int).length c10] 30 (0, 0)) from by rw [← hWY]; exact Hand.Cz.o2 BKX.out HNX.out)
 have HBY := Aside0.mk (show Below w.heap.size w wy from by rw [← hWY]; exact Hand.Cz.b2 HBX.out HGX.out)
 clear hWY hx_0 hx_1 hy_0 hy_1 P0 P1 P2 P3 P4 P5 P6 P7 P8 P9 P10 Q0 Q1 Q2 Q3 Q4 Q5 Q6 Q7 Q8 Q9 Q10
 obtain ⟨hx_0, hx_1⟩ := Hand.Cz.c2 BY.out
 obtain ⟨P0, P1, P2, P3, P4, P5, P6, P7, P8, P9, P10⟩ := Hand.Cz.c11 BKY.out
 go_wp2_with (go_at_call 15; refine (HA.out _ HBY.out).mono ?_; rintro e wz ⟨rfl, hb⟩; have HBZ := Aside0.mk (below_step HBY.out hb); clear hb)
 go_ret
 exact ⟨rfl, HBZ.out⟩
set_option maxHeartbeats 16000000 in
set_option maxRecDepth 100000 in
theorem things9 (tr bn bd sn sd v : Int) (ok : Bool) (A8 : Option Addr) (c8 : Nat) (l8 : List S76) (A9 : Option Addr) (c9 : Nat) (l9 : List S92) (A10 : Option Addr) (c10 : Nat) (l10 : List Int) (w : World)
  (hL : ∀ W, Below w.heap.size w W → Calls Try.prog 12 #[.agg #[.int .i64 9, .int .u64 tr, .int .u64 bn, .int .u64 bd, .int .u64 0, .int .u64 0, .int .i64 0, .bool false, .slice A8 l8.length c8, .slice A9 ([] : List S92).length c9, .slice A10 ([] : List Int).length c10]] W fun e w' => e = .returned (.bool true) ∧ Below W.heap.size W w')
  (hO : ∀ W, Below w.heap.size w W → Calls Try.prog 23 #[.agg #[.int .i64 9, .int .u64 tr, .int .u64 bn, .int .u64 bd, .int .u64 0, .int .u64 0, .int .i64 0, .bool false, .slice A8 l8.length c8, .slice A9 ([] : List S92).length c9, .slice A10 ([] : List Int).length c10]] W fun e w' => ∃ (Av : Option Addr) (cv : Nat), e = .returned (.tuple #[.iface 66 (.agg #[.int .u64 tr, .int .u64 bn, .int .u64 bd, .slice Av l8.length cv]), .int .i64 0]) ∧ Kd.C k76 w' Av l8.length l8 ∧ l8.length ≤ cv ∧ Below W.heap.size W w')
  (hRR : ∀ W, Below w.heap.size w W → Calls Try.prog 14 #[.agg #[.int .i64 9, .int .u64 tr, .int .u64 bn, .int .u64 bd, .int .u64 0, .int .u64 0, .int .i64 0, .bool false, .slice A8 l8.length c8, .slice A9 ([] : List S92).length c9, .slice A10 ([] : List Int).length c10]] W fun e w' => e = .returned (.int .i64 0) ∧ Below W.heap.size W w')
  (hP : ∀ W Av cv , Below w.heap.size w W → Kd.C k76 W Av l8.length l8 → l8.length ≤ cv → Calls Try.prog 24 #[.iface 66 (.agg #[.int .u64 tr, .int .u64 bn, .int .u64 bd, .slice Av l8.length cv])] W fun e w' => ∃ v8 v9 v10 : Value, e = .returned (.tuple #[.agg #[.int .i64 9, .int .u64 tr, .int .u64 bn, .int .u64 bd, .int .u64 0, .int .u64 0, .int .i64 0, .bool false, v8, v9, v10], .int .i64 0]) ∧ Kd.R k76 76 w' W.heap.size (fun _ => True) v8 l8 ∧ Kd.R k92 92 w' W.heap.size (fun _ => True) v9 ([] : List S92) ∧ Kd.R (Kd.int .u64) 22 w' W.heap.size (fun _ => True) v10 ([] : List Int) ∧ Below W.heap.size W w')
  (hT : ∀ W Av cv , Below w.heap.size w W → Kd.C k76 W Av l8.length l8 → l8.length ≤ cv → Calls Try.prog 25 #[.iface 66 (.agg #[.int .u64 tr, .int .u64 bn, .int .u64 bd, .slice Av l8.length cv])] W fun e w' => e = .returned (.tuple #[.int .u64 tr, .bool true]) ∧ Below W.heap.size W w')
  (hS : ∀ W v8 v9 v10, Below w.heap.size w W → Kd.R k76 76 W w.heap.size (fun _ => True) v8 l8 → Kd.R k92 92 W w.heap.size (fun _ => True) v9 ([] : List S92) → Kd.R (Kd.int .u64) 22 W w.heap.size (fun _ => True) v10 ([] : List Int) → Calls Try.prog 21 #[.agg #[.int .i64 9, .int .u64 tr, .int .u64 bn, .int .u64 bd, .int .u64 0, .int .u64 0, .int .i64 0, .bool false, .slice A8 l8.length c8, .slice A9 ([] : List S92).length c9, .slice A10 ([] : List Int).length c10], .agg #[.int .i64 9, .int .u64 tr, .int .u64 bn, .int .u64 bd, .int .u64 0, .int .u64 0, .int .i64 0, .bool false, v8, v9, v10]] W fun e w' => e = .returned (.bool true) ∧ Below W.heap.size W w')
  (hA : ∀ W, Below w.heap.size w W → Calls Try.prog 15 #[] W fun e w' => e = .returned (.bool true) ∧ Below W.heap.size W w') :
  Calls Try.prog 10 #[.agg #[.int .i64 9, .int .u64 tr, .int .u64 bn, .int .u64 bd, .int .u64 0, .int .u64 0, .int .i64 0, .bool false, .slice A8 l8.length c8, .slice A9 ([] : List S92).length c9, .slice A10 ([] : List Int).length c10]] w fun e w' => e = .returned (.bool true) ∧ Below w.heap.size w w' := by
 have hu30 := Try.underlying30; have hu24 := Try.underlying24; have hu51 := Try.underlying51; have hu54 := Try.underlying54; have hu57 := Try.underlying57; have hu60 := Try.underlying60; have hu63 := Try.underlying63; have hu66 := Try.underlying66; have hu69 := Try.underlying69
 have HL := Aside0.mk hL
 have HO := Aside0.mk hO
 have HRR := Aside0.mk hRR
 have HP := Aside0.mk hP
 have HT := Aside0.mk hT
 have HS := Aside0.mk hS
 have HA := Aside0.mk hA
 clear hL hO hRR hP hT hS hA
 go_enter Try.func10, Try.ntmps10
 go_wp2_with (first | ((with_reducible refine gate_dst (N := 1) rfl ?_); refine box_event ?hg (N := 1) ?hd (cs := #[.int .i64 9, .int .u64 tr, .int .u64 bn, .int .u64 bd, .int .u64 0, .int .u64 0, .int .i64 0, .bool false, .slice A8 l8.length c8, .slice A9 ([] : List S92).length c9, .slice A10 ([] : List Int).length c10]) (t := 30) ?hr ?_; (case hd => rfl); (case hg => rfl); (case hr => (go_simp; done)); intro g1 hg w1 hbox hb; have HG1 := Aside0.mk (show w.heap.size ≤ g1 from Nat.le_of_eq hg.symm); have HB1 := Aside0.mk hb; have BK1 := Aside0.mk hbox; clear hg hbox hb; obtain ⟨P0, P1, P2, P3, P4, P5, P6, P7, P8, P9, P10⟩ := Hand.Cz.c11 BK1.out) | (go_at_call 12; refine (HL.out _ HB1.out).mono ?_; rintro e w2 ⟨rfl, hb⟩; have BK2 := Aside0.mk (blk_below BK1.out hb); have HB2 := Aside0.mk (below_step HB1.out hb); clear P0 P1 P2 P3 P4 P5 P6 P7 P8 P9 P10; obtain ⟨P0, P1, P2, P3, P4, P5, P6, P7, P8, P9, P10⟩ := Hand.Cz.c11 BK2.out; clear hb) | (go_at_call 23; refine (HO.out _ HB2.out).mono ?_; rintro e w3 ⟨Av, cv, rfl, hc, hle, hb⟩; have BK3 := Aside0.mk (blk_below BK2.out hb); have HB3 := Aside0.mk (below_step HB2.out hb); clear P0 P1 P2 P3 P4 P5 P6 P7 P8 P9 P10; obtain ⟨P0, P1, P2, P3, P4, P5, P6, P7, P8, P9, P10⟩ := Hand.Cz.c11 BK3.out; have HC3 := Aside0.mk hc; have HLE := Aside0.mk hle; clear hc hle; clear hb) | (go_at_call 14; refine (HRR.out _ HB3.out).mono ?_; rintro e w4 ⟨rfl, hb⟩; have BK4 := Aside0.mk (blk_below BK3.out hb); have HB4 := Aside0.mk (below_step HB3.out hb); clear P0 P1 P2 P3 P4 P5 P6 P7 P8 P9 P10; obtain ⟨P0, P1, P2, P3, P4, P5, P6, P7, P8, P9, P10⟩ := Hand.Cz.c11 BK4.out; have HC4 := Aside0.mk (Kd.C_below HC3.out hb); clear hb))
 refine (HP.out _ _ _ HB4.out HC4.out HLE.out).mono ?_
 rintro e w5 ⟨v8, v9, v10, rfl, r8, r9, r10, hb⟩
 obtain ⟨B8, d8, rfl⟩ := Kd.R_slice r8
 have R85 := Aside0.mk (Kd.R_lower r8 HB4.out.size)
 obtain ⟨B9, d9, rfl⟩ := Kd.R_slice r9
 have R95 := Aside0.mk (Kd.R_lower r9 HB4.out.size)
 obtain ⟨B10, d10, rfl⟩ := Kd.R_slice r10
 have R105 := Aside0.mk (Kd.R_lower r10 HB4.out.size)
 have BK5 := Aside0.mk (blk_below BK4.out hb)
 have HB5 := Aside0.mk (below_step HB4.out hb)
 have HC5 := Aside0.mk (Kd.C_below HC4.out hb)
 clear r8 r9 r10 hb P0 P1 P2 P3 P4 P5 P6 P7 P8 P9 P10
 go_upto_region 7 with ((with_reducible refine gate_dst (N := 5) rfl ?_); refine box_event ?hg (N := 5) ?hd (cs := #[.int .i64 0, .int .u64 0, .int .u64 0, .int .u64 0, .int .u64 0, .int .u64 0, .int .i64 0, .bool false, .slice none 0 0, .slice none 0 0, .slice none 0 0]) (t := 30) ?hr ?_; (case hd => rfl); (case hg => rfl); (case hr => (go_simp; done)); intro g5 hg w6 hbox hb; have HG5 := Aside0.mk (show w.heap.size ≤ g5 from by rw [hg]; exact HB5.out.size); have HGG := Aside0.mk (show w5.heap.size ≤ g5 from Nat.le_of_eq hg.symm); have HNE := Aside0.mk (show g1 ≠ g5 from by have := blk_lt BK5.out; omega); have HB6 := Aside0.mk (below_step HB5.out hb); have HBB := Aside0.mk hb; have BK6 := Aside0.mk (blk_below BK5.out hb); have R86 := Aside0.mk (Kd.R_below R85.out hb); have R96 := Aside0.mk (Kd.R_below R95.out hb); have R106 := Aside0.mk (Kd.R_below R105.out hb); have BQ6 := Aside0.mk hbox; clear hg hbox hb; obtain ⟨Q0, Q1, Q2, Q3, Q4, Q5, Q6, Q7, Q8, Q9, Q10⟩ := Hand.Cz.c11 BQ6.out; obtain ⟨F0, F1, F2, F3, F4, F5, F6, F7, F8, F9, F10⟩ := Hand.Cz.f11 BQ6.out)
 generalize hW7 : World.setCell _ (Addr.mk g5 10 none) _ = w7
 have BQ7 := Aside0.mk (show w7.heap[g5]? = some (.cells #[.int .i64 9, .int .u64 tr, .int .u64 bn, .int .u64 bd, .int .u64 0, .int .u64 0, .int .i64 0, .bool false, .slice B8 l8.length d8, .slice B9 ([] : List S92).length d9, .slice B10 ([] : List Int).length d10] 30 (0, 0)) from by rw [← hW7]; exact Hand.Cz.p11 BQ6.out)
 have BK7 := Aside0.mk (show w7.heap[g1]? = some (.cells #[.int .i64 9, .int .u64 tr, .int .u64 bn, .int .u64 bd, .int .u64 0, .int .u64 0, .int .i64 0, .bool false, .slice A8 l8.length c8, .slice A9 ([] : List S92).length c9, .slice A10 ([] : List Int).length c10] 30 (0, 0)) from by rw [← hW7]; exact Hand.Cz.o11 BK6.out HNE.out)
 have HB7 := Aside0.mk (show Below w.heap.size w w7 from by rw [← hW7]; exact Hand.Cz.b11 HB6.out HG5.out)
 have R87 := Aside0.mk (show Kd.R k76 76 w7 w.heap.size (fun k => k ≠ g5) (.slice B8 l8.length d8) l8 from by rw [← hW7]; exact Hand.Cz.r11 (Kd.R_mono (Kd.R_types R86.out BQ6.out (by decide)) (fun _ hk => hk.2)))
 have R97 := Aside0.mk (show Kd.R k92 92 w7 w.heap.size (fun k => k ≠ g5) (.slice B9 ([] : List S92).length d9) ([] : List S92) from by rw [← hW7]; exact Hand.Cz.r11 (Kd.R_mono (Kd.R_types R96.out BQ6.out (by decide)) (fun _ hk => hk.2)))
 have R107 := Aside0.mk (show Kd.R (Kd.int .u64) 22 w7 w.heap.size (fun k => k ≠ g5) (.slice B10 ([] : List Int).length d10) ([] : List Int) from by rw [← hW7]; exact Hand.Cz.r11 (Kd.R_mono (Kd.R_types R106.out BQ6.out (by decide)) (fun _ hk => hk.2)))
 have HC7 := Aside0.mk (Kd.C_below HC5.out (show Below w5.heap.size w5 w7 from by rw [← hW7]; exact Hand.Cz.b11 HBB.out HGG.out))
 clear hW7 Q0 Q1 Q2 Q3 Q4 Q5 Q6 Q7 Q8 Q9 Q10 F0 F1 F2 F3 F4 F5 F6 F7 F8 F9 F10 BQ6 BK6 HB6 HBB R86 R96 R106 R85 R95 R105
 obtain ⟨Q0, Q1, Q2, Q3, Q4, Q5, Q6, Q7, Q8, Q9, Q10⟩ := Hand.Cz.c11 BQ7.out
 obtain ⟨P0, P1, P2, P3, P4, P5, P6, P7, P8, P9, P10⟩ := Hand.Cz.c11 BK7.out
 have hta : ∀ W, (Instr.typeAssert (.iface 66 (.agg #[.int .u64 tr, .int .u64 bn, .int .u64 bd, .slice Av l8.length cv])) 20 66 true).run Try.prog W = .ok (.tuple #[.agg #[.int .u64 tr, .int .u64 bn, .int .u64 bd, .slice Av l8.length cv], .bool true]) W := fun W => by kernel_rfl
 go_upto_region 32 with (first | (go_at_call 25; refine (HT.out _ _ _ HB7.out HC7.out HLE.out).mono ?_; rintro e w8 ⟨rfl, hb⟩; have BQ8 := Aside0.mk (blk_below BQ7.out hb); have BK8 := Aside0.mk (blk_below BK7.out hb); have HB8 := Aside0.mk (below_step HB7.out hb); clear P0 P1 P2 P3 P4 P5 P6 P7 P8 P9 P10 Q0 Q1 Q2 Q3 Q4 Q5 Q6 Q7 Q8 Q9 Q10; obtain ⟨Q0, Q1, Q2, Q3, Q4, Q5, Q6, Q7, Q8, Q9, Q10⟩ := Hand.Cz.c11 BQ8.out; obtain ⟨P0, P1, P2, P3, P4, P5, P6, P7, P8, P9, P10⟩ := Hand.Cz.c11 BK8.out; have R88 := Aside0.mk (Kd.R_below R87.out hb); have R98 := Aside0.mk (Kd.R_below R97.out hb); have R108 := Aside0.mk (Kd.R_below R107.out hb); clear hb) | (go_at_call 21; refine (HS.out _ _ _ _ HB8.out (Kd.R_mono R88.out (fun _ _ => trivial)) (Kd.R_mono R98.out (fun _ _ => trivial)) (Kd.R_mono R108.out (fun _ _ => trivial))).mono ?_; rintro e w9 ⟨rfl, hb⟩; have BQ9 := Aside0.mk (blk_below BQ8.out hb); have BK9 := Aside0.mk (blk_below BK8.out hb); have HB9 := Aside0.mk (below_step HB8.out hb); clear P0 P1 P2 P3 P4 P5 P6 P7 P8 P9 P10 Q0 Q1 Q2 Q3 Q4 Q5 Q6 Q7 Q8 Q9 Q10; obtain ⟨Q0, Q1, Q2, Q3, Q4, Q5, Q6, Q7, Q8, Q9, Q10⟩ := Hand.Cz.c11 BQ9.out; obtain ⟨P0, P1, P2, P3, P4, P5, P6, P7, P8, P9, P10⟩ := Hand.Cz.c11 BK9.out; clear hb) | ((with_reducible refine gate_dst (N := 20) rfl ?_); refine box_event ?hg (N := 20) ?hd (cs := #[.int .u64 0, .int .u64 0, .int .u64 0, .slice none 0 0]) (t := 66) ?hr ?_; (case hd => rfl); (case hg => rfl); (case hr => (go_simp; done)); intro gx hg wx hbox hb; have HGX := Aside0.mk (show w.heap.size ≤ gx from by rw [hg]; exact HB9.out.size); have HNX := Aside0.mk (show g1 ≠ gx from by have := blk_lt BK9.out; omega); have HBX := Aside0.mk (below_step HB9.out hb); have BKX := Aside0.mk (blk_below BK9.out hb); have BX := Aside0.mk hbox; clear hg hbox hb; obtain ⟨hx_0, hx_1, hx_2, hx_3⟩ := Hand.Cz.c4 BX.out; obtain ⟨hy_0, hy_1, hy_2, hy_3⟩ := Hand.Cz.f4 BX.out))
 generalize hWY : World.setCell _ (Addr.mk gx 3 none) _ = wy
 have BY := Aside0.mk (show wy.heap[gx]? = some (.cells #[.int .u64 tr, .int .u64 bn, .int .u64 bd, .slice Av l8.length cv] 66 (0, 0)) from by rw [← hWY]; exact Hand.Cz.p4 BX.out)
 have BKY := Aside0.mk (show wy.heap[g1]? = some (.cells #[.int .i64 9, .int .u64 tr, .int .u64 bn, .int .u64 bd, .int .u64 0, .int .u64 0, .int .i64 0, .bool false, .slice A8 l8.length c8, .slice A9 ([] : List S92).length c9, .slice A10 ([] : List Int).length c10] 30 (0, 0)) from by rw [← hWY]; exact Hand.Cz.o4 BKX.out HNX.out)
 have HBY := Aside0.mk (show Below w.heap.size w wy from by rw [← hWY]; exact Hand.Cz.b4 HBX.out HGX.out)
 clear hWY hx_0 hx_1 hx_2 hx_3 hy_0 hy_1 hy_2 hy_3 P0 P1 P2 P3 P4 P5 P6 P7 P8 P9 P10 Q0 Q1 Q2 Q3 Q4 Q5 Q6 Q7 Q8 Q9 Q10
 obtain ⟨hx_0, hx_1, hx_2, hx_3⟩ := Hand.Cz.c4 BY.out
 obtain ⟨P0, P1, P2, P3, P4, P5, P6, P7, P8, P9, P10⟩ := Hand.Cz.c11 BKY.out
 go_wp2_with (go_at_call 15; refine (HA.out _ HBY.out).mono ?_; rintro e wz ⟨rfl, hb⟩; have HBZ := Aside0.mk (below_step HBY.out hb); clear hb)
 go_ret
 exact ⟨rfl, HBZ.out⟩
set_option maxHeartbeats 16000000 in
set_option maxRecDepth 100000 in
theorem things10 (tr bn bd sn sd v : Int) (ok : Bool) (A8 : Option Addr) (c8 : Nat) (l8 : List S76) (A9 : Option Addr) (c9 : Nat) (l9 : List S92) (A10 : Option Addr) (c10 : Nat) (l10 : List Int) (w : World)
  (hL : ∀ W, Below w.heap.size w W → Calls Try.prog 12 #[.agg #[.int .i64 10, .int .u64 tr, .int .u64 0, .int .u64 0, .int .u64 0, .int .u64 0, .int .i64 0, .bool false, .slice A8 ([] : List S76).length c8, .slice A9 ([] : List S92).length c9, .slice A10 l10.length c10]] W fun e w' => e = .returned (.bool true) ∧ Below W.heap.size W w')
  (hO : ∀ W, Below w.heap.size w W → Calls Try.prog 23 #[.agg #[.int .i64 10, .int .u64 tr, .int .u64 0, .int .u64 0, .int .u64 0, .int .u64 0, .int .i64 0, .bool false, .slice A8 ([] : List S76).length c8, .slice A9 ([] : List S92).length c9, .slice A10 l10.length c10]] W fun e w' => ∃ (Av : Option Addr) (cv : Nat), e = .returned (.tuple #[.iface 69 (.agg #[.int .u64 tr, .slice Av l10.length cv]), .int .i64 0]) ∧ Kd.C (Kd.int .u64) w' Av l10.length l10 ∧ l10.length ≤ cv ∧ Below W.heap.size W w')
  (hRR : ∀ W, Below w.heap.size w W → Calls Try.prog 14 #[.agg #[.int .i64 10, .int .u64 tr, .int .u64 0, .int .u64 0, .int .u64 0, .int .u64 0, .int .i64 0, .bool false, .slice A8 ([] : List S76).length c8, .slice A9 ([] : List S92).length c9, .slice A10 l10.length c10]] W fun e w' => e = .returned (.int .i64 0) ∧ Below W.heap.size W w')
  (hP : ∀ W Av cv , Below w.heap.size w W → Kd.C (Kd.int .u64) W Av l10.length l10 → l10.length ≤ cv → Calls Try.prog 24 #[.iface 69 (.agg #[.int .u64 tr, .slice Av l10.length cv])] W fun e w' => ∃ v8 v9 v10 : Value, e = .returned (.tuple #[.agg #[.int .i64 10, .int .u64 tr, .int .u64 0, .int .u64 0, .int .u64 0, .int .u64 0, .int .i64 0, .bool false, v8, v9, v10], .int .i64 0]) ∧ Kd.R k76 76 w' W.heap.size (fun _ => True) v8 ([] : List S76) ∧ Kd.R k92 92 w' W.heap.size (fun _ => True) v9 ([] : List S92) ∧ Kd.R (Kd.int .u64) 22 w' W.heap.size (fun _ => True) v10 l10 ∧ Below W.heap.size W w')
  (hT : ∀ W Av cv , Below w.heap.size w W → Kd.C (Kd.int .u64) W Av l10.length l10 → l10.length ≤ cv → Calls Try.prog 25 #[.iface 69 (.agg #[.int .u64 tr, .slice Av l10.length cv])] W fun e w' => e = .returned (.tuple #[.int .u64 tr, .bool true]) ∧ Below W.heap.size W w')
  (hS : ∀ W v8 v9 v10, Below w.heap.size w W → Kd.R k76 76 W w.heap.size (fun _ => True) v8 ([] : List S76) → Kd.R k92 92 W w.heap.size (fun _ => True) v9 ([] : List S92) → Kd.R (Kd.int .u64) 22 W w.heap.size (fun _ => True) v10 l10 → Calls Try.prog 21 #[.agg #[.int .i64 10, .int .u64 tr, .int .u64 0, .int .u64 0, .int .u64 0, .int .u64 0, .int .i64 0, .bool false, .slice A8 ([] : List S76).length c8, .slice A9 ([] : List S92).length c9, .slice A10 l10.length c10], .agg #[.int .i64 10, .int .u64 tr, .int .u64 0, .int .u64 0, .int .u64 0, .int .u64 0, .int .i64 0, .bool false, v8, v9, v10]] W fun e w' => e = .returned (.bool true) ∧ Below W.heap.size W w')
  (hA : ∀ W, Below w.heap.size w W → Calls Try.prog 15 #[] W fun e w' => e = .returned (.bool true) ∧ Below W.heap.size W w') :
  Calls Try.prog 10 #[.agg #[.int .i64 10, .int .u64 tr, .int .u64 0, .int .u64 0, .int .u64 0, .int .u64 0, .int .i64 0, .bool false, .slice A8 ([] : List S76).length c8, .slice A9 ([] : List S92).length c9, .slice A10 l10.length c10]] w fun e w' => e = .returned (.bool true) ∧ Below w.heap.size w w' := by
 have hu30 := Try.underlying30; have hu24 := Try.underlying24; have hu51 := Try.underlying51; have hu54 := Try.underlying54; have hu57 := Try.underlying57; have hu60 := Try.underlying60; have hu63 := Try.underlying63; have hu66 := Try.underlying66; have hu69 := Try.underlying69
 have HL := Aside0.mk hL
 have HO := Aside0.mk hO
 have HRR := Aside0.mk hRR
 have HP := Aside0.mk hP
 have HT := Aside0.mk hT
 have HS := Aside0.mk hS
 have HA := Aside0.mk hA
 clear hL hO hRR hP hT hS hA
 go_enter Try.func10, Try.ntmps10
 go_wp2_with (first | ((with_reducible refine gate_dst (N := 1) rfl ?_); refine box_event ?hg (N := 1) ?hd (cs := #[.int .i64 10, .int .u64 tr, .int .u64 0, .int .u64 0, .int .u64 0, .int .u64 0, .int .i64 0, .bool false, .slice A8 ([] : List S76).length c8, .slice A9 ([] : List S92).length c9, .slice A10 l10.length c10]) (t := 30) ?hr ?_; (case hd => rfl); (case hg => rfl); (case hr => (go_simp; done)); intro g1 hg w1 hbox hb; have HG1 := Aside0.mk (show w.heap.size ≤ g1 from Nat.le_of_eq hg.symm); have HB1 := Aside0.mk hb; have BK1 := Aside0.mk hbox; clear hg hbox hb; obtain ⟨P0, P1, P2, P3, P4, P5, P6, P7, P8, P9, P10⟩ := Hand.Cz.c11 BK1.out) | (go_at_call 12; refine (HL.out _ HB1.out).mono ?_; rintro e w2 ⟨rfl, hb⟩; have BK2 := Aside0.mk (blk_below BK1.out hb); have HB2 := Aside0.mk (below_step HB1.out hb); clear P0 P1 P2 P3 P4 P5 P6 P7 P8 P9 P10; obtain ⟨P0, P1, P2, P3, P4, P5, P6, P7, P8, P9, P10⟩ := Hand.Cz.c11 BK2.out; clear hb) | (go_at_call 23; refine (HO.out _ HB2.out).mono ?_; rintro e w3 ⟨Av, cv, rfl, hc, hle, hb⟩; have BK3 := Aside0.mk (blk_below BK2.out hb); have HB3 := Aside0.mk (below_step HB2.out hb); clear P0 P1 P2 P3 P4 P5 P6 P7 P8 P9 P10; obtain ⟨P0, P1, P2, P3, P4, P5, P6, P7, P8, P9, P10⟩ := Hand.Cz.c11 BK3.out; have HC3 := Aside0.mk hc; have HLE := Aside0.mk hle; clear hc hle; clear hb) | (go_at_call 14; refine (HRR.out _ HB3.out).mono ?_; rintro e w4 ⟨rfl, hb⟩; have BK4 := Aside0.mk (blk_below BK3.out hb); have HB4 := Aside0.mk (below_step HB3.out hb); clear P0 P1 P2 P3 P4 P5 P6 P7 P8 P9 P10; obtain ⟨P0, P1, P2, P3, P4, P5, P6, P7, P8, P9, P10⟩ := Hand.Cz.c11 BK4.out; have HC4 := Aside0.mk (Kd.C_below HC3.out hb); clear hb))
 refine (HP.out _ _ _ HB4.out HC4.out HLE.out).mono ?_
 rintro e w5 ⟨v8, v9, v10, rfl, r8, r9, r10, hb⟩
 obtain ⟨B8, d8, rfl⟩ := Kd.R_slice r8
 have R85 := Aside0.mk (Kd.R_lower r8 HB4.out.size)
 obtain ⟨B9, d9, rfl⟩ := Kd.R_slice r9
 have R95 := Aside0.mk (Kd.R_lower r9 HB4.out.size)
 obtain ⟨B10, d10, rfl⟩ := Kd.R_slice r10
 have R105 := Aside0.mk (Kd.R_lower r10 HB4.out.size)
 have BK5 := Aside0.mk (blk_below BK4.out hb)
 have HB5 := Aside0.mk (below_step HB4.out hb)
 have HC5 := Aside0.mk (Kd.C_below HC4.out hb)
 clear r8 r9 r10 hb P0 P1 P2 P3 P4 P5 P6 P7 P8 P9 P10
 go_upto_region 7 with ((with_reducible refine gate_dst (N := 5) rfl ?_); refine box_event ?hg (N := 5) ?hd (cs := #[.int .i64 0, .int .u64 0, .int .u64 0, .int .u64 0, .int .u64 0, .int .u64 0, .int .i64 0, .bool false, .slice none 0 0, .slice none 0 0, .slice none 0 0]) (t := 30) ?hr ?_; (case hd => rfl); (case hg => rfl); (case hr => (go_simp; done)); intro g5 hg w6 hbox hb; have HG5 := Aside0.mk (show w.heap.size ≤ g5 from by rw [hg]; exact HB5.out.size); have HGG := Aside0.mk (show w5.heap.size ≤ g5 from Nat.le_of_eq hg.symm); have HNE := Aside0.mk (show g1 ≠ g5 from by have := blk_lt BK5.out; omega); have HB6 := Aside0.mk (below_step HB5.out hb); have HBB := Aside0.mk hb; have BK6 := Aside0.mk (blk_below BK5.out hb); have R86 := Aside0.mk (Kd.R_below R85.out hb); have R96 := Aside0.mk (Kd.R_below R95.out hb); have R106 := Aside0.mk (Kd.R_below R105.out hb); have BQ6 := Aside0.mk hbox; clear hg hbox hb; obtain ⟨Q0, Q1, Q2, Q3, Q4, Q5, Q6, Q7, Q8, Q9, Q10⟩ := Hand.Cz.c11 BQ6.out; obtain ⟨F0, F1, F2, F3, F4, F5, F6, F7, F8, F9, F10⟩ := Hand.Cz.f11 BQ6.out)
 generalize hW7 : World.setCell _ (Addr.mk g5 10 none) _ = w7
 have BQ7 := Aside0.mk (show w7.heap[g5]? = some (.cells #[.int .i64 10, .int .u64 tr, .int .u64 0, .int .u64 0, .int .u64 0, .int .u64 0, .int .i64 0, .bool false, .slice B8 ([] : List S76).length d8, .slice B9 ([] : List S92).length d9, .slice B10 l10.length d10] 30 (0, 0)) from by rw [← hW7]; exact Hand.Cz.p11 BQ6.out)
 have BK7 := Aside0.mk (show w7.heap[g1]? = some (.cells #[.int .i64 10, .int .u64 tr, .int .u64 0, .int .u64 0, .int .u64 0, .int .u64 0, .int .i64 0, .bool false, .slice A8 ([] : List S76).length c8, .slice A9 ([] : List S92).length c9, .slice A10 l10.length c10] 30 (0, 0)) from by rw [← hW7]; exact Hand.Cz.o11 BK6.out HNE.out)
 have HB7 := Aside0.mk (show Below w.heap.size w w7 from by rw [← hW7]; exact Hand.Cz.b11 HB6.out HG5.out)
 have R87 := Aside0.mk (show Kd.R k76 76 w7 w.heap.size (fun k => k ≠ g5) (.slice B8 ([] : List S76).length d8) ([] : List S76) from by rw [← hW7]; exact Hand.Cz.r11 (Kd.R_mono (Kd.R_types R86.out BQ6.out (by decide)) (fun _ hk => hk.2)))
 have R97 := Aside0.mk (show Kd.R k92 92 w7 w.heap.size (fun k => k ≠ g5) (.slice B9 ([] : List S92).length d9) ([] : List S92) from by rw [← hW7]; exact Hand.Cz.r11 (Kd.R_mono (Kd.R_types R96.out BQ6.out (by decide)) (fun _ hk => hk.2)))
 have R107 := Aside0.mk (show Kd.R (Kd.int .u64) 22 w7 w.heap.size (fun k => k ≠ g5) (.slice B10 l10.length d10) l10 from by rw [← hW7]; exact Hand.Cz.r11 (Kd.R_mono (Kd.R_types R106.out BQ6.out (by decide)) (fun _ hk => hk.2)))
 have HC7 := Aside0.mk (Kd.C_below HC5.out (show Below w5.heap.size w5 w7 from by rw [← hW7]; exact Hand.Cz.b11 HBB.out HGG.out))
 clear hW7 Q0 Q1 Q2 Q3 Q4 Q5 Q6 Q7 Q8 Q9 Q10 F0 F1 F2 F3 F4 F5 F6 F7 F8 F9 F10 BQ6 BK6 HB6 HBB R86 R96 R106 R85 R95 R105
 obtain ⟨Q0, Q1, Q2, Q3, Q4, Q5, Q6, Q7, Q8, Q9, Q10⟩ := Hand.Cz.c11 BQ7.out
 obtain ⟨P0, P1, P2, P3, P4, P5, P6, P7, P8, P9, P10⟩ := Hand.Cz.c11 BK7.out
 have hta : ∀ W, (Instr.typeAssert (.iface 69 (.agg #[.int .u64 tr, .slice Av l10.length cv])) 20 69 true).run Try.prog W = .ok (.tuple #[.agg #[.int .u64 tr, .slice Av l10.length cv], .bool true]) W := fun W => by kernel_rfl
 go_upto_region 35 with (first | (go_at_call 25; refine (HT.out _ _ _ HB7.out HC7.out HLE.out).mono ?_; rintro e w8 ⟨rfl, hb⟩; have BQ8 := Aside0.mk (blk_below BQ7.out hb); have BK8 := Aside0.mk (blk_below BK7.out hb); have HB8 := Aside0.mk (below_step HB7.out hb); clear P0 P1 P2 P3 P4 P5 P6 P7 P8 P9 P10 Q0 Q1 Q2 Q3 Q4 Q5 Q6 Q7 Q8 Q9 Q10; obtain ⟨Q0, Q1, Q2, Q3, Q4, Q5, Q6, Q7, Q8, Q9, Q10⟩ := Hand.Cz.c11 BQ8.out; obtain ⟨P0, P1, P2, P3, P4, P5, P6, P7, P8, P9, P10⟩ := Hand.Cz.c11 BK8.out; have R88 := Aside0.mk (Kd.R_below R87.out hb); have R98 := Aside0.mk (Kd.R_below R97.out hb); have R108 := Aside0.mk (Kd.R_below R107.out hb); clear hb) | (go_at_call 21; refine (HS.out _ _ _ _ HB8.out (Kd.R_mono R88.out (fun _ _ => trivial)) (Kd.R_mono R98.out (fun _ _ => trivial)) (Kd.R_mono R108.out (fun _ _ => trivial))).mono ?_; rintro e w9 ⟨rfl, hb⟩; have BQ9 := Aside0.mk (blk_below BQ8.out hb); have BK9 := Aside0.mk (blk_below BK8.out hb); have HB9 := Aside0.mk (below_step HB8.out hb); clear P0 P1 P2 P3 P4 P5 P6 P7 P8 P9 P10 Q0 Q1 Q2 Q3 Q4 Q5 Q6 Q7 Q8 Q9 Q10; obtain ⟨Q0, Q1, Q2, Q3, Q4, Q5, Q6, Q7, Q8, Q9, Q10⟩ := Hand.Cz.c11 BQ9.out; obtain ⟨P0, P1, P2, P3, P4, P5, P6, P7, P8, P9, P10⟩ := Hand.Cz.c11 BK9.out; clear hb) | ((with_reducible refine gate_dst (N := 22) rfl ?_); refine box_event ?hg (N := 22) ?hd (cs := #[.int .u64 0, .slice none 0 0]) (t := 69) ?hr ?_; (case hd => rfl); (case hg => rfl); (case hr => (go_simp; done)); intro gx hg wx hbox hb; have HGX := Aside0.mk (show w.heap.size ≤ gx from by rw [hg]; exact HB9.out.size); have HNX := Aside0.mk (show g1 ≠ gx from by have := blk_lt BK9.out; omega); have HBX := Aside0.mk (below_step HB9.out hb); have BKX := Aside0.mk (blk_below BK9.out hb); have BX := Aside0.mk hbox; clear hg hbox hb; obtain ⟨hx_0, hx_1⟩ := Hand.Cz.c2 BX.out; obtain ⟨hy_0, hy_1⟩ := Hand.Cz.f2 BX.out))
 generalize hWY : World.setCell _ (Addr.mk gx 1 none) _ = wy
 have BY := Aside0.mk (show wy.heap[gx]? = some (.cells #[.int .u64 tr, .slice Av l10.length cv] 69 (0, 0)) from by rw [← hWY]; exact Hand.Cz.p2 BX.out)
 have BKY := Aside0.mk (show wy.heap[g1]? = some (.cells #[.int .i64 10, .int .u64 tr, .int .u64 0, .int .u64 0, .int .u64 0, .int .u64 0, .int .i64 0, .bool false, .slice A8 ([] : List S76).length c8, .slice A9 ([] : List S92).length c9, .slice A10 l10.length c10] 30 (0, 0)) from by rw [← hWY]; exact Hand.Cz.o2 BKX.out HNX.out)
 have HBY := Aside0.mk (show Below w.heap.size w wy from by rw [← hWY]; exact Hand.Cz.b2 HBX.out HGX.out)
 clear hWY hx_0 hx_1 hy_0 hy_1 P0 P1 P2 P3 P4 P5 P6 P7 P8 P9 P10 Q0 Q1 Q2 Q3 Q4 Q5 Q6 Q7 Q8 Q9 Q10
 obtain ⟨hx_0, hx_1⟩ := Hand.Cz.c2 BY.out
 obtain ⟨P0, P1, P2, P3, P4, P5, P6, P7, P8, P9, P10⟩ := Hand.Cz.c11 BKY.out
 go_wp2_with (go_at_call 15; refine (HA.out _ HBY.out).mono ?_; rintro e wz ⟨rfl, hb⟩; have HBZ := Aside0.mk (below_step HBY.out hb); clear hb)
 go_ret
 exact ⟨rfl, HBZ.out⟩
set_option maxHeartbeats 8000000 in
set_option maxRecDepth 100000 in
theorem things_dark (kd tr bn bd sn sd v : Int) (ok : Bool) (A8 : Option Addr) (c8 : Nat) (l8 : List S76) (A9 : Option Addr) (c9 : Nat) (l9 : List S92) (A10 : Option Addr) (c10 : Nat) (l10 : List Int) (w : World)
  (hL : ∀ W, Below w.heap.size w W → Calls Try.prog 12 #[.agg #[.int .i64 kd, .int .u64 tr, .int .u64 bn, .int .u64 bd, .int .u64 sn, .int .u64 sd, .int .i64 v, .bool ok, .slice A8 l8.length c8, .slice A9 l9.length c9, .slice A10 l10.length c10]] W fun e w' => e = .returned (.bool false) ∧ Below W.heap.size W w')
  (hA : ∀ W, Below w.heap.size w W → Calls Try.prog 15 #[] W fun e w' => e = .returned (.bool true) ∧ Below W.heap.size W w') :
  Calls Try.prog 10 #[.agg #[.int .i64 kd, .int .u64 tr, .int .u64 bn, .int .u64 bd, .int .u64 sn, .int .u64 sd, .int .i64 v, .bool ok, .slice A8 l8.length c8, .slice A9 l9.length c9, .slice A10 l10.length c10]] w fun e w' => e = .returned (.bool true) ∧ Below w.heap.size w w' := by
 have hu30 := Try.underlying30; have hu24 := Try.underlying24; have hu51 := Try.underlying51; have hu54 := Try.underlying54; have hu57 := Try.underlying57; have hu60 := Try.underlying60; have hu63 := Try.underlying63; have hu66 := Try.underlying66; have hu69 := Try.underlying69
 have HL := Aside0.mk hL
 have HA := Aside0.mk hA
 clear hL hA
 go_enter Try.func10, Try.ntmps10
 go_wp2_with (first | ((with_reducible refine gate_dst (N := 1) rfl ?_); refine box_event ?hg (N := 1) ?hd (cs := #[.int .i64 kd, .int .u64 tr, .int .u64 bn, .int .u64 bd, .int .u64 sn, .int .u64 sd, .int .i64 v, .bool ok, .slice A8 l8.length c8, .slice A9 l9.length c9, .slice A10 l10.length c10]) (t := 30) ?hr ?_; (case hd => rfl); (case hg => rfl); (case hr => (go_simp; done)); intro g1 hg w1 hbox hb; have HB1 := Aside0.mk hb; have BK1 := Aside0.mk hbox; clear hg hbox hb; obtain ⟨P0, P1, P2, P3, P4, P5, P6, P7, P8, P9, P10⟩ := Hand.Cz.c11 BK1.out) | (go_at_call 12; refine (HL.out _ HB1.out).mono ?_; rintro e w2 ⟨rfl, hb⟩; have BK2 := Aside0.mk (blk_below BK1.out hb); have HB2 := Aside0.mk (below_step HB1.out hb); clear P0 P1 P2 P3 P4 P5 P6 P7 P8 P9 P10; obtain ⟨P0, P1, P2, P3, P4, P5, P6, P7, P8, P9, P10⟩ := Hand.Cz.c11 BK2.out; clear hb) | (go_at_call 15; refine (HA.out _ HB2.out).mono ?_; rintro e wz ⟨rfl, hb⟩; have HBZ := Aside0.mk (below_step HB2.out hb); clear hb))
 go_ret
 exact ⟨rfl, HBZ.out⟩
set_option maxHeartbeats 8000000 in
set_option maxRecDepth 100000 in
theorem things_bad (kd tr bn bd sn sd v : Int) (ok : Bool) (A8 : Option Addr) (c8 : Nat) (l8 : List S76) (A9 : Option Addr) (c9 : Nat) (l9 : List S92) (A10 : Option Addr) (c10 : Nat) (l10 : List Int) (w : World)
  (hL : ∀ W, Below w.heap.size w W → Calls Try.prog 12 #[.agg #[.int .i64 kd, .int .u64 tr, .int .u64 bn, .int .u64 bd, .int .u64 sn, .int .u64 sd, .int .i64 v, .bool ok, .slice A8 l8.length c8, .slice A9 l9.length c9, .slice A10 l10.length c10]] W fun e w' => e = .returned (.bool true) ∧ Below W.heap.size W w')
  (hO : ∀ W, Below w.heap.size w W → Calls Try.prog 23 #[.agg #[.int .i64 kd, .int .u64 tr, .int .u64 bn, .int .u64 bd, .int .u64 sn, .int .u64 sd, .int .i64 v, .bool ok, .slice A8 l8.length c8, .slice A9 l9.length c9, .slice A10 l10.length c10]] W fun e w' => e = .returned (.tuple #[.nilIface, .int .i64 6]) ∧ Below W.heap.size W w')
  (hRR : ∀ W, Below w.heap.size w W → Calls Try.prog 14 #[.agg #[.int .i64 kd, .int .u64 tr, .int .u64 bn, .int .u64 bd, .int .u64 sn, .int .u64 sd, .int .i64 v, .bool ok, .slice A8 l8.length c8, .slice A9 l9.length c9, .slice A10 l10.length c10]] W fun e w' => e = .returned (.int .i64 6) ∧ Below W.heap.size W w')
  (hA : ∀ W, Below w.heap.size w W → Calls Try.prog 15 #[] W fun e w' => e = .returned (.bool true) ∧ Below W.heap.size W w') :
  Calls Try.prog 10 #[.agg #[.int .i64 kd, .int .u64 tr, .int .u64 bn, .int .u64 bd, .int .u64 sn, .int .u64 sd, .int .i64 v, .bool ok, .slice A8 l8.length c8, .slice A9 l9.length c9, .slice A10 l10.length c10]] w fun e w' => e = .returned (.bool true) ∧ Below w.heap.size w w' := by
 have hu30 := Try.underlying30; have hu24 := Try.underlying24; have hu51 := Try.underlying51; have hu54 := Try.underlying54; have hu57 := Try.underlying57; have hu60 := Try.underlying60; have hu63 := Try.underlying63; have hu66 := Try.underlying66; have hu69 := Try.underlying69
 have HL := Aside0.mk hL
 have HO := Aside0.mk hO
 have HRR := Aside0.mk hRR
 have HA := Aside0.mk hA
 clear hL hO hRR hA
 go_enter Try.func10, Try.ntmps10
 go_wp2_with (first | ((with_reducible refine gate_dst (N := 1) rfl ?_); refine box_event ?hg (N := 1) ?hd (cs := #[.int .i64 kd, .int .u64 tr, .int .u64 bn, .int .u64 bd, .int .u64 sn, .int .u64 sd, .int .i64 v, .bool ok, .slice A8 l8.length c8, .slice A9 l9.length c9, .slice A10 l10.length c10]) (t := 30) ?hr ?_; (case hd => rfl); (case hg => rfl); (case hr => (go_simp; done)); intro g1 hg w1 hbox hb; have HB1 := Aside0.mk hb; have BK1 := Aside0.mk hbox; clear hg hbox hb; obtain ⟨P0, P1, P2, P3, P4, P5, P6, P7, P8, P9, P10⟩ := Hand.Cz.c11 BK1.out) | (go_at_call 12; refine (HL.out _ HB1.out).mono ?_; rintro e w2 ⟨rfl, hb⟩; have BK2 := Aside0.mk (blk_below BK1.out hb); have HB2 := Aside0.mk (below_step HB1.out hb); clear P0 P1 P2 P3 P4 P5 P6 P7 P8 P9 P10; obtain ⟨P0, P1, P2, P3, P4, P5, P6, P7, P8, P9, P10⟩ := Hand.Cz.c11 BK2.out; clear hb) | (go_at_call 23; refine (HO.out _ HB2.out).mono ?_; rintro e w3 ⟨rfl, hb⟩; have BK3 := Aside0.mk (blk_below BK2.out hb); have HB3 := Aside0.mk (below_step HB2.out hb); clear P0 P1 P2 P3 P4 P5 P6 P7 P8 P9 P10; obtain ⟨P0, P1, P2, P3, P4, P5, P6, P7, P8, P9, P10⟩ := Hand.Cz.c11 BK3.out; clear hb) | (go_at_call 14; refine (HRR.out _ HB3.out).mono ?_; rintro e w4 ⟨rfl, hb⟩; have BK4 := Aside0.mk (blk_below BK3.out hb); have HB4 := Aside0.mk (below_step HB3.out hb); clear P0 P1 P2 P3 P4 P5 P6 P7 P8 P9 P10; obtain ⟨P0, P1, P2, P3, P4, P5, P6, P7, P8, P9, P10⟩ := Hand.Cz.c11 BK4.out; clear hb) | (go_at_call 15; refine (HA.out _ HB4.out).mono ?_; rintro e wz ⟨rfl, hb⟩; have HBZ := Aside0.mk (below_step HB4.out hb); clear hb))
 go_ret
 exact ⟨rfl, HBZ.out⟩
end Go.Proofs.Ytlpnpnjjmpkapaa.PAll
