/-
  The law MessageBack walked: a packet that is not light, one that is not right, and one that is.
  Conditions: given as hypotheses (the calls of Light, Encode, Right, Decode, Same and alive).
-/
import Derived.Test.YtlpnpnjjmpkapaaMsgDec
import Derived.Test.YtlpnpnjjmpkapaaPAllx10
import Derived.Test.YtlpnpnjjmpkapaaPAllx14
namespace Go.Proofs.Ytlpnpnjjmpkapaa.PAll
open Go.RowKit Go.Proofs.YtlpnpnjjmpkapaaW.PrintWords Go.Proofs.YtlpnpnjjmpkapaaW.PrintLast Go.Proofs.YtlpnpnjjmpkapaaW.PrintMore
attribute [local go_sem] max2_int min2_int max_two min_two max_three min_three max_four min_four
set_option linter.unusedVariables false
set_option linter.unusedSimpArgs false

set_option maxHeartbeats 8000000 in
set_option maxRecDepth 100000 in
theorem back_dark (kd tr bn bd sn sd v cut more : Int) (ok : Bool) (A8 : Option Addr) (c8 : Nat) (l8 : List S76) (A9 : Option Addr) (c9 : Nat) (l9 : List S92) (A10 : Option Addr) (c10 : Nat) (l10 : List Int) (w : World) (hL : ∀ W, Below w.heap.size w W → Calls Try.prog 12 #[.agg #[.int .i64 kd, .int .u64 tr, .int .u64 bn, .int .u64 bd, .int .u64 sn, .int .u64 sd, .int .i64 v, .bool ok, .slice A8 l8.length c8, .slice A9 l9.length c9, .slice A10 l10.length c10]] W fun e w' => e = .returned (.bool false) ∧ Below W.heap.size W w') (hA : ∀ W, Calls Try.prog 15 #[] W fun e w' => e = .returned (.bool true) ∧ Below W.heap.size W w') :
  Calls Try.prog 7 #[.agg #[.int .i64 kd, .int .u64 tr, .int .u64 bn, .int .u64 bd, .int .u64 sn, .int .u64 sd, .int .i64 v, .bool ok, .slice A8 l8.length c8, .slice A9 l9.length c9, .slice A10 l10.length c10], .int .i64 cut, .int .u8 more] w fun e w' => e = .returned (.bool true) ∧ Below w.heap.size w w' := by
 have hu30 := Try.underlying30
 have hu24 := Try.underlying24
 have hu51 := Try.underlying51
 have hu54 := Try.underlying54
 have hu57 := Try.underlying57
 have hu60 := Try.underlying60
 have hu63 := Try.underlying63
 have hu66 := Try.underlying66
 have hu69 := Try.underlying69
 have HL := Aside0.mk hL
 have HA := Aside0.mk hA
 clear hL hA
 go_enter Try.func7, Try.ntmps7
 go_wp2_with (first | ((with_reducible refine gate_dst (N := 3) rfl ?_); refine box_event ?hg (N := 3) ?hd (cs := #[.int .i64 kd, .int .u64 tr, .int .u64 bn, .int .u64 bd, .int .u64 sn, .int .u64 sd, .int .i64 v, .bool ok, .slice A8 l8.length c8, .slice A9 l9.length c9, .slice A10 l10.length c10]) (t := 30) ?hr ?_; (case hd => rfl); (case hg => rfl); (case hr => first | (go_simp; done) | (go_simp; rfl)); intro gp hg w1 hbox hb; have HB1 := Aside0.mk hb; have BK1 := Aside0.mk hbox; clear hb hbox hg; obtain ⟨hp_0, hp_1, hp_2, hp_3, hp_4, hp_5, hp_6, hp_7, hp_8, hp_9, hp_10⟩ := Hand.Cz.c11 BK1.out) | (go_at_call 12; refine (HL.out _ HB1.out).mono ?_; rintro e w2 ⟨rfl, hb⟩; have BK2 := Aside0.mk (blk_below BK1.out hb); have HB2 := Aside0.mk (below_step HB1.out hb); clear hb; clear hp_0 hp_1 hp_2 hp_3 hp_4 hp_5 hp_6 hp_7 hp_8 hp_9 hp_10; obtain ⟨hp_0, hp_1, hp_2, hp_3, hp_4, hp_5, hp_6, hp_7, hp_8, hp_9, hp_10⟩ := Hand.Cz.c11 BK2.out) | (go_at_call 15; refine (HA.out _).mono ?_; rintro e wA ⟨rfl, hb⟩; have HBA := Aside0.mk (below_step HB2.out hb); clear hb))
 go_ret
 exact ⟨rfl, HBA.out⟩

set_option maxHeartbeats 8000000 in
set_option maxRecDepth 100000 in
theorem back_bad (kd tr bn bd sn sd v cut more : Int) (ok : Bool) (A8 : Option Addr) (c8 : Nat) (l8 : List S76) (A9 : Option Addr) (c9 : Nat) (l9 : List S92) (A10 : Option Addr) (c10 : Nat) (l10 : List Int) (w : World) (hL : ∀ W, Below w.heap.size w W → Calls Try.prog 12 #[.agg #[.int .i64 kd, .int .u64 tr, .int .u64 bn, .int .u64 bd, .int .u64 sn, .int .u64 sd, .int .i64 v, .bool ok, .slice A8 l8.length c8, .slice A9 l9.length c9, .slice A10 l10.length c10]] W fun e w' => e = .returned (.bool true) ∧ Below W.heap.size W w') (hE : ∀ W, Below w.heap.size w W → Calls Try.prog 16 #[.agg #[.int .i64 kd, .int .u64 tr, .int .u64 bn, .int .u64 bd, .int .u64 sn, .int .u64 sd, .int .i64 v, .bool ok, .slice A8 l8.length c8, .slice A9 l9.length c9, .slice A10 l10.length c10]] W fun e w' => ∃ v : Value, e = .returned (.tuple #[v, .int .i64 6]) ∧ Kd.R (Kd.int .u8) 5 w' W.heap.size (fun _ => True) v [] ∧ Below W.heap.size W w') (hR : ∀ W, Below w.heap.size w W → Calls Try.prog 13 #[.agg #[.int .i64 kd, .int .u64 tr, .int .u64 bn, .int .u64 bd, .int .u64 sn, .int .u64 sd, .int .i64 v, .bool ok, .slice A8 l8.length c8, .slice A9 l9.length c9, .slice A10 l10.length c10]] W fun e w' => e = .returned (.int .i64 6) ∧ Below W.heap.size W w') (hA : ∀ W, Calls Try.prog 15 #[] W fun e w' => e = .returned (.bool true) ∧ Below W.heap.size W w') :
  Calls Try.prog 7 #[.agg #[.int .i64 kd, .int .u64 tr, .int .u64 bn, .int .u64 bd, .int .u64 sn, .int .u64 sd, .int .i64 v, .bool ok, .slice A8 l8.length c8, .slice A9 l9.length c9, .slice A10 l10.length c10], .int .i64 cut, .int .u8 more] w fun e w' => e = .returned (.bool true) ∧ Below w.heap.size w w' := by
 have hu30 := Try.underlying30
 have hu24 := Try.underlying24
 have hu51 := Try.underlying51
 have hu54 := Try.underlying54
 have hu57 := Try.underlying57
 have hu60 := Try.underlying60
 have hu63 := Try.underlying63
 have hu66 := Try.underlying66
 have hu69 := Try.underlying69
 have HL := Aside0.mk hL
 have HA := Aside0.mk hA
 have HE := Aside0.mk hE
 have HR := Aside0.mk hR
 clear hL hA hE hR
 go_enter Try.func7, Try.ntmps7
 go_wp2_with (first | ((with_reducible refine gate_dst (N := 3) rfl ?_); refine box_event ?hg (N := 3) ?hd (cs := #[.int .i64 kd, .int .u64 tr, .int .u64 bn, .int .u64 bd, .int .u64 sn, .int .u64 sd, .int .i64 v, .bool ok, .slice A8 l8.length c8, .slice A9 l9.length c9, .slice A10 l10.length c10]) (t := 30) ?hr ?_; (case hd => rfl); (case hg => rfl); (case hr => first | (go_simp; done) | (go_simp; rfl)); intro gp hg w1 hbox hb; have HB1 := Aside0.mk hb; have BK1 := Aside0.mk hbox; clear hb hbox hg; obtain ⟨hp_0, hp_1, hp_2, hp_3, hp_4, hp_5, hp_6, hp_7, hp_8, hp_9, hp_10⟩ := Hand.Cz.c11 BK1.out) | (go_at_call 12; refine (HL.out _ HB1.out).mono ?_; rintro e w2 ⟨rfl, hb⟩; have BK2 := Aside0.mk (blk_below BK1.out hb); have HB2 := Aside0.mk (below_step HB1.out hb); clear hb; clear hp_0 hp_1 hp_2 hp_3 hp_4 hp_5 hp_6 hp_7 hp_8 hp_9 hp_10; obtain ⟨hp_0, hp_1, hp_2, hp_3, hp_4, hp_5, hp_6, hp_7, hp_8, hp_9, hp_10⟩ := Hand.Cz.c11 BK2.out) | (go_at_call 16; refine (HE.out _ HB2.out).mono ?_; rintro e w3 ⟨v0, rfl, hR, hb⟩; obtain ⟨A, c, rfl⟩ := Kd.R_slice hR; have BK3 := Aside0.mk (blk_below BK2.out hb); have HB3 := Aside0.mk (below_step HB2.out hb); clear hb hR; clear hp_0 hp_1 hp_2 hp_3 hp_4 hp_5 hp_6 hp_7 hp_8 hp_9 hp_10; obtain ⟨hp_0, hp_1, hp_2, hp_3, hp_4, hp_5, hp_6, hp_7, hp_8, hp_9, hp_10⟩ := Hand.Cz.c11 BK3.out) | (go_at_call 13; refine (HR.out _ HB3.out).mono ?_; rintro e w8 ⟨rfl, hb⟩; have HB8 := Aside0.mk (below_step HB3.out hb); clear hb; clear hp_0 hp_1 hp_2 hp_3 hp_4 hp_5 hp_6 hp_7 hp_8 hp_9 hp_10) | (go_at_call 15; refine (HA.out _).mono ?_; rintro e wA ⟨rfl, hb⟩; have HBA := Aside0.mk (below_step HB8.out hb); clear hb))
 go_ret
 exact ⟨rfl, HBA.out⟩

set_option maxHeartbeats 8000000 in
set_option maxRecDepth 100000 in
theorem back_good (kd tr bn bd sn sd v cut more : Int) (ok : Bool) (A8 : Option Addr) (c8 : Nat) (l8 : List S76) (A9 : Option Addr) (c9 : Nat) (l9 : List S92) (A10 : Option Addr) (c10 : Nat) (l10 : List Int) (w : World) (F : List Int) (hF : F.length ≤ 100000) (hL : ∀ W, Below w.heap.size w W → Calls Try.prog 12 #[.agg #[.int .i64 kd, .int .u64 tr, .int .u64 bn, .int .u64 bd, .int .u64 sn, .int .u64 sd, .int .i64 v, .bool ok, .slice A8 l8.length c8, .slice A9 l9.length c9, .slice A10 l10.length c10]] W fun e w' => e = .returned (.bool true) ∧ Below W.heap.size W w') (hE : ∀ W, Below w.heap.size w W → Calls Try.prog 16 #[.agg #[.int .i64 kd, .int .u64 tr, .int .u64 bn, .int .u64 bd, .int .u64 sn, .int .u64 sd, .int .i64 v, .bool ok, .slice A8 l8.length c8, .slice A9 l9.length c9, .slice A10 l10.length c10]] W fun e w' => ∃ v : Value, e = .returned (.tuple #[v, .int .i64 0]) ∧ Kd.R (Kd.int .u8) 5 w' W.heap.size (fun _ => True) v F ∧ Below W.heap.size W w') (hD : ∀ (A : Option Addr) (c : Nat) (W : World), Kd.C (Kd.int .u8) W A F.length F → F.length ≤ c → Calls Try.prog 19 #[.slice A F.length c] W fun e w' => ∃ v8 v9 v10 : Value, e = .returned (.tuple #[.agg #[.int .i64 kd, .int .u64 tr, .int .u64 bn, .int .u64 bd, .int .u64 sn, .int .u64 sd, .int .i64 v, .bool ok, v8, v9, v10], .int .i64 0]) ∧ Kd.R k76 76 w' W.heap.size (fun _ => True) v8 l8 ∧ Kd.R k92 92 w' W.heap.size (fun _ => True) v9 l9 ∧ Kd.R (Kd.int .u64) 22 w' W.heap.size (fun _ => True) v10 l10 ∧ Below W.heap.size W w') (hM : ∀ (A : Option Addr) (c : Nat) (W : World), Kd.C (Kd.int .u8) W A (F.length + 1) (F ++ [more]) → F.length + 1 ≤ c → Calls Try.prog 19 #[.slice A (F.length + 1) c] W fun e w' => e = .returned (.tuple #[.agg #[.int .i64 0, .int .u64 0, .int .u64 0, .int .u64 0, .int .u64 0, .int .u64 0, .int .i64 0, .bool false, .slice none 0 0, .slice none 0 0, .slice none 0 0], .int .i64 6]) ∧ Below W.heap.size W w') (hX : ∀ (m : Nat), m < F.length → ∀ (A : Option Addr) (c : Nat) (W : World), Kd.C (Kd.int .u8) W A m (F.take m) → m ≤ c → Calls Try.prog 19 #[.slice A m c] W fun e w' => e = .returned (.tuple #[.agg #[.int .i64 0, .int .u64 0, .int .u64 0, .int .u64 0, .int .u64 0, .int .u64 0, .int .i64 0, .bool false, .slice none 0 0, .slice none 0 0, .slice none 0 0], .int .i64 3]) ∧ Below W.heap.size W w') (hS : ∀ (W : World) (A8x : Option Addr) (c8x : Nat) (A9x : Option Addr) (c9x : Nat) (A10x : Option Addr) (c10x : Nat), Below w.heap.size w W → Kd.C k76 W A8x l8.length l8 → l8.length ≤ c8x → Kd.C k92 W A9x l9.length l9 → l9.length ≤ c9x → Kd.C (Kd.int .u64) W A10x l10.length l10 → l10.length ≤ c10x → Calls Try.prog 21 #[.agg #[.int .i64 kd, .int .u64 tr, .int .u64 bn, .int .u64 bd, .int .u64 sn, .int .u64 sd, .int .i64 v, .bool ok, .slice A8 l8.length c8, .slice A9 l9.length c9, .slice A10 l10.length c10], .agg #[.int .i64 kd, .int .u64 tr, .int .u64 bn, .int .u64 bd, .int .u64 sn, .int .u64 sd, .int .i64 v, .bool ok, .slice A8x l8.length c8x, .slice A9x l9.length c9x, .slice A10x l10.length c10x]] W fun e w' => e = .returned (.bool true) ∧ Below W.heap.size W w') (hA : ∀ W, Calls Try.prog 15 #[] W fun e w' => e = .returned (.bool true) ∧ Below W.heap.size W w') :
  Calls Try.prog 7 #[.agg #[.int .i64 kd, .int .u64 tr, .int .u64 bn, .int .u64 bd, .int .u64 sn, .int .u64 sd, .int .i64 v, .bool ok, .slice A8 l8.length c8, .slice A9 l9.length c9, .slice A10 l10.length c10], .int .i64 cut, .int .u8 more] w fun e w' => e = .returned (.bool true) ∧ Below w.heap.size w w' := by
 have hu30 := Try.underlying30
 have hu24 := Try.underlying24
 have hu51 := Try.underlying51
 have hu54 := Try.underlying54
 have hu57 := Try.underlying57
 have hu60 := Try.underlying60
 have hu63 := Try.underlying63
 have hu66 := Try.underlying66
 have hu69 := Try.underlying69
 have hu35 := Try.underlying35
 have HL := Aside0.mk hL
 have HA := Aside0.mk hA
 have HE := Aside0.mk hE
 have HD := Aside0.mk hD
 have HM := Aside0.mk hM
 have HX := Aside0.mk hX
 have HS := Aside0.mk hS
 have HF := Aside0.mk hF
 clear hL hA hE hD hM hX hS hF
 go_enter Try.func7, Try.ntmps7
 go_upto_region 7 with (first | ((with_reducible refine gate_dst (N := 3) rfl ?_); refine box_event ?hg (N := 3) ?hd (cs := #[.int .i64 kd, .int .u64 tr, .int .u64 bn, .int .u64 bd, .int .u64 sn, .int .u64 sd, .int .i64 v, .bool ok, .slice A8 l8.length c8, .slice A9 l9.length c9, .slice A10 l10.length c10]) (t := 30) ?hr ?_; (case hd => rfl); (case hg => rfl); (case hr => first | (go_simp; done) | (go_simp; rfl)); intro gp hg w1 hbox hb; have HB1 := Aside0.mk hb; have BK1 := Aside0.mk hbox; clear hb hbox hg; obtain ⟨hp_0, hp_1, hp_2, hp_3, hp_4, hp_5, hp_6, hp_7, hp_8, hp_9, hp_10⟩ := Hand.Cz.c11 BK1.out) | (go_at_call 12; refine (HL.out _ HB1.out).mono ?_; rintro e w2 ⟨rfl, hb⟩; have BK2 := Aside0.mk (blk_below BK1.out hb); have HB2 := Aside0.mk (below_step HB1.out hb); clear hb; clear hp_0 hp_1 hp_2 hp_3 hp_4 hp_5 hp_6 hp_7 hp_8 hp_9 hp_10; obtain ⟨hp_0, hp_1, hp_2, hp_3, hp_4, hp_5, hp_6, hp_7, hp_8, hp_9, hp_10⟩ := Hand.Cz.c11 BK2.out) | (go_at_call 16; refine (HE.out _ HB2.out).mono ?_; rintro e w3 ⟨v0, rfl, hR, hb⟩; obtain ⟨A, c, rfl⟩ := Kd.R_slice hR; have BK3 := Aside0.mk (blk_below BK2.out hb); have HB3 := Aside0.mk (below_step HB2.out hb); have HR3 := Aside0.mk (Kd.R_lower hR HB2.out.size); clear hb hR; clear hp_0 hp_1 hp_2 hp_3 hp_4 hp_5 hp_6 hp_7 hp_8 hp_9 hp_10) | (go_at_call 19; refine (HD.out _ _ _ (Kd.R_reads' HR3.out).2.2 (Kd.R_reads' HR3.out).2.1).mono ?_; rintro e w4 ⟨v8, v9, v10, rfl, r8, r9, r10, hb⟩; obtain ⟨A8x, c8x, rfl⟩ := Kd.R_slice r8; obtain ⟨A9x, c9x, rfl⟩ := Kd.R_slice r9; obtain ⟨A10x, c10x, rfl⟩ := Kd.R_slice r10; have BK4 := Aside0.mk (blk_below BK3.out hb); have HR4 := Aside0.mk (Kd.R_below HR3.out hb); have R8 := Aside0.mk (Kd.R_lower r8 HB3.out.size); have R9 := Aside0.mk (Kd.R_lower r9 HB3.out.size); have R10 := Aside0.mk (Kd.R_lower r10 HB3.out.size); have HB4 := Aside0.mk (below_step HB3.out hb); clear hb r8 r9 r10) | ((with_reducible refine gate_dst (N := 9) rfl ?_); refine box_event ?hg (N := 9) ?hd (cs := #[.int .i64 0, .int .u64 0, .int .u64 0, .int .u64 0, .int .u64 0, .int .u64 0, .int .i64 0, .bool false, .slice none 0 0, .slice none 0 0, .slice none 0 0]) (t := 30) ?hr ?_; (case hd => rfl); (case hg => rfl); (case hr => first | (go_simp; done) | (go_simp; rfl)); intro g9 hg w5 hbox hb; have HGg9 := Aside0.mk (show w.heap.size ≤ g9 from by rw [hg]; exact HB4.out.size); have NEg9 := Aside0.mk (show gp ≠ g9 from by have := blk_lt BK4.out; omega); have HRb := Aside0.mk (mdec.R_new HR4.out hb (Nat.le_of_eq hg.symm)); have R8b := Aside0.mk (mdec.R_new R8.out hb (Nat.le_of_eq hg.symm)); have R9b := Aside0.mk (mdec.R_new R9.out hb (Nat.le_of_eq hg.symm)); have R10b := Aside0.mk (mdec.R_new R10.out hb (Nat.le_of_eq hg.symm)); have BKb := Aside0.mk (blk_below BK4.out hb); have HBb := Aside0.mk (below_step HB4.out hb); have BXg9 := Aside0.mk hbox; clear hg hbox hb; obtain ⟨ha_0, ha_1, ha_2, ha_3, ha_4, ha_5, ha_6, ha_7, ha_8, ha_9, ha_10⟩ := Hand.Cz.c11 BXg9.out; obtain ⟨hb_0, hb_1, hb_2, hb_3, hb_4, hb_5, hb_6, hb_7, hb_8, hb_9, hb_10⟩ := Hand.Cz.f11 BXg9.out))
 generalize hWq : World.setCell _ (Addr.mk g9 10 none) _ = w6
 have BQ6 := Aside0.mk (show w6.heap[g9]? = some (.cells #[.int .i64 kd, .int .u64 tr, .int .u64 bn, .int .u64 bd, .int .u64 sn, .int .u64 sd, .int .i64 v, .bool ok, .slice A8x l8.length c8x, .slice A9x l9.length c9x, .slice A10x l10.length c10x] 30 (0, 0)) from by rw [← hWq]; exact Hand.Cz.p11 BXg9.out)
 have HB6 := Aside0.mk (show Below w.heap.size w w6 from by rw [← hWq]; exact Hand.Cz.b11 HBb.out HGg9.out)
 have BK6 := Aside0.mk (show w6.heap[gp]? = some (.cells #[.int .i64 kd, .int .u64 tr, .int .u64 bn, .int .u64 bd, .int .u64 sn, .int .u64 sd, .int .i64 v, .bool ok, .slice A8 l8.length c8, .slice A9 l9.length c9, .slice A10 l10.length c10] 30 (0, 0)) from by rw [← hWq]; exact Hand.Cz.o11 BKb.out NEg9.out)
 have HR6 := Aside0.mk (show Kd.R (Kd.int .u8) 5 w6 w.heap.size (fun _ => True) (.slice A F.length c) F from by rw [← hWq]; exact Kd.R_mono (Hand.Cz.r11 HRb.out) (fun _ _ => trivial))
 have R86 := Aside0.mk (show Kd.R (k76) 76 w6 w.heap.size (fun _ => True) (.slice A8x l8.length c8x) l8 from by rw [← hWq]; exact Kd.R_mono (Hand.Cz.r11 R8b.out) (fun _ _ => trivial))
 have R96 := Aside0.mk (show Kd.R (k92) 92 w6 w.heap.size (fun _ => True) (.slice A9x l9.length c9x) l9 from by rw [← hWq]; exact Kd.R_mono (Hand.Cz.r11 R9b.out) (fun _ _ => trivial))
 have R106 := Aside0.mk (show Kd.R (Kd.int .u64) 22 w6 w.heap.size (fun _ => True) (.slice A10x l10.length c10x) l10 from by rw [← hWq]; exact Kd.R_mono (Hand.Cz.r11 R10b.out) (fun _ _ => trivial))
 clear hWq HBb BXg9 BKb HRb R8b R9b R10b  ha_0 ha_1 ha_2 ha_3 ha_4 ha_5 ha_6 ha_7 ha_8 ha_9 ha_10 hb_0 hb_1 hb_2 hb_3 hb_4 hb_5 hb_6 hb_7 hb_8 hb_9 hb_10
 have HFL := Aside0.mk (show (([] ++ F : List Int).length + 1) * 1 ≤ 140737488355328 from by have := HF.out; simp; omega)
 go_upto_region 8 with (first | ((with_reducible refine gate_dst (N := 44) rfl ?_); refine Kd.R_lit (Kd.int .u8) _ 5 ?hg (N := 44) ?hd (xs := ([] : List Int)) (inner := []) (ok := fun _ => True) (okp := fun _ => True) ?hr ?hp (fun _ hk => hk) trivial (Below.refl _ _) (Nat.le_refl _) (by simp) ?_; (case hd => rfl); (case hg => rfl); (case hr => first | (go_simp; done) | (go_simp; rfl)); (case hp => exact (Reps.none _ _)); intro v44 w7 ho hb hg_ hnew_; have HO7 := Aside0.mk ho; have HB7 := Aside0.mk hb; clear ho hb hg_ hnew_) | ((with_reducible refine gate_builtin (b := .append) (xs := #[.tmp 44, .tmp 45]) rfl ?_); at_builtin; refine Kd.R_append_rows (Kd.int .u8) (w0 := w6) w6.heap.size rfl (.tmp 44) (.tmp 45) 35 5 (.int .u8 0) 1 rfl Try.underlying35 info5 rfl (by decide) (by omega) v44 [] F _ _ _ (fun _ => True) (fun _ => False) rfl rfl ?aO ?aR (fun _ _ h => h) (fun _ h => h.elim) ?aF ?aB ?aS ?aL ?_; (case aR => exact Kd.C_below (Kd.R_reads' HR6.out).2.2 HB7.out); (case aB => exact HB7.out); (case aF => exact (fun _ _ => trivial)); (case aO => exact HO7.out); (case aS => exact HB7.out.size); (case aL => have := HF.out; simp; omega); intro v46 w8 ho hb hg hat; have HO8 := Aside0.mk ho; have HB8 := Aside0.mk hb; clear ho hb hg hat) | ((with_reducible refine gate_builtin (b := .append) (xs := #[.tmp 46, .tmp 48]) rfl ?_); at_builtin; refine Kd.R_append (Kd.int .u8) (w0 := w6) w6.heap.size rfl (.tmp 46) (.tmp 48) 35 5 (.int .u8 0) 1 rfl Try.underlying35 info5 rfl (by decide) (by decide) _ ([] ++ F) more [.int .u8 more] (fun _ => True) (fun _ => False) rfl rfl rfl (fun _ hk => hk.elim) (fun _ _ => trivial) HO8.out HB8.out HB8.out.size HFL.out ?_; intro v49 w9 ho hb hg hat; rw [List.nil_append] at ho; obtain ⟨A49, c49, rfl⟩ := Kd.R_slice ho; have HO9 := Aside0.mk ho; have HB9 := Aside0.mk hb; clear ho hb hg hat) | (go_at_call 19; refine (HM.out _ _ _ (by have := (Kd.R_reads' HO9.out).2.2; rwa [show (F ++ [more]).length = F.length + 1 from by simp] at this) (by have := (Kd.R_reads' HO9.out).2.1; rwa [show (F ++ [more]).length = F.length + 1 from by simp] at this)).mono ?_; rintro e w10 ⟨rfl, hb⟩; have HT := Aside0.mk (below_step HB9.out hb); have BQ10 := Aside0.mk (blk_below BQ6.out HT.out); have BK10 := Aside0.mk (blk_below BK6.out HT.out); have HR10 := Aside0.mk (Kd.R_below HR6.out HT.out); have R810 := Aside0.mk (Kd.R_below R86.out HT.out); have R910 := Aside0.mk (Kd.R_below R96.out HT.out); have R1010 := Aside0.mk (Kd.R_below R106.out HT.out); have HB10 := Aside0.mk (below_step HB6.out HT.out); clear hb) | ((with_reducible refine gate_dst (N := 11) rfl ?_); refine box_event ?hg (N := 11) ?hd (cs := #[.int .i64 0, .int .u64 0, .int .u64 0, .int .u64 0, .int .u64 0, .int .u64 0, .int .i64 0, .bool false, .slice none 0 0, .slice none 0 0, .slice none 0 0]) (t := 30) ?hr ?_; (case hd => rfl); (case hg => rfl); (case hr => first | (go_simp; done) | (go_simp; rfl)); intro g11 hg w11 hbox hb; have HGg11 := Aside0.mk (show w.heap.size ≤ g11 from by rw [hg]; exact HB10.out.size); have NEg11 := Aside0.mk (show gp ≠ g11 from by have := blk_lt BK10.out; omega); have NE9g11 := Aside0.mk (show g9 ≠ g11 from by have := blk_lt BQ10.out; omega); have BQb := Aside0.mk (blk_below BQ10.out hb); have HRb := Aside0.mk (mdec.R_new HR10.out hb (Nat.le_of_eq hg.symm)); have R8b := Aside0.mk (mdec.R_new R810.out hb (Nat.le_of_eq hg.symm)); have R9b := Aside0.mk (mdec.R_new R910.out hb (Nat.le_of_eq hg.symm)); have R10b := Aside0.mk (mdec.R_new R1010.out hb (Nat.le_of_eq hg.symm)); have BKb := Aside0.mk (blk_below BK10.out hb); have HBb := Aside0.mk (below_step HB10.out hb); have BXg11 := Aside0.mk hbox; clear hg hbox hb; obtain ⟨ha_0, ha_1, ha_2, ha_3, ha_4, ha_5, ha_6, ha_7, ha_8, ha_9, ha_10⟩ := Hand.Cz.c11 BXg11.out; obtain ⟨hb_0, hb_1, hb_2, hb_3, hb_4, hb_5, hb_6, hb_7, hb_8, hb_9, hb_10⟩ := Hand.Cz.f11 BXg11.out))
 generalize hWq : World.setCell _ (Addr.mk g11 10 none) _ = w12
 have BZ12 := Aside0.mk (show w12.heap[g11]? = some (.cells #[.int .i64 0, .int .u64 0, .int .u64 0, .int .u64 0, .int .u64 0, .int .u64 0, .int .i64 0, .bool false, .slice none 0 0, .slice none 0 0, .slice none 0 0] 30 (0, 0)) from by rw [← hWq]; exact Hand.Cz.p11 BXg11.out)
 have HB12 := Aside0.mk (show Below w.heap.size w w12 from by rw [← hWq]; exact Hand.Cz.b11 HBb.out HGg11.out)
 have BK12 := Aside0.mk (show w12.heap[gp]? = some (.cells #[.int .i64 kd, .int .u64 tr, .int .u64 bn, .int .u64 bd, .int .u64 sn, .int .u64 sd, .int .i64 v, .bool ok, .slice A8 l8.length c8, .slice A9 l9.length c9, .slice A10 l10.length c10] 30 (0, 0)) from by rw [← hWq]; exact Hand.Cz.o11 BKb.out NEg11.out)
 have BQ12 := Aside0.mk (show w12.heap[g9]? = some (.cells #[.int .i64 kd, .int .u64 tr, .int .u64 bn, .int .u64 bd, .int .u64 sn, .int .u64 sd, .int .i64 v, .bool ok, .slice A8x l8.length c8x, .slice A9x l9.length c9x, .slice A10x l10.length c10x] 30 (0, 0)) from by rw [← hWq]; exact Hand.Cz.o11 BQb.out NE9g11.out)
 have HR12 := Aside0.mk (show Kd.R (Kd.int .u8) 5 w12 w.heap.size (fun _ => True) (.slice A F.length c) F from by rw [← hWq]; exact Kd.R_mono (Hand.Cz.r11 HRb.out) (fun _ _ => trivial))
 have R812 := Aside0.mk (show Kd.R (k76) 76 w12 w.heap.size (fun _ => True) (.slice A8x l8.length c8x) l8 from by rw [← hWq]; exact Kd.R_mono (Hand.Cz.r11 R8b.out) (fun _ _ => trivial))
 have R912 := Aside0.mk (show Kd.R (k92) 92 w12 w.heap.size (fun _ => True) (.slice A9x l9.length c9x) l9 from by rw [← hWq]; exact Kd.R_mono (Hand.Cz.r11 R9b.out) (fun _ _ => trivial))
 have R1012 := Aside0.mk (show Kd.R (Kd.int .u64) 22 w12 w.heap.size (fun _ => True) (.slice A10x l10.length c10x) l10 from by rw [← hWq]; exact Kd.R_mono (Hand.Cz.r11 R10b.out) (fun _ _ => trivial))
 clear hWq HBb BXg11 BKb HRb R8b R9b R10b BQb ha_0 ha_1 ha_2 ha_3 ha_4 ha_5 ha_6 ha_7 ha_8 ha_9 ha_10 hb_0 hb_1 hb_2 hb_3 hb_4 hb_5 hb_6 hb_7 hb_8 hb_9 hb_10
 obtain ⟨hp_0, hp_1, hp_2, hp_3, hp_4, hp_5, hp_6, hp_7, hp_8, hp_9, hp_10⟩ := Hand.Cz.c11 BK12.out
 obtain ⟨hq_0, hq_1, hq_2, hq_3, hq_4, hq_5, hq_6, hq_7, hq_8, hq_9, hq_10⟩ := Hand.Cz.c11 BQ12.out
 go_upto_region 10 with (go_at_call 21; refine (HS.out _ A8x c8x A9x c9x A10x c10x HB12.out (Kd.R_reads' R812.out).2.2 (Kd.R_reads' R812.out).2.1 (Kd.R_reads' R912.out).2.2 (Kd.R_reads' R912.out).2.1 (Kd.R_reads' R1012.out).2.2 (Kd.R_reads' R1012.out).2.1).mono ?_; rintro e w13 ⟨rfl, hb⟩; have HR13 := Aside0.mk (Kd.R_below HR12.out hb); have HB13 := Aside0.mk (below_step HB12.out hb); clear hb; clear hp_0 hp_1 hp_2 hp_3 hp_4 hp_5 hp_6 hp_7 hp_8 hp_9 hp_10 hq_0 hq_1 hq_2 hq_3 hq_4 hq_5 hq_6 hq_7 hq_8 hq_9 hq_10)
 by_cases c1 : cut < 0
 ·have c1b : decide (cut < 0) = true := decide_eq_true c1
  go_wp2_with (go_at_call 15; refine (HA.out _).mono ?_; rintro e wA ⟨rfl, hb⟩; have HBA := Aside0.mk (below_step HB13.out hb); clear hb)
  go_ret
  exact ⟨rfl, HBA.out⟩
 ·have c1b : decide (cut < 0) = false := decide_eq_false c1
  by_cases c2 : cut ≥ (F.length : Int)
  ·have c2b : decide (cut ≥ (F.length : Int)) = true := decide_eq_true c2
   have c2c : decide ((F.length : Int) ≤ cut) = true := decide_eq_true c2
   go_wp2_with (go_at_call 15; refine (HA.out _).mono ?_; rintro e wA ⟨rfl, hb⟩; have HBA := Aside0.mk (below_step HB13.out hb); clear hb)
   go_ret
   exact ⟨rfl, HBA.out⟩
  ·have c2b : decide (cut ≥ (F.length : Int)) = false := decide_eq_false c2
   have c2c : decide ((F.length : Int) ≤ cut) = false := decide_eq_false c2
   obtain ⟨m, rfl⟩ := Int.eq_ofNat_of_zero_le (show 0 ≤ cut by omega)
   have hm : m < F.length := by omega
   have HMM := Aside0.mk hm
   have hsl : ∀ W : World, (Instr.slice 35 (.slice A F.length c) none (some (.int .i64 (m : Int))) none).run Try.prog W = .ok (.slice A m c) W := fun W => cut_to 35 5 .i64 Try.underlying35 rfl A F.length c (m : Int) (by omega) (by omega) (Kd.R_reads' HR13.out).2.1 W
   go_upto_region 13 with (first | (go_at_call 19; refine (HX.out m HMM.out A c _ (by have := Kd.C_take (Kd.R_reads' HR13.out).2.2 (Nat.le_of_lt HMM.out); rwa [show (F.take m).length = m from by rw [List.length_take]; have := HMM.out; omega] at this) (Nat.le_trans (Nat.le_of_lt HMM.out) (Kd.R_reads' HR13.out).2.1)).mono ?_; rintro e w14 ⟨rfl, hb⟩; have HB14 := Aside0.mk (below_step HB13.out hb); clear hb) | ((with_reducible refine gate_dst (N := 13) rfl ?_); refine box_event ?hg (N := 13) ?hd (cs := #[.int .i64 0, .int .u64 0, .int .u64 0, .int .u64 0, .int .u64 0, .int .u64 0, .int .i64 0, .bool false, .slice none 0 0, .slice none 0 0, .slice none 0 0]) (t := 30) ?hr ?_; (case hd => rfl); (case hg => rfl); (case hr => first | (go_simp; done) | (go_simp; rfl)); intro g13 hg w15 hbox hb; have HG13 := Aside0.mk (show w.heap.size ≤ g13 from by rw [hg]; exact HB14.out.size); have HB15 := Aside0.mk (below_step HB14.out hb); have BX13 := Aside0.mk hbox; clear hg hbox hb; obtain ⟨ha_0, ha_1, ha_2, ha_3, ha_4, ha_5, ha_6, ha_7, ha_8, ha_9, ha_10⟩ := Hand.Cz.c11 BX13.out; obtain ⟨hb_0, hb_1, hb_2, hb_3, hb_4, hb_5, hb_6, hb_7, hb_8, hb_9, hb_10⟩ := Hand.Cz.f11 BX13.out))
   generalize hWq : World.setCell _ (Addr.mk g13 10 none) _ = w16
   have HB16 := Aside0.mk (show Below w.heap.size w w16 from by rw [← hWq]; exact Hand.Cz.b11 HB15.out HG13.out)
   clear hWq HB15 BX13 ha_0 ha_1 ha_2 ha_3 ha_4 ha_5 ha_6 ha_7 ha_8 ha_9 ha_10 hb_0 hb_1 hb_2 hb_3 hb_4 hb_5 hb_6 hb_7 hb_8 hb_9 hb_10
   go_wp2_with (go_at_call 15; refine (HA.out _).mono ?_; rintro e wA ⟨rfl, hb⟩; have HBA := Aside0.mk (below_step HB16.out hb); clear hb)
   go_ret
   exact ⟨rfl, HBA.out⟩

end Go.Proofs.Ytlpnpnjjmpkapaa.PAll
