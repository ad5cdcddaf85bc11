import Derived.Test.YtlpnpnjjmpkapaaPAllx0
import Derived.Test.YtlpnpnjjmpkapaaPAllx1
import Derived.Test.YtlpnpnjjmpkapaaPAllx3
import Derived.Test.YtlpnpnjjmpkapaaPAllx13
namespace Go.Proofs.Ytlpnpnjjmpkapaa.PAll
open Go.RowKit Go.Proofs.YtlpnpnjjmpkapaaW.PrintWords Go.Proofs.YtlpnpnjjmpkapaaW.PrintLast Go.Proofs.YtlpnpnjjmpkapaaW.PrintMore
attribute [local go_sem] max2_int min2_int max_two min_two max_three min_three max_four min_four   -- for this text's walks alone
set_option linter.unusedVariables false
set_option linter.unusedSimpArgs false

attribute [local go_sem high] eqA24 eqA92
mutual
def winnowref05_Same.j0 : Nat → Bool → Int → Int → Int → Int → Int → Int → Int → Bool → List (S76) → List (S92) → List Int → Int → Int → Int → Int → Int → Int → Int → Bool → List (S76) → List (S92) → List Int → Option (Bool)
 | 0, _, _, _, _, _, _, _, _, _, _, _, _, _, _, _, _, _, _, _, _, _, _, _ => none
 | k + 1, x30, x189000, x189001, x189002, x189003, x189004, x189005, x189006, x189007, x189008, x189009, x189010, x190000, x190001, x190002, x190003, x190004, x190005, x190006, x190007, x190008, x190009, x190010 => if x30 = true then (some false) else (winnowref05_Same.l0 k 0 x189000 x189001 x189002 x189003 x189004 x189005 x189006 x189007 x189008 x189009 x189010 x190000 x190001 x190002 x190003 x190004 x190005 x190006 x190007 x190008 x190009 x190010)
def winnowref05_Same.l0 : Nat → Int → Int → Int → Int → Int → Int → Int → Int → Bool → List (S76) → List (S92) → List Int → Int → Int → Int → Int → Int → Int → Int → Bool → List (S76) → List (S92) → List Int → Option (Bool)
 | 0, _, _, _, _, _, _, _, _, _, _, _, _, _, _, _, _, _, _, _, _, _, _, _ => none
 | k + 1, x5, x189000, x189001, x189002, x189003, x189004, x189005, x189006, x189007, x189008, x189009, x189010, x190000, x190001, x190002, x190003, x190004, x190005, x190006, x190007, x190008, x190009, x190010 => if x5 < (x189009.length : Int) then (if 0 ≤ x5 then (if x5 < (x190009.length : Int) then (if (!(((rd_T92 x189009 x5).f0) == ((rd_T92 x190009 x5).f0)) || (!(((rd_T92 x189009 x5).f1) == ((rd_T92 x190009 x5).f1)) || (!(((rd_T92 x189009 x5).f2) == ((rd_T92 x190009 x5).f2))))) = true then (some false) else (winnowref05_Same.l0 k (wrap64 (x5 + 1)) x189000 x189001 x189002 x189003 x189004 x189005 x189006 x189007 x189008 x189009 x189010 x190000 x190001 x190002 x190003 x190004 x190005 x190006 x190007 x190008 x190009 x190010)) else (none)) else (none)) else (winnowref05_Same.l1 k 0 x189000 x189001 x189002 x189003 x189004 x189005 x189006 x189007 x189008 x189009 x189010 x190000 x190001 x190002 x190003 x190004 x190005 x190006 x190007 x190008 x190009 x190010)
def winnowref05_Same.l1 : Nat → Int → Int → Int → Int → Int → Int → Int → Int → Bool → List (S76) → List (S92) → List Int → Int → Int → Int → Int → Int → Int → Int → Bool → List (S76) → List (S92) → List Int → Option (Bool)
 | 0, _, _, _, _, _, _, _, _, _, _, _, _, _, _, _, _, _, _, _, _, _, _, _ => none
 | k + 1, x6, x189000, x189001, x189002, x189003, x189004, x189005, x189006, x189007, x189008, x189009, x189010, x190000, x190001, x190002, x190003, x190004, x190005, x190006, x190007, x190008, x190009, x190010 => if x6 < (x189010.length : Int) then (if 0 ≤ x6 then (if x6 < (x190010.length : Int) then (if (rd x189010 x6) = (rd x190010 x6) then (winnowref05_Same.l1 k (wrap64 (x6 + 1)) x189000 x189001 x189002 x189003 x189004 x189005 x189006 x189007 x189008 x189009 x189010 x190000 x190001 x190002 x190003 x190004 x190005 x190006 x190007 x190008 x190009 x190010) else (some false)) else (none)) else (none)) else (if x189000 = x190000 then (if x189001 = x190001 then (if (x189002 == x190002 && (x189003 == x190003)) = true then (if (x189004 == x190004 && (x189005 == x190005)) = true then (if x189006 = x190006 then (some (x189007 == x190007)) else (some false)) else (some false)) else (some false)) else (some false)) else (some false))
end
def winnowref05_Same.f (k : Nat) (a0_0 : Int) (a0_1 : Int) (a0_2 : Int) (a0_3 : Int) (a0_4 : Int) (a0_5 : Int) (a0_6 : Int) (a0_7 : Bool) (l0_8 : List (S76)) (l0_9 : List (S92)) (l0_10 : List Int) (a1_0 : Int) (a1_1 : Int) (a1_2 : Int) (a1_3 : Int) (a1_4 : Int) (a1_5 : Int) (a1_6 : Int) (a1_7 : Bool) (l1_8 : List (S76)) (l1_9 : List (S92)) (l1_10 : List Int) : Option (Bool) := if (l0_9.length : Int) = (l1_9.length : Int) then (if (l0_10.length : Int) = (l1_10.length : Int) then ((winnowref03_Spans.f k l0_8 l1_8).bind fun t190 => (winnowref05_Same.j0 k (!t190) a0_0 a0_1 a0_2 a0_3 a0_4 a0_5 a0_6 a0_7 l0_8 l0_9 l0_10 a1_0 a1_1 a1_2 a1_3 a1_4 a1_5 a1_6 a1_7 l1_8 l1_9 l1_10)) else (winnowref05_Same.j0 k true a0_0 a0_1 a0_2 a0_3 a0_4 a0_5 a0_6 a0_7 l0_8 l0_9 l0_10 a1_0 a1_1 a1_2 a1_3 a1_4 a1_5 a1_6 a1_7 l1_8 l1_9 l1_10)) else (winnowref05_Same.j0 k true a0_0 a0_1 a0_2 a0_3 a0_4 a0_5 a0_6 a0_7 l0_8 l0_9 l0_10 a1_0 a1_1 a1_2 a1_3 a1_4 a1_5 a1_6 a1_7 l1_8 l1_9 l1_10)
set_option maxHeartbeats 40000000 in
set_option maxRecDepth 100000 in
theorem winnowref05_Same.calls (k : Nat) (a0_0 : Int) (a0_1 : Int) (a0_2 : Int) (a0_3 : Int) (a0_4 : Int) (a0_5 : Int) (a0_6 : Int) (a0_7 : Bool) (A0_8 : Option Addr) (c0_8 : Nat) (l0_8 : List (S76)) (A0_9 : Option Addr) (c0_9 : Nat) (l0_9 : List (S92)) (A0_10 : Option Addr) (c0_10 : Nat) (l0_10 : List Int) (a1_0 : Int) (a1_1 : Int) (a1_2 : Int) (a1_3 : Int) (a1_4 : Int) (a1_5 : Int) (a1_6 : Int) (a1_7 : Bool) (A1_8 : Option Addr) (c1_8 : Nat) (l1_8 : List (S76)) (A1_9 : Option Addr) (c1_9 : Nat) (l1_9 : List (S92)) (A1_10 : Option Addr) (c1_10 : Nat) (l1_10 : List Int) (r : Bool) (w : World) (hr0_8 : Kd.C k76 w A0_8 l0_8.length l0_8) (hc0_8 : l0_8.length ≤ c0_8) (hr0_9 : Kd.C k92 w A0_9 l0_9.length l0_9) (hc0_9 : l0_9.length ≤ c0_9) (hr0_10 : Kd.C (Kd.int .u64) w A0_10 l0_10.length l0_10) (hc0_10 : l0_10.length ≤ c0_10) (hr1_8 : Kd.C k76 w A1_8 l1_8.length l1_8) (hc1_8 : l1_8.length ≤ c1_8) (hr1_9 : Kd.C k92 w A1_9 l1_9.length l1_9) (hc1_9 : l1_9.length ≤ c1_9) (hr1_10 : Kd.C (Kd.int .u64) w A1_10 l1_10.length l1_10) (hc1_10 : l1_10.length ≤ c1_10) (h : winnowref05_Same.f k a0_0 a0_1 a0_2 a0_3 a0_4 a0_5 a0_6 a0_7 l0_8 l0_9 l0_10 a1_0 a1_1 a1_2 a1_3 a1_4 a1_5 a1_6 a1_7 l1_8 l1_9 l1_10 = some r) :
  Calls Try.prog 21 #[.agg #[.int .i64 a0_0, .int .u64 a0_1, .int .u64 a0_2, .int .u64 a0_3, .int .u64 a0_4, .int .u64 a0_5, .int .i64 a0_6, .bool a0_7, .slice A0_8 l0_8.length c0_8, .slice A0_9 l0_9.length c0_9, .slice A0_10 l0_10.length c0_10], .agg #[.int .i64 a1_0, .int .u64 a1_1, .int .u64 a1_2, .int .u64 a1_3, .int .u64 a1_4, .int .u64 a1_5, .int .i64 a1_6, .bool a1_7, .slice A1_8 l1_8.length c1_8, .slice A1_9 l1_9.length c1_9, .slice A1_10 l1_10.length c1_10]] w fun e w' => e = .returned (.bool r) ∧ Below w.heap.size w w' := by
 have hu30 := Try.underlying30; have hu92 := Try.underlying92; have hu24 := Try.underlying24; have HR0_8 := Aside0.mk hr0_8; have HC0_8 := Aside0.mk hc0_8; clear hr0_8 hc0_8; have HR0_9 := Aside0.mk hr0_9; have HC0_9 := Aside0.mk hc0_9; clear hr0_9 hc0_9; have HR0_10 := Aside0.mk hr0_10; have HC0_10 := Aside0.mk hc0_10; clear hr0_10 hc0_10; have HR1_8 := Aside0.mk hr1_8; have HC1_8 := Aside0.mk hc1_8; clear hr1_8 hc1_8; have HR1_9 := Aside0.mk hr1_9; have HC1_9 := Aside0.mk hc1_9; clear hr1_9 hc1_9; have HR1_10 := Aside0.mk hr1_10; have HC1_10 := Aside0.mk hc1_10; clear hr1_10 hc1_10; have HB := Aside0.mk (Below.refl w.heap.size w)
 have H : (if (l0_9.length : Int) = (l1_9.length : Int) then (if (l0_10.length : Int) = (l1_10.length : Int) then ((winnowref03_Spans.f k l0_8 l1_8).bind fun t190 => (winnowref05_Same.j0 k (!t190) a0_0 a0_1 a0_2 a0_3 a0_4 a0_5 a0_6 a0_7 l0_8 l0_9 l0_10 a1_0 a1_1 a1_2 a1_3 a1_4 a1_5 a1_6 a1_7 l1_8 l1_9 l1_10)) else (winnowref05_Same.j0 k true a0_0 a0_1 a0_2 a0_3 a0_4 a0_5 a0_6 a0_7 l0_8 l0_9 l0_10 a1_0 a1_1 a1_2 a1_3 a1_4 a1_5 a1_6 a1_7 l1_8 l1_9 l1_10)) else (winnowref05_Same.j0 k true a0_0 a0_1 a0_2 a0_3 a0_4 a0_5 a0_6 a0_7 l0_8 l0_9 l0_10 a1_0 a1_1 a1_2 a1_3 a1_4 a1_5 a1_6 a1_7 l1_8 l1_9 l1_10)) = some r := h
 clear h; have HC3 := Aside0.mk H; clear H
 go_enter Try.func21, Try.ntmps21
 go_upto_region 1 with (first | ((with_reducible refine gate_dst (N := 2) rfl ?_); (try (refine gate_guard (by rfl) ?_; dsimp only)); refine box_event ?hg (N := 2) ?hd (cs := #[.int .i64 a0_0, .int .u64 a0_1, .int .u64 a0_2, .int .u64 a0_3, .int .u64 a0_4, .int .u64 a0_5, .int .i64 a0_6, .bool a0_7, .slice A0_8 l0_8.length c0_8, .slice A0_9 l0_9.length c0_9, .slice A0_10 l0_10.length c0_10]) (t := 30) ?hr ?_; (case hd => rfl); (case hg => rfl); (case hr => (go_simp; done)); intro gb188 hg w4 hbox hb; have n0_ := Aside0.mk (below_step (by repeat (with_reducible (exact HB.out))) hb); have n1_ := Aside0.mk (hbox); have n2_ := Aside0.mk ((by rw [hg]; exact (below_size (by repeat (with_reducible (exact HB.out)))) : w.heap.size ≤ gb188)); have n3_ := n2_; clear HB; have HB := n0_; have BK188 := n1_; have GW188 := n2_; have GE188 := n3_; clear n0_ n1_ n2_ n3_; clear hb hbox hg) | ((with_reducible refine gate_dst (N := 3) rfl ?_); (try (refine gate_guard (by rfl) ?_; dsimp only)); refine box_event ?hg (N := 3) ?hd (cs := #[.int .i64 a1_0, .int .u64 a1_1, .int .u64 a1_2, .int .u64 a1_3, .int .u64 a1_4, .int .u64 a1_5, .int .i64 a1_6, .bool a1_7, .slice A1_8 l1_8.length c1_8, .slice A1_9 l1_9.length c1_9, .slice A1_10 l1_10.length c1_10]) (t := 30) ?hr ?_; (case hd => rfl); (case hg => rfl); (case hr => (go_simp; done)); intro gb189 hg w5 hbox hb; have n0_ := Aside0.mk (blk_below (g := gb188) (o := .cells #[.int .i64 a0_0, .int .u64 a0_1, .int .u64 a0_2, .int .u64 a0_3, .int .u64 a0_4, .int .u64 a0_5, .int .i64 a0_6, .bool a0_7, .slice A0_8 l0_8.length c0_8, .slice A0_9 l0_9.length c0_9, .slice A0_10 l0_10.length c0_10] 30 (0, 0)) (by (with_reducible skip); exact BK188.out) hb); have n1_ := Aside0.mk (below_step (by repeat (with_reducible (exact HB.out))) hb); have n2_ := Aside0.mk (hbox); have n3_ := Aside0.mk ((by rw [hg]; exact (below_size (by repeat (with_reducible (exact HB.out)))) : w.heap.size ≤ gb189)); have n4_ := n3_; have n5_ := Aside0.mk ((by rw [hg]; exact Nat.ne_of_lt (blk_lt (g := gb188) (o := .cells #[.int .i64 a0_0, .int .u64 a0_1, .int .u64 a0_2, .int .u64 a0_3, .int .u64 a0_4, .int .u64 a0_5, .int .i64 a0_6, .bool a0_7, .slice A0_8 l0_8.length c0_8, .slice A0_9 l0_9.length c0_9, .slice A0_10 l0_10.length c0_10] 30 (0, 0)) (by (with_reducible skip); exact BK188.out)) : gb188 ≠ gb189)); have n6_ := Aside0.mk ((by rw [hg]; exact Nat.ne_of_gt (blk_lt (g := gb188) (o := .cells #[.int .i64 a0_0, .int .u64 a0_1, .int .u64 a0_2, .int .u64 a0_3, .int .u64 a0_4, .int .u64 a0_5, .int .i64 a0_6, .bool a0_7, .slice A0_8 l0_8.length c0_8, .slice A0_9 l0_9.length c0_9, .slice A0_10 l0_10.length c0_10] 30 (0, 0)) (by (with_reducible skip); exact BK188.out)) : gb189 ≠ gb188)); clear BK188; clear HB; have BK188 := n0_; have HB := n1_; have BK189 := n2_; have GW189 := n3_; have GE189 := n4_; have NB188_189 := n5_; have NB189_188 := n6_; clear n0_ n1_ n2_ n3_ n4_ n5_ n6_; clear hb hbox hg))
 go_cut [30] (fun v30 wc => ∃ (kq : Nat) (x30_2 : Bool), v30 = .bool x30_2 ∧ Aside0 (winnowref05_Same.j0 kq x30_2 a0_0 a0_1 a0_2 a0_3 a0_4 a0_5 a0_6 a0_7 l0_8 l0_9 l0_10 a1_0 a1_1 a1_2 a1_3 a1_4 a1_5 a1_6 a1_7 l1_8 l1_9 l1_10 = some r) ∧ Aside0 (kq ≤ k) ∧ Aside0 (wc.heap[gb188]? = some (.cells #[.int .i64 a0_0, .int .u64 a0_1, .int .u64 a0_2, .int .u64 a0_3, .int .u64 a0_4, .int .u64 a0_5, .int .i64 a0_6, .bool a0_7, (.slice A0_8 l0_8.length c0_8), (.slice A0_9 l0_9.length c0_9), (.slice A0_10 l0_10.length c0_10)] 30 (0, 0))) ∧ Aside0 (wc.heap[gb189]? = some (.cells #[.int .i64 a1_0, .int .u64 a1_1, .int .u64 a1_2, .int .u64 a1_3, .int .u64 a1_4, .int .u64 a1_5, .int .i64 a1_6, .bool a1_7, (.slice A1_8 l1_8.length c1_8), (.slice A1_9 l1_9.length c1_9), (.slice A1_10 l1_10.length c1_10)] 30 (0, 0))) ∧ Aside0 (Below w.heap.size w wc))
 case first =>
  have H := HC3.out; clear HC3
  by_cases c6 : (l0_9.length : Int) = (l1_9.length : Int)
  ·rw [if_pos c6] at H
   obtain ⟨c6b0, c6b1⟩ := Hand.Cz.eqT c6
   have c6b2 : (l0_9.length == l1_9.length) = true := by (simp at c6 ⊢; omega)
   clear c6
   (skip)
   by_cases c7 : (l0_10.length : Int) = (l1_10.length : Int)
   ·rw [if_pos c7] at H
    obtain ⟨c7b0, c7b1⟩ := Hand.Cz.eqT c7
    have c7b2 : (l0_10.length == l1_10.length) = true := by (simp at c7 ⊢; omega)
    clear c7
    replace H := Option.bind_eq_some_iff.mp H
    obtain ⟨t190, A80, H⟩ := H
    (try dsimp only at H)
    have A8 := Aside0.mk A80; clear A80
    have H' := Aside0.mk H
    clear H; have hnb9 := NB188_189.out; have hnc9 := NB189_188.out
    obtain ⟨z10_0, z10_1, z10_2, z10_3, z10_4, z10_5, z10_6, z10_7, z10_8, z10_9, z10_10⟩ := Hand.Cz.c11 BK188.out
    obtain ⟨y10_0, y10_1, y10_2, y10_3, y10_4, y10_5, y10_6, y10_7, y10_8, y10_9, y10_10⟩ := Hand.Cz.f11 BK188.out
    obtain ⟨z11_0, z11_1, z11_2, z11_3, z11_4, z11_5, z11_6, z11_7, z11_8, z11_9, z11_10⟩ := Hand.Cz.c11 BK189.out
    obtain ⟨y11_0, y11_1, y11_2, y11_3, y11_4, y11_5, y11_6, y11_7, y11_8, y11_9, y11_10⟩ := Hand.Cz.f11 BK189.out
    go_wp2_with (go_at_call 53; (with_reducible refine (winnowref03_Spans.calls k _ _ l0_8 _ _ l1_8 t190 _ ?side1 ?side2 ?side3 ?side4 A8.out).mono ?_); (case side1 => repeat (exact (Kd.C_below HR0_8.out HB.out))); (case side2 => exact HC0_8.out); (case side3 => repeat (exact (Kd.C_below HR1_8.out HB.out))); (case side4 => exact HC1_8.out); rintro e w' ⟨rfl, ⟨nd, rfl⟩⟩)
    go_meet
    case rel => exact ⟨_, (!t190), (by (rfl)), H', ⟨by (omega)⟩, ⟨by (with_reducible repeat (refine blk_drewN ?_ _)); exact BK188.out⟩, ⟨by (with_reducible repeat (refine blk_drewN ?_ _)); exact BK189.out⟩, ⟨by repeat (with_reducible first | exact HB.out | apply pw_below_drewN)⟩⟩
   ·rw [if_neg c7] at H
    obtain ⟨c7b0, c7b1⟩ := Hand.Cz.eqF c7
    have c7b2 : (l0_10.length == l1_10.length) = false := by (simp at c7 ⊢; omega)
    have H' := Aside0.mk H
    clear H; have hnb12 := NB188_189.out; have hnc12 := NB189_188.out
    obtain ⟨z13_0, z13_1, z13_2, z13_3, z13_4, z13_5, z13_6, z13_7, z13_8, z13_9, z13_10⟩ := Hand.Cz.c11 BK188.out
    obtain ⟨y13_0, y13_1, y13_2, y13_3, y13_4, y13_5, y13_6, y13_7, y13_8, y13_9, y13_10⟩ := Hand.Cz.f11 BK188.out
    obtain ⟨z14_0, z14_1, z14_2, z14_3, z14_4, z14_5, z14_6, z14_7, z14_8, z14_9, z14_10⟩ := Hand.Cz.c11 BK189.out
    obtain ⟨y14_0, y14_1, y14_2, y14_3, y14_4, y14_5, y14_6, y14_7, y14_8, y14_9, y14_10⟩ := Hand.Cz.f11 BK189.out
    go_wp2
    go_meet
    case rel => exact ⟨_, (true), (by (rfl)), H', ⟨by (omega)⟩, ⟨by (with_reducible skip); exact BK188.out⟩, ⟨by (with_reducible skip); exact BK189.out⟩, ⟨by repeat (with_reducible (exact HB.out))⟩⟩
  ·rw [if_neg c6] at H
   obtain ⟨c6b0, c6b1⟩ := Hand.Cz.eqF c6
   have c6b2 : (l0_9.length == l1_9.length) = false := by (simp at c6 ⊢; omega)
   (skip)
   have H' := Aside0.mk H
   clear H; have hnb15 := NB188_189.out; have hnc15 := NB189_188.out
   obtain ⟨z16_0, z16_1, z16_2, z16_3, z16_4, z16_5, z16_6, z16_7, z16_8, z16_9, z16_10⟩ := Hand.Cz.c11 BK188.out
   obtain ⟨y16_0, y16_1, y16_2, y16_3, y16_4, y16_5, y16_6, y16_7, y16_8, y16_9, y16_10⟩ := Hand.Cz.f11 BK188.out
   obtain ⟨z17_0, z17_1, z17_2, z17_3, z17_4, z17_5, z17_6, z17_7, z17_8, z17_9, z17_10⟩ := Hand.Cz.c11 BK189.out
   obtain ⟨y17_0, y17_1, y17_2, y17_3, y17_4, y17_5, y17_6, y17_7, y17_8, y17_9, y17_10⟩ := Hand.Cz.f11 BK189.out
   go_wp2
   go_meet
   case rel => exact ⟨_, (true), (by (rfl)), H', ⟨by (omega)⟩, ⟨by (with_reducible skip); exact BK188.out⟩, ⟨by (with_reducible skip); exact BK189.out⟩, ⟨by repeat (with_reducible (exact HB.out))⟩⟩
 case rest =>
  clear HC3
  obtain ⟨kq, x30_2, rfl, HA, HJ2, BK188, BK189, HB⟩ := hcut
  cases kq with
  | zero => exact absurd HA.out (by simp [winnowref05_Same.j0])
  | succ kj2 =>
   have H := HA.out; clear HA
   simp only [winnowref05_Same.j0] at H
   by_cases c18 : x30_2 = true
   ·subst c18
    rw [if_pos rfl] at H
    obtain rfl := Option.some.inj H
    go_wp2
    go_ret
    exact ⟨by (rfl), by repeat (with_reducible (exact HB.out))⟩
   ·replace c18 := Bool.eq_false_iff.mpr c18
    subst c18
    rw [if_neg (show ¬ (false = true) by decide)] at H
    have H' := Aside0.mk H
    clear H
    go_wp2
    go_loopg [5] kj2 (fun kq v5 w' => ∃ (x5_2 : Int), v5 = .int .i64 x5_2 ∧ Aside0 (winnowref05_Same.l0 kq x5_2 a0_0 a0_1 a0_2 a0_3 a0_4 a0_5 a0_6 a0_7 l0_8 l0_9 l0_10 a1_0 a1_1 a1_2 a1_3 a1_4 a1_5 a1_6 a1_7 l1_8 l1_9 l1_10 = some r) ∧ Aside0 (kq ≤ kj2) ∧ Aside0 (w'.heap[gb188]? = some (.cells #[.int .i64 a0_0, .int .u64 a0_1, .int .u64 a0_2, .int .u64 a0_3, .int .u64 a0_4, .int .u64 a0_5, .int .i64 a0_6, .bool a0_7, (.slice A0_8 l0_8.length c0_8), (.slice A0_9 l0_9.length c0_9), (.slice A0_10 l0_10.length c0_10)] 30 (0, 0))) ∧ Aside0 (w'.heap[gb189]? = some (.cells #[.int .i64 a1_0, .int .u64 a1_1, .int .u64 a1_2, .int .u64 a1_3, .int .u64 a1_4, .int .u64 a1_5, .int .i64 a1_6, .bool a1_7, (.slice A1_8 l1_8.length c1_8), (.slice A1_9 l1_9.length c1_9), (.slice A1_10 l1_10.length c1_10)] 30 (0, 0))) ∧ Aside0 (Below w.heap.size w w'))
    case atStart => exact ⟨(0), (by (rfl)), H', ⟨Nat.le_refl _⟩, ⟨by (with_reducible skip); exact BK188.out⟩, ⟨by (with_reducible skip); exact BK189.out⟩, ⟨by repeat (with_reducible (exact HB.out))⟩⟩
    case round =>
     clear H'
     obtain ⟨x5_2, rfl, HA, HK2, BK188, BK189, HB⟩ := hrel
     cases gk with
     | zero => exact absurd HA.out (by simp [winnowref05_Same.l0])
     | succ k2 =>
      have H := HA.out; clear HA
      simp only [winnowref05_Same.l0] at H
      by_cases c19 : x5_2 < (l0_9.length : Int)
      ·rw [if_pos c19] at H
       have c19b0 : decide (x5_2 < (l0_9.length : Int)) = true := decide_eq_true c19; clear c19
       by_cases c20 : 0 ≤ x5_2
       ·rw [if_pos c20] at H
        have c20b0 : decide (0 ≤ x5_2) = true := decide_eq_true c20; clear c20
        by_cases c21 : x5_2 < (l1_9.length : Int)
        ·rw [if_pos c21] at H
         have c21b0 : decide (x5_2 < (l1_9.length : Int)) = true := decide_eq_true c21; clear c21
         by_cases c22 : (!(((rd_T92 l0_9 x5_2).f0) == ((rd_T92 l1_9 x5_2).f0)) || (!(((rd_T92 l0_9 x5_2).f1) == ((rd_T92 l1_9 x5_2).f1)) || (!(((rd_T92 l0_9 x5_2).f2) == ((rd_T92 l1_9 x5_2).f2))))) = true
         ·rw [if_pos c22] at H
          have c22b0 : (!(((rd_T92 l0_9 x5_2).f0) == ((rd_T92 l1_9 x5_2).f0)) || (!(((rd_T92 l0_9 x5_2).f1) == ((rd_T92 l1_9 x5_2).f1)) || (!(((rd_T92 l0_9 x5_2).f2) == ((rd_T92 l1_9 x5_2).f2))))) = true := c22; clear c22
          obtain rfl := Option.some.inj H
          have hnb23 := NB188_189.out; have hnc23 := NB189_188.out
          obtain ⟨z24_0, z24_1, z24_2, z24_3, z24_4, z24_5, z24_6, z24_7, z24_8, z24_9, z24_10⟩ := Hand.Cz.c11 BK188.out
          obtain ⟨y24_0, y24_1, y24_2, y24_3, y24_4, y24_5, y24_6, y24_7, y24_8, y24_9, y24_10⟩ := Hand.Cz.f11 BK188.out
          have p191 : 0 ≤ (x5_2 : Int) := of_decide_eq_true (by (with_reducible assumption)); have q191 : x5_2 < (l0_9.length : Int) := of_decide_eq_true (by (with_reducible assumption))
          obtain ⟨ad191, e191, hx191_0, hx191_1, hx191_2⟩ := at_T92 HR0_9.out x5_2 p191 q191
          cases e191
          replace hx191_0 := Hand.Cz.ov HB.out hx191_0
          replace hx191_1 := Hand.Cz.ov HB.out hx191_1
          replace hx191_2 := Hand.Cz.ov HB.out hx191_2
          replace p191 := eq_true p191
          replace q191 := eq_true q191
          obtain ⟨z25_0, z25_1, z25_2, z25_3, z25_4, z25_5, z25_6, z25_7, z25_8, z25_9, z25_10⟩ := Hand.Cz.c11 BK189.out
          obtain ⟨y25_0, y25_1, y25_2, y25_3, y25_4, y25_5, y25_6, y25_7, y25_8, y25_9, y25_10⟩ := Hand.Cz.f11 BK189.out
          have p192 : 0 ≤ (x5_2 : Int) := of_decide_eq_true (by (with_reducible assumption)); have q192 : x5_2 < (l1_9.length : Int) := of_decide_eq_true (by (with_reducible assumption))
          obtain ⟨ad192, e192, hx192_0, hx192_1, hx192_2⟩ := at_T92 HR1_9.out x5_2 p192 q192
          cases e192
          replace hx192_0 := Hand.Cz.ov HB.out hx192_0
          replace hx192_1 := Hand.Cz.ov HB.out hx192_1
          replace hx192_2 := Hand.Cz.ov HB.out hx192_2
          replace p192 := eq_true p192
          replace q192 := eq_true q192
          go_wp2
          repeat (go_quiet (fail); try go_wp2)
          go_ret
          exact ⟨by (rfl), by repeat (with_reducible first | exact HB.out | apply pw_below_drewN)⟩
         ·rw [if_neg c22] at H
          have c22b0 : (!(((rd_T92 l0_9 x5_2).f0) == ((rd_T92 l1_9 x5_2).f0)) || (!(((rd_T92 l0_9 x5_2).f1) == ((rd_T92 l1_9 x5_2).f1)) || (!(((rd_T92 l0_9 x5_2).f2) == ((rd_T92 l1_9 x5_2).f2))))) = false := by simpa using c22
          clear c22
          have H' := Aside0.mk H
          clear H; have hnb26 := NB188_189.out; have hnc26 := NB189_188.out
          obtain ⟨z27_0, z27_1, z27_2, z27_3, z27_4, z27_5, z27_6, z27_7, z27_8, z27_9, z27_10⟩ := Hand.Cz.c11 BK188.out
          obtain ⟨y27_0, y27_1, y27_2, y27_3, y27_4, y27_5, y27_6, y27_7, y27_8, y27_9, y27_10⟩ := Hand.Cz.f11 BK188.out
          have p191 : 0 ≤ (x5_2 : Int) := of_decide_eq_true (by (with_reducible assumption)); have q191 : x5_2 < (l0_9.length : Int) := of_decide_eq_true (by (with_reducible assumption))
          obtain ⟨ad191, e191, hx191_0, hx191_1, hx191_2⟩ := at_T92 HR0_9.out x5_2 p191 q191
          cases e191
          replace hx191_0 := Hand.Cz.ov HB.out hx191_0
          replace hx191_1 := Hand.Cz.ov HB.out hx191_1
          replace hx191_2 := Hand.Cz.ov HB.out hx191_2
          replace p191 := eq_true p191
          replace q191 := eq_true q191
          obtain ⟨z28_0, z28_1, z28_2, z28_3, z28_4, z28_5, z28_6, z28_7, z28_8, z28_9, z28_10⟩ := Hand.Cz.c11 BK189.out
          obtain ⟨y28_0, y28_1, y28_2, y28_3, y28_4, y28_5, y28_6, y28_7, y28_8, y28_9, y28_10⟩ := Hand.Cz.f11 BK189.out
          have p192 : 0 ≤ (x5_2 : Int) := of_decide_eq_true (by (with_reducible assumption)); have q192 : x5_2 < (l1_9.length : Int) := of_decide_eq_true (by (with_reducible assumption))
          obtain ⟨ad192, e192, hx192_0, hx192_1, hx192_2⟩ := at_T92 HR1_9.out x5_2 p192 q192
          cases e192
          replace hx192_0 := Hand.Cz.ov HB.out hx192_0
          replace hx192_1 := Hand.Cz.ov HB.out hx192_1
          replace hx192_2 := Hand.Cz.ov HB.out hx192_2
          replace p192 := eq_true p192
          replace q192 := eq_true q192
          go_wp2
          repeat (go_quiet (fail); try go_wp2)
          go_roundg k2
          case measure => have := HJ2.out; have := HK2.out; omega
          case rel => exact ⟨(wrap64 (x5_2 + 1)), (by (rfl)), H', ⟨by have := HJ2.out; have := HK2.out; omega⟩, ⟨by (with_reducible repeat (refine blk_drewN ?_ _)); exact BK188.out⟩, ⟨by (with_reducible repeat (refine blk_drewN ?_ _)); exact BK189.out⟩, ⟨by repeat (with_reducible first | exact HB.out | apply pw_below_drewN)⟩⟩
        ·rw [if_neg c21] at H
         exact absurd H (by simp)
       ·rw [if_neg c20] at H
        exact absurd H (by simp)
      ·rw [if_neg c19] at H
       have c19b0 : decide (x5_2 < (l0_9.length : Int)) = false := decide_eq_false c19; clear c19
       have H' := Aside0.mk H
       clear H; have hnb29 := NB188_189.out; have hnc29 := NB189_188.out
       obtain ⟨z30_0, z30_1, z30_2, z30_3, z30_4, z30_5, z30_6, z30_7, z30_8, z30_9, z30_10⟩ := Hand.Cz.c11 BK188.out
       obtain ⟨y30_0, y30_1, y30_2, y30_3, y30_4, y30_5, y30_6, y30_7, y30_8, y30_9, y30_10⟩ := Hand.Cz.f11 BK188.out
       go_wp2
       go_loopg [6] k2 (fun kq v6 w' => ∃ (x6_3 : Int), v6 = .int .i64 x6_3 ∧ Aside0 (winnowref05_Same.l1 kq x6_3 a0_0 a0_1 a0_2 a0_3 a0_4 a0_5 a0_6 a0_7 l0_8 l0_9 l0_10 a1_0 a1_1 a1_2 a1_3 a1_4 a1_5 a1_6 a1_7 l1_8 l1_9 l1_10 = some r) ∧ Aside0 (kq ≤ k2) ∧ Aside0 (w'.heap[gb188]? = some (.cells #[.int .i64 a0_0, .int .u64 a0_1, .int .u64 a0_2, .int .u64 a0_3, .int .u64 a0_4, .int .u64 a0_5, .int .i64 a0_6, .bool a0_7, (.slice A0_8 l0_8.length c0_8), (.slice A0_9 l0_9.length c0_9), (.slice A0_10 l0_10.length c0_10)] 30 (0, 0))) ∧ Aside0 (w'.heap[gb189]? = some (.cells #[.int .i64 a1_0, .int .u64 a1_1, .int .u64 a1_2, .int .u64 a1_3, .int .u64 a1_4, .int .u64 a1_5, .int .i64 a1_6, .bool a1_7, (.slice A1_8 l1_8.length c1_8), (.slice A1_9 l1_9.length c1_9), (.slice A1_10 l1_10.length c1_10)] 30 (0, 0))) ∧ Aside0 (Below w.heap.size w w'))
       case atStart => exact ⟨(0), (by (rfl)), H', ⟨Nat.le_refl _⟩, ⟨by (with_reducible skip); exact BK188.out⟩, ⟨by (with_reducible skip); exact BK189.out⟩, ⟨by repeat (with_reducible (exact HB.out))⟩⟩
       case round =>
        clear H'
        (try clear c19b0); (try clear z30_0 z30_1 z30_2 z30_3 z30_4 z30_5 z30_6 z30_7 z30_8 z30_9 z30_10); (try clear y30_0 y30_1 y30_2 y30_3 y30_4 y30_5 y30_6 y30_7 y30_8 y30_9 y30_10)
        obtain ⟨x6_3, rfl, HA, HK3, BK188, BK189, HB⟩ := hrel
        cases gk with
        | zero => exact absurd HA.out (by simp [winnowref05_Same.l1])
        | succ k3 =>
         have H := HA.out; clear HA
         simp only [winnowref05_Same.l1] at H
         by_cases c31 : x6_3 < (l0_10.length : Int)
         ·rw [if_pos c31] at H
          have c31b0 : decide (x6_3 < (l0_10.length : Int)) = true := decide_eq_true c31; clear c31
          by_cases c32 : 0 ≤ x6_3
          ·rw [if_pos c32] at H
           have c32b0 : decide (0 ≤ x6_3) = true := decide_eq_true c32; clear c32
           by_cases c33 : x6_3 < (l1_10.length : Int)
           ·rw [if_pos c33] at H
            have c33b0 : decide (x6_3 < (l1_10.length : Int)) = true := decide_eq_true c33; clear c33
            by_cases c34 : (rd l0_10 x6_3) = (rd l1_10 x6_3)
            ·rw [if_pos c34] at H
             obtain ⟨c34b0, c34b1⟩ := Hand.Cz.eqT c34; clear c34
             have H' := Aside0.mk H
             clear H; have hnb35 := NB188_189.out; have hnc35 := NB189_188.out
             obtain ⟨z36_0, z36_1, z36_2, z36_3, z36_4, z36_5, z36_6, z36_7, z36_8, z36_9, z36_10⟩ := Hand.Cz.c11 BK188.out
             obtain ⟨y36_0, y36_1, y36_2, y36_3, y36_4, y36_5, y36_6, y36_7, y36_8, y36_9, y36_10⟩ := Hand.Cz.f11 BK188.out
             have p193 : 0 ≤ (x6_3 : Int) := of_decide_eq_true (by (with_reducible assumption)); have q193 : x6_3 < (l0_10.length : Int) := of_decide_eq_true (by (with_reducible assumption))
             obtain ⟨ad193, e193, hx193_0⟩ := Kd.at_int HR0_10.out x6_3 p193 q193
             cases e193
             replace hx193_0 := Hand.Cz.ov HB.out hx193_0
             replace p193 := eq_true p193
             replace q193 := eq_true q193
             obtain ⟨z37_0, z37_1, z37_2, z37_3, z37_4, z37_5, z37_6, z37_7, z37_8, z37_9, z37_10⟩ := Hand.Cz.c11 BK189.out
             obtain ⟨y37_0, y37_1, y37_2, y37_3, y37_4, y37_5, y37_6, y37_7, y37_8, y37_9, y37_10⟩ := Hand.Cz.f11 BK189.out
             have p194 : 0 ≤ (x6_3 : Int) := of_decide_eq_true (by (with_reducible assumption)); have q194 : x6_3 < (l1_10.length : Int) := of_decide_eq_true (by (with_reducible assumption))
             obtain ⟨ad194, e194, hx194_0⟩ := Kd.at_int HR1_10.out x6_3 p194 q194
             cases e194
             replace hx194_0 := Hand.Cz.ov HB.out hx194_0
             replace p194 := eq_true p194
             replace q194 := eq_true q194
             go_wp2
             repeat (go_quiet (fail); try go_wp2)
             go_roundg k3
             case measure => have := HJ2.out; have := HK2.out; have := HK3.out; omega
             case rel => exact ⟨(wrap64 (x6_3 + 1)), (by (rfl)), H', ⟨by have := HJ2.out; have := HK2.out; have := HK3.out; omega⟩, ⟨by (with_reducible repeat (refine blk_drewN ?_ _)); exact BK188.out⟩, ⟨by (with_reducible repeat (refine blk_drewN ?_ _)); exact BK189.out⟩, ⟨by repeat (with_reducible first | exact HB.out | apply pw_below_drewN)⟩⟩
            ·rw [if_neg c34] at H
             obtain ⟨c34b0, c34b1⟩ := Hand.Cz.eqF c34
             obtain rfl := Option.some.inj H
             have hnb38 := NB188_189.out; have hnc38 := NB189_188.out
             obtain ⟨z39_0, z39_1, z39_2, z39_3, z39_4, z39_5, z39_6, z39_7, z39_8, z39_9, z39_10⟩ := Hand.Cz.c11 BK188.out
             obtain ⟨y39_0, y39_1, y39_2, y39_3, y39_4, y39_5, y39_6, y39_7, y39_8, y39_9, y39_10⟩ := Hand.Cz.f11 BK188.out
             have p193 : 0 ≤ (x6_3 : Int) := of_decide_eq_true (by (with_reducible assumption)); have q193 : x6_3 < (l0_10.length : Int) := of_decide_eq_true (by (with_reducible assumption))
             obtain ⟨ad193, e193, hx193_0⟩ := Kd.at_int HR0_10.out x6_3 p193 q193
             cases e193
             replace hx193_0 := Hand.Cz.ov HB.out hx193_0
             replace p193 := eq_true p193
             replace q193 := eq_true q193
             obtain ⟨z40_0, z40_1, z40_2, z40_3, z40_4, z40_5, z40_6, z40_7, z40_8, z40_9, z40_10⟩ := Hand.Cz.c11 BK189.out
             obtain ⟨y40_0, y40_1, y40_2, y40_3, y40_4, y40_5, y40_6, y40_7, y40_8, y40_9, y40_10⟩ := Hand.Cz.f11 BK189.out
             have p194 : 0 ≤ (x6_3 : Int) := of_decide_eq_true (by (with_reducible assumption)); have q194 : x6_3 < (l1_10.length : Int) := of_decide_eq_true (by (with_reducible assumption))
             obtain ⟨ad194, e194, hx194_0⟩ := Kd.at_int HR1_10.out x6_3 p194 q194
             cases e194
             replace hx194_0 := Hand.Cz.ov HB.out hx194_0
             replace p194 := eq_true p194
             replace q194 := eq_true q194
             go_wp2
             repeat (go_quiet (fail); try go_wp2)
             go_ret
             exact ⟨by (rfl), by repeat (with_reducible first | exact HB.out | apply pw_below_drewN)⟩
           ·rw [if_neg c33] at H
            exact absurd H (by simp)
          ·rw [if_neg c32] at H
           exact absurd H (by simp)
         ·rw [if_neg c31] at H
          have c31b0 : decide (x6_3 < (l0_10.length : Int)) = false := decide_eq_false c31; clear c31
          by_cases c41 : a0_0 = a1_0
          ·rw [if_pos c41] at H
           obtain ⟨c41b0, c41b1⟩ := Hand.Cz.eqT c41; clear c41
           by_cases c42 : a0_1 = a1_1
           ·rw [if_pos c42] at H
            obtain ⟨c42b0, c42b1⟩ := Hand.Cz.eqT c42; clear c42
            by_cases c43 : (a0_2 == a1_2 && (a0_3 == a1_3)) = true
            ·rw [if_pos c43] at H
             have c43b0 : (a0_2 == a1_2 && (a0_3 == a1_3)) = true := c43
             (try (have c43b1 : decide (a0_2 = a1_2 && (a0_3 == a1_3)) = true := by simpa using c43))
             (try (have c43b2 : (a0_2 == a1_2 && (a0_3 == a1_3)) = true := by simpa using c43))
             clear c43
             by_cases c44 : (a0_4 == a1_4 && (a0_5 == a1_5)) = true
             ·rw [if_pos c44] at H
              have c44b0 : (a0_4 == a1_4 && (a0_5 == a1_5)) = true := c44
              (try (have c44b1 : decide (a0_4 = a1_4 && (a0_5 == a1_5)) = true := by simpa using c44))
              (try (have c44b2 : (a0_4 == a1_4 && (a0_5 == a1_5)) = true := by simpa using c44))
              clear c44
              by_cases c45 : a0_6 = a1_6
              ·rw [if_pos c45] at H
               obtain ⟨c45b0, c45b1⟩ := Hand.Cz.eqT c45; clear c45
               obtain rfl := Option.some.inj H
               have hnb46 := NB188_189.out; have hnc46 := NB189_188.out
               obtain ⟨z47_0, z47_1, z47_2, z47_3, z47_4, z47_5, z47_6, z47_7, z47_8, z47_9, z47_10⟩ := Hand.Cz.c11 BK188.out
               obtain ⟨y47_0, y47_1, y47_2, y47_3, y47_4, y47_5, y47_6, y47_7, y47_8, y47_9, y47_10⟩ := Hand.Cz.f11 BK188.out
               obtain ⟨z48_0, z48_1, z48_2, z48_3, z48_4, z48_5, z48_6, z48_7, z48_8, z48_9, z48_10⟩ := Hand.Cz.c11 BK189.out
               obtain ⟨y48_0, y48_1, y48_2, y48_3, y48_4, y48_5, y48_6, y48_7, y48_8, y48_9, y48_10⟩ := Hand.Cz.f11 BK189.out
               go_wp2
               go_ret
               exact ⟨by (rfl), by repeat (with_reducible (exact HB.out))⟩
              ·rw [if_neg c45] at H
               obtain ⟨c45b0, c45b1⟩ := Hand.Cz.eqF c45
               obtain rfl := Option.some.inj H
               have hnb49 := NB188_189.out; have hnc49 := NB189_188.out
               obtain ⟨z50_0, z50_1, z50_2, z50_3, z50_4, z50_5, z50_6, z50_7, z50_8, z50_9, z50_10⟩ := Hand.Cz.c11 BK188.out
               obtain ⟨y50_0, y50_1, y50_2, y50_3, y50_4, y50_5, y50_6, y50_7, y50_8, y50_9, y50_10⟩ := Hand.Cz.f11 BK188.out
               obtain ⟨z51_0, z51_1, z51_2, z51_3, z51_4, z51_5, z51_6, z51_7, z51_8, z51_9, z51_10⟩ := Hand.Cz.c11 BK189.out
               obtain ⟨y51_0, y51_1, y51_2, y51_3, y51_4, y51_5, y51_6, y51_7, y51_8, y51_9, y51_10⟩ := Hand.Cz.f11 BK189.out
               go_wp2
               go_ret
               exact ⟨by (rfl), by repeat (with_reducible (exact HB.out))⟩
             ·rw [if_neg c44] at H
              have c44b0 : (a0_4 == a1_4 && (a0_5 == a1_5)) = false := by simpa using c44
              (try (have c44b1 : decide (a0_4 = a1_4 && (a0_5 == a1_5)) = false := by simpa using c44))
              (try (have c44b2 : (a0_4 == a1_4 && (a0_5 == a1_5)) = false := by simpa using c44))
              (try (have c44b3 : ¬ (a0_4 = a1_4 && (a0_5 == a1_5)) := by simpa using c44))
              clear c44
              obtain rfl := Option.some.inj H
              have hnb52 := NB188_189.out; have hnc52 := NB189_188.out
              obtain ⟨z53_0, z53_1, z53_2, z53_3, z53_4, z53_5, z53_6, z53_7, z53_8, z53_9, z53_10⟩ := Hand.Cz.c11 BK188.out
              obtain ⟨y53_0, y53_1, y53_2, y53_3, y53_4, y53_5, y53_6, y53_7, y53_8, y53_9, y53_10⟩ := Hand.Cz.f11 BK188.out
              obtain ⟨z54_0, z54_1, z54_2, z54_3, z54_4, z54_5, z54_6, z54_7, z54_8, z54_9, z54_10⟩ := Hand.Cz.c11 BK189.out
              obtain ⟨y54_0, y54_1, y54_2, y54_3, y54_4, y54_5, y54_6, y54_7, y54_8, y54_9, y54_10⟩ := Hand.Cz.f11 BK189.out
              go_wp2
              go_ret
              exact ⟨by (rfl), by repeat (with_reducible (exact HB.out))⟩
            ·rw [if_neg c43] at H
             have c43b0 : (a0_2 == a1_2 && (a0_3 == a1_3)) = false := by simpa using c43
             (try (have c43b1 : decide (a0_2 = a1_2 && (a0_3 == a1_3)) = false := by simpa using c43))
             (try (have c43b2 : (a0_2 == a1_2 && (a0_3 == a1_3)) = false := by simpa using c43))
             (try (have c43b3 : ¬ (a0_2 = a1_2 && (a0_3 == a1_3)) := by simpa using c43))
             clear c43
             obtain rfl := Option.some.inj H
             have hnb55 := NB188_189.out; have hnc55 := NB189_188.out
             obtain ⟨z56_0, z56_1, z56_2, z56_3, z56_4, z56_5, z56_6, z56_7, z56_8, z56_9, z56_10⟩ := Hand.Cz.c11 BK188.out
             obtain ⟨y56_0, y56_1, y56_2, y56_3, y56_4, y56_5, y56_6, y56_7, y56_8, y56_9, y56_10⟩ := Hand.Cz.f11 BK188.out
             obtain ⟨z57_0, z57_1, z57_2, z57_3, z57_4, z57_5, z57_6, z57_7, z57_8, z57_9, z57_10⟩ := Hand.Cz.c11 BK189.out
             obtain ⟨y57_0, y57_1, y57_2, y57_3, y57_4, y57_5, y57_6, y57_7, y57_8, y57_9, y57_10⟩ := Hand.Cz.f11 BK189.out
             go_wp2
             go_ret
             exact ⟨by (rfl), by repeat (with_reducible (exact HB.out))⟩
           ·rw [if_neg c42] at H
            obtain ⟨c42b0, c42b1⟩ := Hand.Cz.eqF c42
            obtain rfl := Option.some.inj H
            have hnb58 := NB188_189.out; have hnc58 := NB189_188.out
            obtain ⟨z59_0, z59_1, z59_2, z59_3, z59_4, z59_5, z59_6, z59_7, z59_8, z59_9, z59_10⟩ := Hand.Cz.c11 BK188.out
            obtain ⟨y59_0, y59_1, y59_2, y59_3, y59_4, y59_5, y59_6, y59_7, y59_8, y59_9, y59_10⟩ := Hand.Cz.f11 BK188.out
            obtain ⟨z60_0, z60_1, z60_2, z60_3, z60_4, z60_5, z60_6, z60_7, z60_8, z60_9, z60_10⟩ := Hand.Cz.c11 BK189.out
            obtain ⟨y60_0, y60_1, y60_2, y60_3, y60_4, y60_5, y60_6, y60_7, y60_8, y60_9, y60_10⟩ := Hand.Cz.f11 BK189.out
            go_wp2
            go_ret
            exact ⟨by (rfl), by repeat (with_reducible (exact HB.out))⟩
          ·rw [if_neg c41] at H
           obtain ⟨c41b0, c41b1⟩ := Hand.Cz.eqF c41
           obtain rfl := Option.some.inj H
           have hnb61 := NB188_189.out; have hnc61 := NB189_188.out
           obtain ⟨z62_0, z62_1, z62_2, z62_3, z62_4, z62_5, z62_6, z62_7, z62_8, z62_9, z62_10⟩ := Hand.Cz.c11 BK188.out
           obtain ⟨y62_0, y62_1, y62_2, y62_3, y62_4, y62_5, y62_6, y62_7, y62_8, y62_9, y62_10⟩ := Hand.Cz.f11 BK188.out
           obtain ⟨z63_0, z63_1, z63_2, z63_3, z63_4, z63_5, z63_6, z63_7, z63_8, z63_9, z63_10⟩ := Hand.Cz.c11 BK189.out
           obtain ⟨y63_0, y63_1, y63_2, y63_3, y63_4, y63_5, y63_6, y63_7, y63_8, y63_9, y63_10⟩ := Hand.Cz.f11 BK189.out
           go_wp2
           go_ret
           exact ⟨by (rfl), by repeat (with_reducible (exact HB.out))⟩

end Go.Proofs.Ytlpnpnjjmpkapaa.PAll
