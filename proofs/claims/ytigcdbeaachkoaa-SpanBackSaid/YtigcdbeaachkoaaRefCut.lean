/-
  The document's cut of a span's bytes: its walk.
  Conditions: none.
-/
import Derived.Test.YtigcdbeaachkoaaPAllx0
import Derived.Test.YtigcdbeaachkoaaPAllx10
import Derived.Test.YtigcdbeaachkoaaPAllx11
import Derived.Test.YtigcdbeaachkoaaPAllx5
import Derived.Test.YtigcdbeaachkoaaRefDef
namespace Go.Proofs.Ytigcdbeaachkoaa.PAll
open Go.RowKit Go.Proofs.YtigcdbeaachkoaaW.PrintWords Go.Proofs.YtigcdbeaachkoaaW.PrintLast Go.Proofs.YtigcdbeaachkoaaW.PrintMore
attribute [local go_sem] max2_int min2_int max_two min_two max_three min_three max_four min_four   -- for this text's walks alone
set_option linter.unusedVariables false
set_option linter.unusedSimpArgs false
def winnowref03_Cut.T3 : Bool × List (List Nat × List Nat) := (true, [([], []), ([0], [0]), ([], []), ([2], [2]), ([3, 1], [3]), ([], []), ([5], [5]), ([6, 4], [6]), ([], []), ([8], [8]), ([9, 7], [9]), ([], []), ([11], [11]), ([12, 10], [12]), ([], []), ([14], [14]), ([15], [15]), ([16], [16]), ([1, 4, 7, 10, 13, 17], [1, 4, 7, 10, 13, 17]), ([], []), ([19, 18, 13, 0, 1, 2, 3, 4, 5, 6, 7, 8, 9, 10, 11, 12, 13, 14, 15, 16, 17, 18, 19], [18, 19])])
def winnowref03_Cut.B3 : List Nat := [0, 1, 0, 4, 15, 0, 32, 127, 0, 256, 1023, 0, 2048, 8191, 0, 16384, 49152, 114688, 262143, 0, 1048575]
theorem winnowref03_Cut.tab3 : rtab .any (opsOf Try.f22 3) = winnowref03_Cut.T3 := by kernel_rfl
theorem winnowref03_Cut.bits3 : waitsOk winnowref03_Cut.T3.2 winnowref03_Cut.B3 = true := by kernel_rfl
set_option maxHeartbeats 40000000 in
set_option maxRecDepth 100000 in
theorem winnowref03_Cut.calls (k : Nat) (P0_ : Nat → Prop) (A0 : Option Addr) (c0 : Nat) (l0 : List Int) (r1 : Int) (r2 : Int) (r3 : Int) (r4 : Int) (r5 : Int) (r6 : ByteArray) (r7 : ByteArray) (r8 : Bool) (r9 : List Int) (r10 : Int) (w : World) (hs0 : Kd.V (Kd.int .u8) 5 w w.heap.size (fun k_ => P0_ k_) (.slice A0 l0.length c0) l0) (h : winnowref03_Cut.f k l0 = some (r1, r2, r3, r4, r5, r6, r7, r8, r9, r10)) :
    Calls Try.prog 22 #[.slice A0 l0.length c0] w fun e w' => ∃ v8_ : Value, e = .returned (.tuple #[.agg #[.int .u64 r1, .int .u64 r2, .int .u64 r3, .int .u64 r4, .int .u64 r5, .string r6, .string r7, .bool r8], v8_, .int .i64 r10]) ∧ Kd.V (Kd.int .u8) 5 w' w.heap.size (fun k_ => (P0_ k_ ∨ w.heap.size ≤ k_)) v8_ r9 ∧ Below w.heap.size w w' := by
  have hu28 := Try.underlying28
  have HO0 := Aside0.mk (show Kd.V (Kd.int .u8) 5 w w.heap.size (fun k_ => (P0_ k_ ∨ w.heap.size ≤ k_)) (.slice A0 l0.length c0) l0 from Kd.V_mono hs0 (fun k_ hk => .inl hk))
  have HB := Aside0.mk (Below.refl w.heap.size w)
  have H : (if (l0.length : Int) < 41 then (some (0, 0, 0, 0, 0, (⟨#[]⟩ : ByteArray), (⟨#[]⟩ : ByteArray), false, ([] : List Int), 3)) else ((winnowref03_Number.f k l0).bind fun t129 => (if 8 ≤ (l0.length : Int) then ((winnowref03_Number.f k (l0.drop 8)).bind fun t135 => (if 16 ≤ (l0.length : Int) then ((winnowref03_Number.f k (l0.drop 16)).bind fun t141 => (if 24 ≤ (l0.length : Int) then ((winnowref03_Number.f k (l0.drop 24)).bind fun t147 => (if 32 ≤ (l0.length : Int) then ((winnowref03_Number.f k (l0.drop 32)).bind fun t153 => (if 40 < (l0.length : Int) then (if (rd l0 40) > 1 then (some (0, 0, 0, 0, 0, (⟨#[]⟩ : ByteArray), (⟨#[]⟩ : ByteArray), false, ([] : List Int), 6)) else (if 41 ≤ (l0.length : Int) then ((winnowref03_cutText.f k (l0.drop 41)).bind fun bt162 => (if bt162.2.2 = 0 then ((winnowref03_cutText.f k bt162.2.1).bind fun bt167 => (if bt167.2.2 = 0 then ((winnowref03_Right.f k t129 t135 t141 t147 t153 bt162.1 bt167.1 ((rd l0 40) == 1)).bind fun t172 => (if t172 = 0 then (some (t129, t135, t141, t147, t153, bt162.1, bt167.1, ((rd l0 40) == 1), bt167.2.1, 0)) else (some (0, 0, 0, 0, 0, (⟨#[]⟩ : ByteArray), (⟨#[]⟩ : ByteArray), false, ([] : List Int), t172)))) else (some (0, 0, 0, 0, 0, (⟨#[]⟩ : ByteArray), (⟨#[]⟩ : ByteArray), false, ([] : List Int), bt167.2.2)))) else (some (0, 0, 0, 0, 0, (⟨#[]⟩ : ByteArray), (⟨#[]⟩ : ByteArray), false, ([] : List Int), bt162.2.2)))) else (none))) else (none))) else (none))) else (none))) else (none))) else (none)))) = some (r1, r2, r3, r4, r5, r6, r7, r8, r9, r10) := h
  clear h
  by_cases c2 : (l0.length : Int) < 41
  · rw [if_pos c2] at H
    have c2b0 : decide ((l0.length : Int) < 41) = true := decide_eq_true c2
    have c2b1 : decide (l0.length < 41) = true := decide_eq_true (by omega)
    clear c2
    simp only [Option.some.injEq, Prod.mk.injEq] at H
    obtain ⟨rfl, rfl, rfl, rfl, rfl, rfl, rfl, rfl, rfl, rfl⟩ := H
    go_enter Try.func22, Try.ntmps22
    go_wp2_with (first | ((with_reducible refine gate_dst (N := 2) rfl ?_); refine box_event ?hg (N := 2) ?hd (cs := #[.int .u64 0, .int .u64 0, .int .u64 0, .int .u64 0, .int .u64 0, .string (⟨#[]⟩ : ByteArray), .string (⟨#[]⟩ : ByteArray), .bool false]) (t := 28) ?hr ?_; (case hd => rfl); (case hg => rfl); (case hr => first | (go_simp; done) | (go_simp; rfl)); intro gb128 hg w3 hbox hb; have n0_ := Aside0.mk (Kd.V_below (Kd.V_elderB (by (with_reducible repeat (first | apply Kd.V_alloc | apply Kd.V_drewN | apply Kd.V_drew)); exact HO0.out) gb128 (Nat.le_of_eq hg.symm)) hb); have n1_ := Aside0.mk (below_step (by repeat (first | (with_reducible first | exact HB.out | apply below_alloc | apply pw_below_drewN | apply below_drew1) | exact HB.out)) hb); have n2_ := Aside0.mk (hbox); have n3_ := Aside0.mk ((by rw [hg]; exact (below_size (by repeat (first | (with_reducible first | exact HB.out | apply below_alloc | apply pw_below_drewN | apply below_drew1) | exact HB.out))) : w.heap.size ≤ gb128)); have n4_ := Aside0.mk ((by rw [hg]; exact (below_size (by repeat (first | (with_reducible first | exact HB.out | apply below_alloc | apply pw_below_drewN | apply below_drew1) | exact HB.out))) : w.heap.size ≤ gb128)); clear HO0; clear HB; have HO0 := n0_; have HB := n1_; have BK128 := n2_; have GW128 := n3_; have GE128 := n4_; clear n0_ n1_ n2_ n3_ n4_; clear hb hbox hg; have hcz4_0 : w3.cell? ⟨gb128, 0, none⟩ = some (.int .u64 0) := (blk_cell BK128.out 0).trans rfl; have hcz4_1 : w3.cell? ⟨gb128, 1, none⟩ = some (.int .u64 0) := (blk_cell BK128.out 1).trans rfl; have hcz4_2 : w3.cell? ⟨gb128, 2, none⟩ = some (.int .u64 0) := (blk_cell BK128.out 2).trans rfl; have hcz4_3 : w3.cell? ⟨gb128, 3, none⟩ = some (.int .u64 0) := (blk_cell BK128.out 3).trans rfl; have hcz4_4 : w3.cell? ⟨gb128, 4, none⟩ = some (.int .u64 0) := (blk_cell BK128.out 4).trans rfl; have hcz4_5 : w3.cell? ⟨gb128, 5, none⟩ = some (.string (⟨#[]⟩ : ByteArray)) := (blk_cell BK128.out 5).trans rfl; have hcz4_6 : w3.cell? ⟨gb128, 6, none⟩ = some (.string (⟨#[]⟩ : ByteArray)) := (blk_cell BK128.out 6).trans rfl; have hcz4_7 : w3.cell? ⟨gb128, 7, none⟩ = some (.bool false) := (blk_cell BK128.out 7).trans rfl; have hfz4_0 := blk_frozen BK128.out 0; have hfz4_1 := blk_frozen BK128.out 1; have hfz4_2 := blk_frozen BK128.out 2; have hfz4_3 := blk_frozen BK128.out 3; have hfz4_4 := blk_frozen BK128.out 4; have hfz4_5 := blk_frozen BK128.out 5; have hfz4_6 := blk_frozen BK128.out 6; have hfz4_7 := blk_frozen BK128.out 7))
    refine bodyPost_ret (results_ctt rfl _ _ gb128 28 #[.int .u64 0, .int .u64 0, .int .u64 0, .int .u64 0, .int .u64 0, .string (⟨#[]⟩ : ByteArray), .string (⟨#[]⟩ : ByteArray), .bool false] (0, 0) _ rfl (by (with_reducible repeat (first | refine blk_drewN ?_ _ | refine blk_drew ?_ | refine blk_alloc ?_ _)); refine blk_put (cs := #[.int .u64 0, .int .u64 0, .int .u64 0, .int .u64 0, .int .u64 0, .string (⟨#[]⟩ : ByteArray), .string (⟨#[]⟩ : ByteArray), .bool false]) ?_ 7 _ rfl; (with_reducible repeat (first | refine blk_drewN ?_ _ | refine blk_drew ?_ | refine blk_alloc ?_ _)); refine blk_put (cs := #[.int .u64 0, .int .u64 0, .int .u64 0, .int .u64 0, .int .u64 0, .string (⟨#[]⟩ : ByteArray), .string (⟨#[]⟩ : ByteArray), .bool false]) ?_ 6 _ rfl; (with_reducible repeat (first | refine blk_drewN ?_ _ | refine blk_drew ?_ | refine blk_alloc ?_ _)); refine blk_put (cs := #[.int .u64 0, .int .u64 0, .int .u64 0, .int .u64 0, .int .u64 0, .string (⟨#[]⟩ : ByteArray), .string (⟨#[]⟩ : ByteArray), .bool false]) ?_ 5 _ rfl; (with_reducible repeat (first | refine blk_drewN ?_ _ | refine blk_drew ?_ | refine blk_alloc ?_ _)); refine blk_put (cs := #[.int .u64 0, .int .u64 0, .int .u64 0, .int .u64 0, .int .u64 0, .string (⟨#[]⟩ : ByteArray), .string (⟨#[]⟩ : ByteArray), .bool false]) ?_ 4 _ rfl; (with_reducible repeat (first | refine blk_drewN ?_ _ | refine blk_drew ?_ | refine blk_alloc ?_ _)); refine blk_put (cs := #[.int .u64 0, .int .u64 0, .int .u64 0, .int .u64 0, .int .u64 0, .string (⟨#[]⟩ : ByteArray), .string (⟨#[]⟩ : ByteArray), .bool false]) ?_ 3 _ rfl; (with_reducible repeat (first | refine blk_drewN ?_ _ | refine blk_drew ?_ | refine blk_alloc ?_ _)); refine blk_put (cs := #[.int .u64 0, .int .u64 0, .int .u64 0, .int .u64 0, .int .u64 0, .string (⟨#[]⟩ : ByteArray), .string (⟨#[]⟩ : ByteArray), .bool false]) ?_ 2 _ rfl; (with_reducible repeat (first | refine blk_drewN ?_ _ | refine blk_drew ?_ | refine blk_alloc ?_ _)); refine blk_put (cs := #[.int .u64 0, .int .u64 0, .int .u64 0, .int .u64 0, .int .u64 0, .string (⟨#[]⟩ : ByteArray), .string (⟨#[]⟩ : ByteArray), .bool false]) ?_ 1 _ rfl; (with_reducible repeat (first | refine blk_drewN ?_ _ | refine blk_drew ?_ | refine blk_alloc ?_ _)); refine blk_put (cs := #[.int .u64 0, .int .u64 0, .int .u64 0, .int .u64 0, .int .u64 0, .string (⟨#[]⟩ : ByteArray), .string (⟨#[]⟩ : ByteArray), .bool false]) ?_ 0 _ rfl; (with_reducible repeat (first | refine blk_drewN ?_ _ | refine blk_drew ?_ | refine blk_alloc ?_ _)); exact BK128.out) Try.underlying28 rfl (by kernel_rfl)) rfl ?_
    exact ⟨_, by first | rfl | (simp [errW_none, errW_some] <;> rfl) | (simp [*, errW_none, errW_some] <;> rfl), Kd.V_nil _ _ _ _ _, by repeat (first | (with_reducible first | exact HB.out | apply below_alloc | apply pw_below_drewN | apply below_drew1 | refine below_set ?_ GE128.out) | exact HB.out)⟩
  · rw [if_neg c2] at H
    have c2b0 : decide ((l0.length : Int) < 41) = false := decide_eq_false c2
    have c2b1 : decide (l0.length < 41) = false := decide_eq_false (by omega)
    clear c2
    replace H := Option.bind_eq_some_iff.mp H
    obtain ⟨t129, A50, H⟩ := H
    replace H : (if 8 ≤ (l0.length : Int) then ((winnowref03_Number.f k (l0.drop 8)).bind fun t135 => (if 16 ≤ (l0.length : Int) then ((winnowref03_Number.f k (l0.drop 16)).bind fun t141 => (if 24 ≤ (l0.length : Int) then ((winnowref03_Number.f k (l0.drop 24)).bind fun t147 => (if 32 ≤ (l0.length : Int) then ((winnowref03_Number.f k (l0.drop 32)).bind fun t153 => (if 40 < (l0.length : Int) then (if (rd l0 40) > 1 then (some (0, 0, 0, 0, 0, (⟨#[]⟩ : ByteArray), (⟨#[]⟩ : ByteArray), false, ([] : List Int), 6)) else (if 41 ≤ (l0.length : Int) then ((winnowref03_cutText.f k (l0.drop 41)).bind fun bt162 => (if bt162.2.2 = 0 then ((winnowref03_cutText.f k bt162.2.1).bind fun bt167 => (if bt167.2.2 = 0 then ((winnowref03_Right.f k t129 t135 t141 t147 t153 bt162.1 bt167.1 ((rd l0 40) == 1)).bind fun t172 => (if t172 = 0 then (some (t129, t135, t141, t147, t153, bt162.1, bt167.1, ((rd l0 40) == 1), bt167.2.1, 0)) else (some (0, 0, 0, 0, 0, (⟨#[]⟩ : ByteArray), (⟨#[]⟩ : ByteArray), false, ([] : List Int), t172)))) else (some (0, 0, 0, 0, 0, (⟨#[]⟩ : ByteArray), (⟨#[]⟩ : ByteArray), false, ([] : List Int), bt167.2.2)))) else (some (0, 0, 0, 0, 0, (⟨#[]⟩ : ByteArray), (⟨#[]⟩ : ByteArray), false, ([] : List Int), bt162.2.2)))) else (none))) else (none))) else (none))) else (none))) else (none))) else (none)) = some (r1, r2, r3, r4, r5, r6, r7, r8, r9, r10) := H
    have A5 := Aside0.mk A50
    clear A50
    by_cases c6 : 8 ≤ (l0.length : Int)
    · rw [if_pos c6] at H
      have c6b0 := eq_true c6
      have c6b1 : decide (8 ≤ (l0.length : Int)) = true := decide_eq_true c6
      clear c6
      obtain ⟨y130, hy130⟩ : ∃ y_ : List Int, y_ = (l0.drop 8) := ⟨_, rfl⟩
      replace H : ((winnowref03_Number.f k y130).bind fun t135 => (if 16 ≤ (l0.length : Int) then ((winnowref03_Number.f k (l0.drop 16)).bind fun t141 => (if 24 ≤ (l0.length : Int) then ((winnowref03_Number.f k (l0.drop 24)).bind fun t147 => (if 32 ≤ (l0.length : Int) then ((winnowref03_Number.f k (l0.drop 32)).bind fun t153 => (if 40 < (l0.length : Int) then (if (rd l0 40) > 1 then (some (0, 0, 0, 0, 0, (⟨#[]⟩ : ByteArray), (⟨#[]⟩ : ByteArray), false, ([] : List Int), 6)) else (if 41 ≤ (l0.length : Int) then ((winnowref03_cutText.f k (l0.drop 41)).bind fun bt162 => (if bt162.2.2 = 0 then ((winnowref03_cutText.f k bt162.2.1).bind fun bt167 => (if bt167.2.2 = 0 then ((winnowref03_Right.f k t129 t135 t141 t147 t153 bt162.1 bt167.1 ((rd l0 40) == 1)).bind fun t172 => (if t172 = 0 then (some (t129, t135, t141, t147, t153, bt162.1, bt167.1, ((rd l0 40) == 1), bt167.2.1, 0)) else (some (0, 0, 0, 0, 0, (⟨#[]⟩ : ByteArray), (⟨#[]⟩ : ByteArray), false, ([] : List Int), t172)))) else (some (0, 0, 0, 0, 0, (⟨#[]⟩ : ByteArray), (⟨#[]⟩ : ByteArray), false, ([] : List Int), bt167.2.2)))) else (some (0, 0, 0, 0, 0, (⟨#[]⟩ : ByteArray), (⟨#[]⟩ : ByteArray), false, ([] : List Int), bt162.2.2)))) else (none))) else (none))) else (none))) else (none))) else (none))) = some (r1, r2, r3, r4, r5, r6, r7, r8, r9, r10) := by first | (rw [hy130]; with_reducible exact H) | (have H2_ := (Option.bind_some _ _).symm.trans H; rw [hy130]; with_reducible exact H2_) | (have H2_ := (Option.bind_some _ _).symm.trans H; with_reducible exact H2_) | with_reducible exact H | (rw [hy130]; exact H) | exact H
      have Ny130 := Aside0.mk hy130
      clear hy130
      replace H := Option.bind_eq_some_iff.mp H
      obtain ⟨t135, A70, H⟩ := H
      replace H : (if 16 ≤ (l0.length : Int) then ((winnowref03_Number.f k (l0.drop 16)).bind fun t141 => (if 24 ≤ (l0.length : Int) then ((winnowref03_Number.f k (l0.drop 24)).bind fun t147 => (if 32 ≤ (l0.length : Int) then ((winnowref03_Number.f k (l0.drop 32)).bind fun t153 => (if 40 < (l0.length : Int) then (if (rd l0 40) > 1 then (some (0, 0, 0, 0, 0, (⟨#[]⟩ : ByteArray), (⟨#[]⟩ : ByteArray), false, ([] : List Int), 6)) else (if 41 ≤ (l0.length : Int) then ((winnowref03_cutText.f k (l0.drop 41)).bind fun bt162 => (if bt162.2.2 = 0 then ((winnowref03_cutText.f k bt162.2.1).bind fun bt167 => (if bt167.2.2 = 0 then ((winnowref03_Right.f k t129 t135 t141 t147 t153 bt162.1 bt167.1 ((rd l0 40) == 1)).bind fun t172 => (if t172 = 0 then (some (t129, t135, t141, t147, t153, bt162.1, bt167.1, ((rd l0 40) == 1), bt167.2.1, 0)) else (some (0, 0, 0, 0, 0, (⟨#[]⟩ : ByteArray), (⟨#[]⟩ : ByteArray), false, ([] : List Int), t172)))) else (some (0, 0, 0, 0, 0, (⟨#[]⟩ : ByteArray), (⟨#[]⟩ : ByteArray), false, ([] : List Int), bt167.2.2)))) else (some (0, 0, 0, 0, 0, (⟨#[]⟩ : ByteArray), (⟨#[]⟩ : ByteArray), false, ([] : List Int), bt162.2.2)))) else (none))) else (none))) else (none))) else (none))) else (none)) = some (r1, r2, r3, r4, r5, r6, r7, r8, r9, r10) := H
      have A7 := Aside0.mk A70
      clear A70
      by_cases c8 : 16 ≤ (l0.length : Int)
      · rw [if_pos c8] at H
        have c8b0 := eq_true c8
        have c8b1 : decide (16 ≤ (l0.length : Int)) = true := decide_eq_true c8
        clear c8
        obtain ⟨y136, hy136⟩ : ∃ y_ : List Int, y_ = (l0.drop 16) := ⟨_, rfl⟩
        replace H : ((winnowref03_Number.f k y136).bind fun t141 => (if 24 ≤ (l0.length : Int) then ((winnowref03_Number.f k (l0.drop 24)).bind fun t147 => (if 32 ≤ (l0.length : Int) then ((winnowref03_Number.f k (l0.drop 32)).bind fun t153 => (if 40 < (l0.length : Int) then (if (rd l0 40) > 1 then (some (0, 0, 0, 0, 0, (⟨#[]⟩ : ByteArray), (⟨#[]⟩ : ByteArray), false, ([] : List Int), 6)) else (if 41 ≤ (l0.length : Int) then ((winnowref03_cutText.f k (l0.drop 41)).bind fun bt162 => (if bt162.2.2 = 0 then ((winnowref03_cutText.f k bt162.2.1).bind fun bt167 => (if bt167.2.2 = 0 then ((winnowref03_Right.f k t129 t135 t141 t147 t153 bt162.1 bt167.1 ((rd l0 40) == 1)).bind fun t172 => (if t172 = 0 then (some (t129, t135, t141, t147, t153, bt162.1, bt167.1, ((rd l0 40) == 1), bt167.2.1, 0)) else (some (0, 0, 0, 0, 0, (⟨#[]⟩ : ByteArray), (⟨#[]⟩ : ByteArray), false, ([] : List Int), t172)))) else (some (0, 0, 0, 0, 0, (⟨#[]⟩ : ByteArray), (⟨#[]⟩ : ByteArray), false, ([] : List Int), bt167.2.2)))) else (some (0, 0, 0, 0, 0, (⟨#[]⟩ : ByteArray), (⟨#[]⟩ : ByteArray), false, ([] : List Int), bt162.2.2)))) else (none))) else (none))) else (none))) else (none))) = some (r1, r2, r3, r4, r5, r6, r7, r8, r9, r10) := by first | (rw [hy136]; with_reducible exact H) | (have H2_ := (Option.bind_some _ _).symm.trans H; rw [hy136]; with_reducible exact H2_) | (have H2_ := (Option.bind_some _ _).symm.trans H; with_reducible exact H2_) | with_reducible exact H | (rw [hy136]; exact H) | exact H
        have Ny136 := Aside0.mk hy136
        clear hy136
        replace H := Option.bind_eq_some_iff.mp H
        obtain ⟨t141, A90, H⟩ := H
        replace H : (if 24 ≤ (l0.length : Int) then ((winnowref03_Number.f k (l0.drop 24)).bind fun t147 => (if 32 ≤ (l0.length : Int) then ((winnowref03_Number.f k (l0.drop 32)).bind fun t153 => (if 40 < (l0.length : Int) then (if (rd l0 40) > 1 then (some (0, 0, 0, 0, 0, (⟨#[]⟩ : ByteArray), (⟨#[]⟩ : ByteArray), false, ([] : List Int), 6)) else (if 41 ≤ (l0.length : Int) then ((winnowref03_cutText.f k (l0.drop 41)).bind fun bt162 => (if bt162.2.2 = 0 then ((winnowref03_cutText.f k bt162.2.1).bind fun bt167 => (if bt167.2.2 = 0 then ((winnowref03_Right.f k t129 t135 t141 t147 t153 bt162.1 bt167.1 ((rd l0 40) == 1)).bind fun t172 => (if t172 = 0 then (some (t129, t135, t141, t147, t153, bt162.1, bt167.1, ((rd l0 40) == 1), bt167.2.1, 0)) else (some (0, 0, 0, 0, 0, (⟨#[]⟩ : ByteArray), (⟨#[]⟩ : ByteArray), false, ([] : List Int), t172)))) else (some (0, 0, 0, 0, 0, (⟨#[]⟩ : ByteArray), (⟨#[]⟩ : ByteArray), false, ([] : List Int), bt167.2.2)))) else (some (0, 0, 0, 0, 0, (⟨#[]⟩ : ByteArray), (⟨#[]⟩ : ByteArray), false, ([] : List Int), bt162.2.2)))) else (none))) else (none))) else (none))) else (none)) = some (r1, r2, r3, r4, r5, r6, r7, r8, r9, r10) := H
        have A9 := Aside0.mk A90
        clear A90
        by_cases c10 : 24 ≤ (l0.length : Int)
        · rw [if_pos c10] at H
          have c10b0 := eq_true c10
          have c10b1 : decide (24 ≤ (l0.length : Int)) = true := decide_eq_true c10
          clear c10
          obtain ⟨y142, hy142⟩ : ∃ y_ : List Int, y_ = (l0.drop 24) := ⟨_, rfl⟩
          replace H : ((winnowref03_Number.f k y142).bind fun t147 => (if 32 ≤ (l0.length : Int) then ((winnowref03_Number.f k (l0.drop 32)).bind fun t153 => (if 40 < (l0.length : Int) then (if (rd l0 40) > 1 then (some (0, 0, 0, 0, 0, (⟨#[]⟩ : ByteArray), (⟨#[]⟩ : ByteArray), false, ([] : List Int), 6)) else (if 41 ≤ (l0.length : Int) then ((winnowref03_cutText.f k (l0.drop 41)).bind fun bt162 => (if bt162.2.2 = 0 then ((winnowref03_cutText.f k bt162.2.1).bind fun bt167 => (if bt167.2.2 = 0 then ((winnowref03_Right.f k t129 t135 t141 t147 t153 bt162.1 bt167.1 ((rd l0 40) == 1)).bind fun t172 => (if t172 = 0 then (some (t129, t135, t141, t147, t153, bt162.1, bt167.1, ((rd l0 40) == 1), bt167.2.1, 0)) else (some (0, 0, 0, 0, 0, (⟨#[]⟩ : ByteArray), (⟨#[]⟩ : ByteArray), false, ([] : List Int), t172)))) else (some (0, 0, 0, 0, 0, (⟨#[]⟩ : ByteArray), (⟨#[]⟩ : ByteArray), false, ([] : List Int), bt167.2.2)))) else (some (0, 0, 0, 0, 0, (⟨#[]⟩ : ByteArray), (⟨#[]⟩ : ByteArray), false, ([] : List Int), bt162.2.2)))) else (none))) else (none))) else (none))) = some (r1, r2, r3, r4, r5, r6, r7, r8, r9, r10) := by first | (rw [hy142]; with_reducible exact H) | (have H2_ := (Option.bind_some _ _).symm.trans H; rw [hy142]; with_reducible exact H2_) | (have H2_ := (Option.bind_some _ _).symm.trans H; with_reducible exact H2_) | with_reducible exact H | (rw [hy142]; exact H) | exact H
          have Ny142 := Aside0.mk hy142
          clear hy142
          replace H := Option.bind_eq_some_iff.mp H
          obtain ⟨t147, A110, H⟩ := H
          replace H : (if 32 ≤ (l0.length : Int) then ((winnowref03_Number.f k (l0.drop 32)).bind fun t153 => (if 40 < (l0.length : Int) then (if (rd l0 40) > 1 then (some (0, 0, 0, 0, 0, (⟨#[]⟩ : ByteArray), (⟨#[]⟩ : ByteArray), false, ([] : List Int), 6)) else (if 41 ≤ (l0.length : Int) then ((winnowref03_cutText.f k (l0.drop 41)).bind fun bt162 => (if bt162.2.2 = 0 then ((winnowref03_cutText.f k bt162.2.1).bind fun bt167 => (if bt167.2.2 = 0 then ((winnowref03_Right.f k t129 t135 t141 t147 t153 bt162.1 bt167.1 ((rd l0 40) == 1)).bind fun t172 => (if t172 = 0 then (some (t129, t135, t141, t147, t153, bt162.1, bt167.1, ((rd l0 40) == 1), bt167.2.1, 0)) else (some (0, 0, 0, 0, 0, (⟨#[]⟩ : ByteArray), (⟨#[]⟩ : ByteArray), false, ([] : List Int), t172)))) else (some (0, 0, 0, 0, 0, (⟨#[]⟩ : ByteArray), (⟨#[]⟩ : ByteArray), false, ([] : List Int), bt167.2.2)))) else (some (0, 0, 0, 0, 0, (⟨#[]⟩ : ByteArray), (⟨#[]⟩ : ByteArray), false, ([] : List Int), bt162.2.2)))) else (none))) else (none))) else (none)) = some (r1, r2, r3, r4, r5, r6, r7, r8, r9, r10) := H
          have A11 := Aside0.mk A110
          clear A110
          by_cases c12 : 32 ≤ (l0.length : Int)
          · rw [if_pos c12] at H
            have c12b0 := eq_true c12
            have c12b1 : decide (32 ≤ (l0.length : Int)) = true := decide_eq_true c12
            clear c12
            obtain ⟨y148, hy148⟩ : ∃ y_ : List Int, y_ = (l0.drop 32) := ⟨_, rfl⟩
            replace H : ((winnowref03_Number.f k y148).bind fun t153 => (if 40 < (l0.length : Int) then (if (rd l0 40) > 1 then (some (0, 0, 0, 0, 0, (⟨#[]⟩ : ByteArray), (⟨#[]⟩ : ByteArray), false, ([] : List Int), 6)) else (if 41 ≤ (l0.length : Int) then ((winnowref03_cutText.f k (l0.drop 41)).bind fun bt162 => (if bt162.2.2 = 0 then ((winnowref03_cutText.f k bt162.2.1).bind fun bt167 => (if bt167.2.2 = 0 then ((winnowref03_Right.f k t129 t135 t141 t147 t153 bt162.1 bt167.1 ((rd l0 40) == 1)).bind fun t172 => (if t172 = 0 then (some (t129, t135, t141, t147, t153, bt162.1, bt167.1, ((rd l0 40) == 1), bt167.2.1, 0)) else (some (0, 0, 0, 0, 0, (⟨#[]⟩ : ByteArray), (⟨#[]⟩ : ByteArray), false, ([] : List Int), t172)))) else (some (0, 0, 0, 0, 0, (⟨#[]⟩ : ByteArray), (⟨#[]⟩ : ByteArray), false, ([] : List Int), bt167.2.2)))) else (some (0, 0, 0, 0, 0, (⟨#[]⟩ : ByteArray), (⟨#[]⟩ : ByteArray), false, ([] : List Int), bt162.2.2)))) else (none))) else (none))) = some (r1, r2, r3, r4, r5, r6, r7, r8, r9, r10) := by first | (rw [hy148]; with_reducible exact H) | (have H2_ := (Option.bind_some _ _).symm.trans H; rw [hy148]; with_reducible exact H2_) | (have H2_ := (Option.bind_some _ _).symm.trans H; with_reducible exact H2_) | with_reducible exact H | (rw [hy148]; exact H) | exact H
            have Ny148 := Aside0.mk hy148
            clear hy148
            replace H := Option.bind_eq_some_iff.mp H
            obtain ⟨t153, A130, H⟩ := H
            replace H : (if 40 < (l0.length : Int) then (if (rd l0 40) > 1 then (some (0, 0, 0, 0, 0, (⟨#[]⟩ : ByteArray), (⟨#[]⟩ : ByteArray), false, ([] : List Int), 6)) else (if 41 ≤ (l0.length : Int) then ((winnowref03_cutText.f k (l0.drop 41)).bind fun bt162 => (if bt162.2.2 = 0 then ((winnowref03_cutText.f k bt162.2.1).bind fun bt167 => (if bt167.2.2 = 0 then ((winnowref03_Right.f k t129 t135 t141 t147 t153 bt162.1 bt167.1 ((rd l0 40) == 1)).bind fun t172 => (if t172 = 0 then (some (t129, t135, t141, t147, t153, bt162.1, bt167.1, ((rd l0 40) == 1), bt167.2.1, 0)) else (some (0, 0, 0, 0, 0, (⟨#[]⟩ : ByteArray), (⟨#[]⟩ : ByteArray), false, ([] : List Int), t172)))) else (some (0, 0, 0, 0, 0, (⟨#[]⟩ : ByteArray), (⟨#[]⟩ : ByteArray), false, ([] : List Int), bt167.2.2)))) else (some (0, 0, 0, 0, 0, (⟨#[]⟩ : ByteArray), (⟨#[]⟩ : ByteArray), false, ([] : List Int), bt162.2.2)))) else (none))) else (none)) = some (r1, r2, r3, r4, r5, r6, r7, r8, r9, r10) := H
            have A13 := Aside0.mk A130
            clear A130
            by_cases c14 : 40 < (l0.length : Int)
            · rw [if_pos c14] at H
              have c14b0 : decide (40 < (l0.length : Int)) = true := decide_eq_true c14
              have c14b1 : decide (40 < l0.length) = true := decide_eq_true (by omega)
              clear c14
              have HS0 := Aside0.mk hs0
              go_enter Try.func22, Try.ntmps22
              try go_wp2_with (first | ((with_reducible refine gate_dst (N := 2) rfl ?_); refine box_event ?hg (N := 2) ?hd (cs := #[.int .u64 0, .int .u64 0, .int .u64 0, .int .u64 0, .int .u64 0, .string (⟨#[]⟩ : ByteArray), .string (⟨#[]⟩ : ByteArray), .bool false]) (t := 28) ?hr ?_; (case hd => rfl); (case hg => rfl); (case hr => first | (go_simp; done) | (go_simp; rfl)); intro gb128 hg w16 hbox hb; have n0_ := Aside0.mk (Kd.V_below (Kd.V_elderB (by (with_reducible repeat (first | apply Kd.V_alloc | apply Kd.V_drewN | apply Kd.V_drew)); exact HO0.out) gb128 (Nat.le_of_eq hg.symm)) hb); have n1_ := Aside0.mk (below_step (by repeat (first | (with_reducible first | exact HB.out | apply below_alloc | apply pw_below_drewN | apply below_drew1) | exact HB.out)) hb); have n2_ := Aside0.mk (hbox); have n3_ := Aside0.mk ((by rw [hg]; exact (below_size (by repeat (first | (with_reducible first | exact HB.out | apply below_alloc | apply pw_below_drewN | apply below_drew1) | exact HB.out))) : w.heap.size ≤ gb128)); have n4_ := Aside0.mk ((by rw [hg]; exact (below_size (by repeat (first | (with_reducible first | exact HB.out | apply below_alloc | apply pw_below_drewN | apply below_drew1) | exact HB.out))) : w.heap.size ≤ gb128)); clear HO0; clear HB; have HO0 := n0_; have HB := n1_; have BK128 := n2_; have GW128 := n3_; have GE128 := n4_; clear n0_ n1_ n2_ n3_ n4_; clear hb hbox hg))
              have n0_ := Aside0.mk (Kd.V_drew HO0.out)
              have n1_ := Aside0.mk (blk_drew BK128.out)
              have n2_ := Aside0.mk (below_drew1 HB.out)
              clear HO0
              clear BK128
              clear HB
              have HO0 := n0_
              have BK128 := n1_
              have HB := n2_
              clear n0_ n1_ n2_
              have q18 : (8 : Int) ≤ ((l0.length : Int) : Int) := of_decide_eq_true (by first | (with_reducible assumption) | assumption)
              obtain ⟨i018, hi018, _, hsz18, _⟩ := info_parts info5
              have hroom18 : l0.length ≤ c0 := (Kd.V_reads' HO0.out).2.1
              have hC18 : Kd.F (Kd.int .u8) _ _ A0 l0.length l0 := (Kd.V_at (base := w.heap.size) HO0.out).2.2
              have hcut18 := cut_from (P := Try.prog) 31 5 .i64 Try.underlying31 hi018 1 hsz18 A0 l0.length c0 8 (by omega) q18
              have hr18 := Kd.F_cut (m := (8 : Int).toNat) (c := c0) hC18 (by omega) hroom18
              obtain ⟨A18, hA18⟩ : ∃ A1, A1 = (if c0 = (8 : Int).toNat then A0 else (A0 : Option Addr).map (·.add ((8 : Int).toNat * 1))) := ⟨_, rfl⟩
              obtain ⟨c18, hc18⟩ : ∃ c1, c1 = c0 - (8 : Int).toNat := ⟨_, rfl⟩
              have hy18 : y130.length = l0.length - (8 : Int).toNat := (by rw [Ny130.out, List.length_drop] <;> omega)
              rw [show (l0).drop (8 : Int).toNat = y130 from Ny130.out.symm] at hr18
              replace hr18 : Kd.F (Kd.int .u8) _ _ A18 y130.length y130 := (by rw [hA18]; exact hr18)
              rw [← hy18, ← hA18, ← hc18] at hcut18
              have HO134 := Aside0.mk (show Kd.V (Kd.int .u8) 5 _ w.heap.size _ (.slice A18 y130.length c18) y130 from Kd.V_mk (by rw [hy18, hc18]; exact Nat.sub_le_sub_right hroom18 _) hr18)
              have HC134 := Aside0.mk (show y130.length ≤ c18 from by rw [hy18, hc18]; exact Nat.sub_le_sub_right hroom18 _)
              clear hr18 hC18 hroom18 hi018 hsz18 hc18
              have KY18 := Aside0.mk hy18
              have KA18 := Aside0.mk hA18
              clear hy18 hA18
              replace q18 := eq_true q18
              have q19 : (16 : Int) ≤ ((l0.length : Int) : Int) := of_decide_eq_true (by first | (with_reducible assumption) | assumption)
              obtain ⟨i019, hi019, _, hsz19, _⟩ := info_parts info5
              have hroom19 : l0.length ≤ c0 := (Kd.V_reads' HO0.out).2.1
              have hC19 : Kd.F (Kd.int .u8) _ _ A0 l0.length l0 := (Kd.V_at (base := w.heap.size) HO0.out).2.2
              have hcut19 := cut_from (P := Try.prog) 31 5 .i64 Try.underlying31 hi019 1 hsz19 A0 l0.length c0 16 (by omega) q19
              have hr19 := Kd.F_cut (m := (16 : Int).toNat) (c := c0) hC19 (by omega) hroom19
              obtain ⟨A19, hA19⟩ : ∃ A1, A1 = (if c0 = (16 : Int).toNat then A0 else (A0 : Option Addr).map (·.add ((16 : Int).toNat * 1))) := ⟨_, rfl⟩
              obtain ⟨c19, hc19⟩ : ∃ c1, c1 = c0 - (16 : Int).toNat := ⟨_, rfl⟩
              have hy19 : y136.length = l0.length - (16 : Int).toNat := (by rw [Ny136.out, List.length_drop] <;> omega)
              rw [show (l0).drop (16 : Int).toNat = y136 from Ny136.out.symm] at hr19
              replace hr19 : Kd.F (Kd.int .u8) _ _ A19 y136.length y136 := (by rw [hA19]; exact hr19)
              rw [← hy19, ← hA19, ← hc19] at hcut19
              have HO140 := Aside0.mk (show Kd.V (Kd.int .u8) 5 _ w.heap.size _ (.slice A19 y136.length c19) y136 from Kd.V_mk (by rw [hy19, hc19]; exact Nat.sub_le_sub_right hroom19 _) hr19)
              have HC140 := Aside0.mk (show y136.length ≤ c19 from by rw [hy19, hc19]; exact Nat.sub_le_sub_right hroom19 _)
              clear hr19 hC19 hroom19 hi019 hsz19 hc19
              have KY19 := Aside0.mk hy19
              have KA19 := Aside0.mk hA19
              clear hy19 hA19
              replace q19 := eq_true q19
              have q20 : (24 : Int) ≤ ((l0.length : Int) : Int) := of_decide_eq_true (by first | (with_reducible assumption) | assumption)
              obtain ⟨i020, hi020, _, hsz20, _⟩ := info_parts info5
              have hroom20 : l0.length ≤ c0 := (Kd.V_reads' HO0.out).2.1
              have hC20 : Kd.F (Kd.int .u8) _ _ A0 l0.length l0 := (Kd.V_at (base := w.heap.size) HO0.out).2.2
              have hcut20 := cut_from (P := Try.prog) 31 5 .i64 Try.underlying31 hi020 1 hsz20 A0 l0.length c0 24 (by omega) q20
              have hr20 := Kd.F_cut (m := (24 : Int).toNat) (c := c0) hC20 (by omega) hroom20
              obtain ⟨A20, hA20⟩ : ∃ A1, A1 = (if c0 = (24 : Int).toNat then A0 else (A0 : Option Addr).map (·.add ((24 : Int).toNat * 1))) := ⟨_, rfl⟩
              obtain ⟨c20, hc20⟩ : ∃ c1, c1 = c0 - (24 : Int).toNat := ⟨_, rfl⟩
              have hy20 : y142.length = l0.length - (24 : Int).toNat := (by rw [Ny142.out, List.length_drop] <;> omega)
              rw [show (l0).drop (24 : Int).toNat = y142 from Ny142.out.symm] at hr20
              replace hr20 : Kd.F (Kd.int .u8) _ _ A20 y142.length y142 := (by rw [hA20]; exact hr20)
              rw [← hy20, ← hA20, ← hc20] at hcut20
              have HO146 := Aside0.mk (show Kd.V (Kd.int .u8) 5 _ w.heap.size _ (.slice A20 y142.length c20) y142 from Kd.V_mk (by rw [hy20, hc20]; exact Nat.sub_le_sub_right hroom20 _) hr20)
              have HC146 := Aside0.mk (show y142.length ≤ c20 from by rw [hy20, hc20]; exact Nat.sub_le_sub_right hroom20 _)
              clear hr20 hC20 hroom20 hi020 hsz20 hc20
              have KY20 := Aside0.mk hy20
              have KA20 := Aside0.mk hA20
              clear hy20 hA20
              replace q20 := eq_true q20
              have q21 : (32 : Int) ≤ ((l0.length : Int) : Int) := of_decide_eq_true (by first | (with_reducible assumption) | assumption)
              obtain ⟨i021, hi021, _, hsz21, _⟩ := info_parts info5
              have hroom21 : l0.length ≤ c0 := (Kd.V_reads' HO0.out).2.1
              have hC21 : Kd.F (Kd.int .u8) _ _ A0 l0.length l0 := (Kd.V_at (base := w.heap.size) HO0.out).2.2
              have hcut21 := cut_from (P := Try.prog) 31 5 .i64 Try.underlying31 hi021 1 hsz21 A0 l0.length c0 32 (by omega) q21
              have hr21 := Kd.F_cut (m := (32 : Int).toNat) (c := c0) hC21 (by omega) hroom21
              obtain ⟨A21, hA21⟩ : ∃ A1, A1 = (if c0 = (32 : Int).toNat then A0 else (A0 : Option Addr).map (·.add ((32 : Int).toNat * 1))) := ⟨_, rfl⟩
              obtain ⟨c21, hc21⟩ : ∃ c1, c1 = c0 - (32 : Int).toNat := ⟨_, rfl⟩
              have hy21 : y148.length = l0.length - (32 : Int).toNat := (by rw [Ny148.out, List.length_drop] <;> omega)
              rw [show (l0).drop (32 : Int).toNat = y148 from Ny148.out.symm] at hr21
              replace hr21 : Kd.F (Kd.int .u8) _ _ A21 y148.length y148 := (by rw [hA21]; exact hr21)
              rw [← hy21, ← hA21, ← hc21] at hcut21
              have HO152 := Aside0.mk (show Kd.V (Kd.int .u8) 5 _ w.heap.size _ (.slice A21 y148.length c21) y148 from Kd.V_mk (by rw [hy21, hc21]; exact Nat.sub_le_sub_right hroom21 _) hr21)
              have HC152 := Aside0.mk (show y148.length ≤ c21 from by rw [hy21, hc21]; exact Nat.sub_le_sub_right hroom21 _)
              clear hr21 hC21 hroom21 hi021 hsz21 hc21
              have KY21 := Aside0.mk hy21
              have KA21 := Aside0.mk hA21
              clear hy21 hA21
              replace q21 := eq_true q21
              have p154 : 0 ≤ (40 : Int) := (by omega)
              have q154 : 40 < (l0.length : Int) := of_decide_eq_true (by first | (with_reducible assumption) | assumption)
              obtain ⟨ad154, e154, hx154_0⟩ := Kd.at_int (Kd.V_reads' HO0.out).2.2 40 p154 q154
              have HAB := Aside0.mk (show ad154.block < w.heap.size from by obtain ⟨ad_, e_, h_⟩ := Kd.at_int (Kd.V_reads' hs0).2.2 40 (by omega) (by omega); obtain rfl : ad154 = ad_ := (by rw [e154] at e_; injection e_); have := World.block_lt_of_cell? w _ h_; rwa [add_block] at this)
              cases e154
              (try simp only [show (40 : Int).toNat = 40 from rfl, Nat.reduceMul, Nat.reduceEqDiff, Go.Addr.add, ↓reduceIte] at hx154_0)
              have qi154 : (40 < l0.length) = True := eq_true (by omega)
              (try rw [show ((40 : Int)).toNat = 40 from rfl] at hx154_0)
              replace p154 := eq_true p154
              replace q154 := eq_true q154
              refine start_ (n := 21) (S := fun w' => w'.cell? ⟨ad154.block, ad154.off + 40, none⟩ = some (.int .u8 (rd l0 40))) (ds := []) #[false, false, false, false, false, false, false, false, false, false, false, false, false, false, false, false, false, false, false, false, false] (by kernel_rfl) rfl rfl (hx154_0) (fun hHeld => ?_); refine with_tabW winnowref03_Cut.tab3 winnowref03_Cut.bits3 (fun HT_ HW_ => ?_)
              generalize w16.drew = w17 at HO0 BK128 HB HO134 HO140 HO146 HO152 hx154_0 hHeld ⊢
              refine pure_ (i := 0) (N := some 15) (v := ?_) (a' := ?_) #[true, false, false, false, false, false, false, false, false, false, false, false, false, false, false, false, false, false, false, false, false] rfl rfl (any_of HT_.out (by kernel_rfl)) (fun _ _ _ h => h) (Or.inl ⟨by rfl, ?_⟩) ?_ ?_
              rotate_left
              · intro w'
                go_simp
                with_reducible rfl
              rotate_left
              · simp only [Act.put, List.setIfInBounds_toArray, List.set_cons_zero, List.set_cons_succ, i64_w, i32_w]
                rfl
              refine pure_ (i := 2) (N := some 17) (v := ?_) (a' := ?_) #[true, false, true, false, false, false, false, false, false, false, false, false, false, false, false, false, false, false, false, false, false] rfl rfl (any_of HT_.out (by kernel_rfl)) (fun _ _ _ h => h) (Or.inl ⟨by rfl, ?_⟩) ?_ ?_
              rotate_left
              · intro w'
                go_simp
                with_reducible rfl
              rotate_left
              · simp only [Act.put, List.setIfInBounds_toArray, List.set_cons_zero, List.set_cons_succ, i64_w, i32_w]
                rfl
              refine pure_ (i := 3) (N := some 18) (v := ?_) (a' := ?_) #[true, false, true, true, false, false, false, false, false, false, false, false, false, false, false, false, false, false, false, false, false] rfl rfl (any_of HT_.out (by kernel_rfl)) (fun _ _ _ h => h) (Or.inl ⟨by rfl, ?_⟩) ?_ ?_
              rotate_left
              · intro w'
                go_simp
                with_reducible rfl
              rotate_left
              · simp only [Act.put, List.setIfInBounds_toArray, List.set_cons_zero, List.set_cons_succ, i64_w, i32_w]
                rfl
              refine pure_ (i := 5) (N := some 20) (v := ?_) (a' := ?_) #[true, false, true, true, false, true, false, false, false, false, false, false, false, false, false, false, false, false, false, false, false] rfl rfl (any_of HT_.out (by kernel_rfl)) (fun _ _ _ h => h) (Or.inl ⟨by rfl, ?_⟩) ?_ ?_
              rotate_left
              · intro w'
                go_simp
                with_reducible rfl
              rotate_left
              · simp only [Act.put, List.setIfInBounds_toArray, List.set_cons_zero, List.set_cons_succ, i64_w, i32_w]
                rfl
              refine pure_ (i := 6) (N := some 21) (v := ?_) (a' := ?_) #[true, false, true, true, false, true, true, false, false, false, false, false, false, false, false, false, false, false, false, false, false] rfl rfl (any_of HT_.out (by kernel_rfl)) (fun _ _ _ h => h) (Or.inl ⟨by rfl, ?_⟩) ?_ ?_
              rotate_left
              · intro w'
                go_simp
                with_reducible rfl
              rotate_left
              · simp only [Act.put, List.setIfInBounds_toArray, List.set_cons_zero, List.set_cons_succ, i64_w, i32_w]
                rfl
              refine pure_ (i := 8) (N := some 23) (v := ?_) (a' := ?_) #[true, false, true, true, false, true, true, false, true, false, false, false, false, false, false, false, false, false, false, false, false] rfl rfl (any_of HT_.out (by kernel_rfl)) (fun _ _ _ h => h) (Or.inl ⟨by rfl, ?_⟩) ?_ ?_
              rotate_left
              · intro w'
                go_simp
                with_reducible rfl
              rotate_left
              · simp only [Act.put, List.setIfInBounds_toArray, List.set_cons_zero, List.set_cons_succ, i64_w, i32_w]
                rfl
              refine pure_ (i := 9) (N := some 24) (v := ?_) (a' := ?_) #[true, false, true, true, false, true, true, false, true, true, false, false, false, false, false, false, false, false, false, false, false] rfl rfl (any_of HT_.out (by kernel_rfl)) (fun _ _ _ h => h) (Or.inl ⟨by rfl, ?_⟩) ?_ ?_
              rotate_left
              · intro w'
                go_simp
                with_reducible rfl
              rotate_left
              · simp only [Act.put, List.setIfInBounds_toArray, List.set_cons_zero, List.set_cons_succ, i64_w, i32_w]
                rfl
              refine pure_ (i := 11) (N := some 26) (v := ?_) (a' := ?_) #[true, false, true, true, false, true, true, false, true, true, false, true, false, false, false, false, false, false, false, false, false] rfl rfl (any_of HT_.out (by kernel_rfl)) (fun _ _ _ h => h) (Or.inl ⟨by rfl, ?_⟩) ?_ ?_
              rotate_left
              · intro w'
                go_simp
                with_reducible rfl
              rotate_left
              · simp only [Act.put, List.setIfInBounds_toArray, List.set_cons_zero, List.set_cons_succ, i64_w, i32_w]
                rfl
              refine pure_ (i := 12) (N := some 27) (v := ?_) (a' := ?_) #[true, false, true, true, false, true, true, false, true, true, false, true, true, false, false, false, false, false, false, false, false] rfl rfl (any_of HT_.out (by kernel_rfl)) (fun _ _ _ h => h) (Or.inl ⟨by rfl, ?_⟩) ?_ ?_
              rotate_left
              · intro w'
                go_simp
                with_reducible rfl
              rotate_left
              · simp only [Act.put, List.setIfInBounds_toArray, List.set_cons_zero, List.set_cons_succ, i64_w, i32_w]
                rfl
              refine pure_ (i := 14) (N := some 29) (v := ?_) (a' := ?_) #[true, false, true, true, false, true, true, false, true, true, false, true, true, false, true, false, false, false, false, false, false] rfl rfl (any_of HT_.out (by kernel_rfl)) (fun _ _ _ h => h) (Or.inl ⟨by rfl, ?_⟩) ?_ ?_
              rotate_left
              · intro w'
                go_simp
                with_reducible rfl
              rotate_left
              · simp only [Act.put, List.setIfInBounds_toArray, List.set_cons_zero, List.set_cons_succ, i64_w, i32_w]
                rfl
              refine pure_ (i := 15) (N := some 30) (v := ?_) (a' := ?_) #[true, false, true, true, false, true, true, false, true, true, false, true, true, false, true, true, false, false, false, false, false] rfl rfl (any_of HT_.out (by kernel_rfl)) (fun _ _ _ h => h) (Or.inl ⟨by rfl, ?_⟩) ?_ ?_
              rotate_left
              · intro w'
                go_simp
                with_reducible rfl
              rotate_left
              · simp only [Act.put, List.setIfInBounds_toArray, List.set_cons_zero, List.set_cons_succ, i64_w, i32_w]
                rfl
              refine take_ (i := 16) (N := some 31) (v := ?_) (a' := ?_) #[true, false, true, true, false, true, true, false, true, true, false, true, true, false, true, true, true, false, false, false, false] rfl rfl (take_ofW HT_.out HW_.out (by kernel_rfl)) (fun _ _ _ h => h) (Or.inl ⟨by rfl, ?_⟩) hHeld ?_ ?_
              rotate_left
              · intro w' s0
                go_simp
                with_reducible rfl
              rotate_left
              · simp only [Act.put, List.setIfInBounds_toArray, List.set_cons_zero, List.set_cons_succ, i64_w, i32_w]
                rfl
              refine pure_ (i := 17) (N := some 32) (v := ?_) (a' := ?_) #[true, false, true, true, false, true, true, false, true, true, false, true, true, false, true, true, true, true, false, false, false] rfl rfl (any_of HT_.out (by kernel_rfl)) (fun _ _ _ h => h) (Or.inl ⟨by rfl, ?_⟩) ?_ ?_
              rotate_left
              · intro w'
                go_simp
                with_reducible rfl
              rotate_left
              · simp only [Act.put, List.setIfInBounds_toArray, List.set_cons_zero, List.set_cons_succ, i64_w, i32_w]
                rfl
              refine join_ (σ := Nat) 1 #[true, true, true, true, true, true, true, true, true, true, true, true, true, true, true, true, true, true, true, true, false] (fun s_ => [(16, .int .u64 t129), (19, .int .u64 t135), (22, .int .u64 t141), (25, .int .u64 t147), (28, .int .u64 t153), (5, .pointer (some ⟨s_, 0, none⟩)), (33, .agg #[.int .u64 t129, .int .u64 t135, .int .u64 t141, .int .u64 t147, .int .u64 t153, .string (⟨#[]⟩ : ByteArray), .string (⟨#[]⟩ : ByteArray), .bool ((rd l0 40) == 1)])]) (fun s_ w' => (w'.cell? ⟨ad154.block, ad154.off + 40, none⟩ = some (.int .u8 (rd l0 40))) ∧ (Kd.V (Kd.int .u8) 5 w' w.heap.size (fun k_ => (P0_ k_ ∨ w.heap.size ≤ k_) ∧ k_ ≠ gb128 ∧ k_ ≠ s_) (.slice (some ad154) l0.length c0) l0) ∧ (Kd.V (Kd.int .u8) 5 w' w.heap.size (fun k_ => (P0_ k_ ∨ w.heap.size ≤ k_) ∧ k_ ≠ gb128 ∧ k_ ≠ s_) (.slice A18 y130.length c18) y130) ∧ (Kd.V (Kd.int .u8) 5 w' w.heap.size (fun k_ => (P0_ k_ ∨ w.heap.size ≤ k_) ∧ k_ ≠ gb128 ∧ k_ ≠ s_) (.slice A19 y136.length c19) y136) ∧ (Kd.V (Kd.int .u8) 5 w' w.heap.size (fun k_ => (P0_ k_ ∨ w.heap.size ≤ k_) ∧ k_ ≠ gb128 ∧ k_ ≠ s_) (.slice A20 y142.length c20) y142) ∧ (Kd.V (Kd.int .u8) 5 w' w.heap.size (fun k_ => (P0_ k_ ∨ w.heap.size ≤ k_) ∧ k_ ≠ gb128 ∧ k_ ≠ s_) (.slice A21 y148.length c21) y148) ∧ (w'.heap[gb128]? = some (.cells #[.int .u64 0, .int .u64 0, .int .u64 0, .int .u64 0, .int .u64 0, .string (⟨#[]⟩ : ByteArray), .string (⟨#[]⟩ : ByteArray), .bool false] 28 (0, 0))) ∧ (w'.heap[s_]? = some (.cells #[.int .u64 0, .int .u64 0, .int .u64 0, .int .u64 0, .int .u64 0, .string (⟨#[]⟩ : ByteArray), .string (⟨#[]⟩ : ByteArray), .bool false] 28 (0, 0))) ∧ (w.heap.size ≤ s_) ∧ (w.heap.size ≤ s_) ∧ (gb128 ≠ s_) ∧ (s_ ≠ gb128) ∧ (Below w.heap.size w w')) ?_ ?_
              rotate_left
              · intro hJ1_4_7_10_13_19
                refine join_ (σ := Unit) 2 #[true, true, true, true, true, true, true, true, true, true, true, true, true, true, true, true, true, true, true, false, false] (fun s_ => [(16, .int .u64 t129), (19, .int .u64 t135), (22, .int .u64 t141), (25, .int .u64 t147), (28, .int .u64 t153), (33, .agg #[.int .u64 t129, .int .u64 t135, .int .u64 t141, .int .u64 t147, .int .u64 t153, .string (⟨#[]⟩ : ByteArray), .string (⟨#[]⟩ : ByteArray), .bool ((rd l0 40) == 1)])]) (fun s_ w' => (w'.cell? ⟨ad154.block, ad154.off + 40, none⟩ = some (.int .u8 (rd l0 40))) ∧ (Kd.V (Kd.int .u8) 5 w' w.heap.size (fun k_ => (P0_ k_ ∨ w.heap.size ≤ k_) ∧ k_ ≠ gb128) (.slice (some ad154) l0.length c0) l0) ∧ (Kd.V (Kd.int .u8) 5 w' w.heap.size (fun k_ => (P0_ k_ ∨ w.heap.size ≤ k_) ∧ k_ ≠ gb128) (.slice A18 y130.length c18) y130) ∧ (Kd.V (Kd.int .u8) 5 w' w.heap.size (fun k_ => (P0_ k_ ∨ w.heap.size ≤ k_) ∧ k_ ≠ gb128) (.slice A19 y136.length c19) y136) ∧ (Kd.V (Kd.int .u8) 5 w' w.heap.size (fun k_ => (P0_ k_ ∨ w.heap.size ≤ k_) ∧ k_ ≠ gb128) (.slice A20 y142.length c20) y142) ∧ (Kd.V (Kd.int .u8) 5 w' w.heap.size (fun k_ => (P0_ k_ ∨ w.heap.size ≤ k_) ∧ k_ ≠ gb128) (.slice A21 y148.length c21) y148) ∧ (w'.heap[gb128]? = some (.cells #[.int .u64 0, .int .u64 0, .int .u64 0, .int .u64 0, .int .u64 0, .string (⟨#[]⟩ : ByteArray), .string (⟨#[]⟩ : ByteArray), .bool false] 28 (0, 0))) ∧ (Below w.heap.size w w')) ?_ ?_
                rotate_left
                · intro hJ1_4_7_10_13
                  refine join_ (σ := Nat) 3 #[true, true, true, true, true, true, true, true, true, true, true, true, true, false, true, true, true, true, false, true, false] (fun s_ => [(16, .int .u64 t129), (19, .int .u64 t135), (22, .int .u64 t141), (25, .int .u64 t147), (5, .pointer (some ⟨s_, 0, none⟩))]) (fun s_ w' => (w'.cell? ⟨ad154.block, ad154.off + 40, none⟩ = some (.int .u8 (rd l0 40))) ∧ (Kd.V (Kd.int .u8) 5 w' w.heap.size (fun k_ => (P0_ k_ ∨ w.heap.size ≤ k_) ∧ k_ ≠ gb128 ∧ k_ ≠ s_) (.slice (some ad154) l0.length c0) l0) ∧ (Kd.V (Kd.int .u8) 5 w' w.heap.size (fun k_ => (P0_ k_ ∨ w.heap.size ≤ k_) ∧ k_ ≠ gb128 ∧ k_ ≠ s_) (.slice A18 y130.length c18) y130) ∧ (Kd.V (Kd.int .u8) 5 w' w.heap.size (fun k_ => (P0_ k_ ∨ w.heap.size ≤ k_) ∧ k_ ≠ gb128 ∧ k_ ≠ s_) (.slice A19 y136.length c19) y136) ∧ (Kd.V (Kd.int .u8) 5 w' w.heap.size (fun k_ => (P0_ k_ ∨ w.heap.size ≤ k_) ∧ k_ ≠ gb128 ∧ k_ ≠ s_) (.slice A20 y142.length c20) y142) ∧ (Kd.V (Kd.int .u8) 5 w' w.heap.size (fun k_ => (P0_ k_ ∨ w.heap.size ≤ k_) ∧ k_ ≠ gb128 ∧ k_ ≠ s_) (.slice A21 y148.length c21) y148) ∧ (w'.heap[gb128]? = some (.cells #[.int .u64 0, .int .u64 0, .int .u64 0, .int .u64 0, .int .u64 0, .string (⟨#[]⟩ : ByteArray), .string (⟨#[]⟩ : ByteArray), .bool false] 28 (0, 0))) ∧ (w'.heap[s_]? = some (.cells #[.int .u64 0, .int .u64 0, .int .u64 0, .int .u64 0, .int .u64 0, .string (⟨#[]⟩ : ByteArray), .string (⟨#[]⟩ : ByteArray), .bool false] 28 (0, 0))) ∧ (w.heap.size ≤ s_) ∧ (w.heap.size ≤ s_) ∧ (gb128 ≠ s_) ∧ (s_ ≠ gb128) ∧ (Below w.heap.size w w')) ?_ ?_
                  rotate_left
                  · intro hJ1_4_7_10_19
                    refine join_ (σ := Unit) 4 #[true, true, true, true, true, true, true, true, true, true, true, true, true, false, true, true, true, true, false, false, false] (fun s_ => [(16, .int .u64 t129), (19, .int .u64 t135), (22, .int .u64 t141), (25, .int .u64 t147)]) (fun s_ w' => (w'.cell? ⟨ad154.block, ad154.off + 40, none⟩ = some (.int .u8 (rd l0 40))) ∧ (Kd.V (Kd.int .u8) 5 w' w.heap.size (fun k_ => (P0_ k_ ∨ w.heap.size ≤ k_) ∧ k_ ≠ gb128) (.slice (some ad154) l0.length c0) l0) ∧ (Kd.V (Kd.int .u8) 5 w' w.heap.size (fun k_ => (P0_ k_ ∨ w.heap.size ≤ k_) ∧ k_ ≠ gb128) (.slice A18 y130.length c18) y130) ∧ (Kd.V (Kd.int .u8) 5 w' w.heap.size (fun k_ => (P0_ k_ ∨ w.heap.size ≤ k_) ∧ k_ ≠ gb128) (.slice A19 y136.length c19) y136) ∧ (Kd.V (Kd.int .u8) 5 w' w.heap.size (fun k_ => (P0_ k_ ∨ w.heap.size ≤ k_) ∧ k_ ≠ gb128) (.slice A20 y142.length c20) y142) ∧ (Kd.V (Kd.int .u8) 5 w' w.heap.size (fun k_ => (P0_ k_ ∨ w.heap.size ≤ k_) ∧ k_ ≠ gb128) (.slice A21 y148.length c21) y148) ∧ (w'.heap[gb128]? = some (.cells #[.int .u64 0, .int .u64 0, .int .u64 0, .int .u64 0, .int .u64 0, .string (⟨#[]⟩ : ByteArray), .string (⟨#[]⟩ : ByteArray), .bool false] 28 (0, 0))) ∧ (Below w.heap.size w w')) ?_ ?_
                    rotate_left
                    · intro hJ1_4_7_10
                      refine join_ (σ := Nat) 4 #[true, true, true, true, true, true, true, true, true, true, false, true, true, false, true, true, true, true, false, true, false] (fun s_ => [(16, .int .u64 t129), (19, .int .u64 t135), (22, .int .u64 t141), (5, .pointer (some ⟨s_, 0, none⟩))]) (fun s_ w' => (w'.cell? ⟨ad154.block, ad154.off + 40, none⟩ = some (.int .u8 (rd l0 40))) ∧ (Kd.V (Kd.int .u8) 5 w' w.heap.size (fun k_ => (P0_ k_ ∨ w.heap.size ≤ k_) ∧ k_ ≠ gb128 ∧ k_ ≠ s_) (.slice (some ad154) l0.length c0) l0) ∧ (Kd.V (Kd.int .u8) 5 w' w.heap.size (fun k_ => (P0_ k_ ∨ w.heap.size ≤ k_) ∧ k_ ≠ gb128 ∧ k_ ≠ s_) (.slice A18 y130.length c18) y130) ∧ (Kd.V (Kd.int .u8) 5 w' w.heap.size (fun k_ => (P0_ k_ ∨ w.heap.size ≤ k_) ∧ k_ ≠ gb128 ∧ k_ ≠ s_) (.slice A19 y136.length c19) y136) ∧ (Kd.V (Kd.int .u8) 5 w' w.heap.size (fun k_ => (P0_ k_ ∨ w.heap.size ≤ k_) ∧ k_ ≠ gb128 ∧ k_ ≠ s_) (.slice A20 y142.length c20) y142) ∧ (Kd.V (Kd.int .u8) 5 w' w.heap.size (fun k_ => (P0_ k_ ∨ w.heap.size ≤ k_) ∧ k_ ≠ gb128 ∧ k_ ≠ s_) (.slice A21 y148.length c21) y148) ∧ (w'.heap[gb128]? = some (.cells #[.int .u64 0, .int .u64 0, .int .u64 0, .int .u64 0, .int .u64 0, .string (⟨#[]⟩ : ByteArray), .string (⟨#[]⟩ : ByteArray), .bool false] 28 (0, 0))) ∧ (w'.heap[s_]? = some (.cells #[.int .u64 0, .int .u64 0, .int .u64 0, .int .u64 0, .int .u64 0, .string (⟨#[]⟩ : ByteArray), .string (⟨#[]⟩ : ByteArray), .bool false] 28 (0, 0))) ∧ (w.heap.size ≤ s_) ∧ (w.heap.size ≤ s_) ∧ (gb128 ≠ s_) ∧ (s_ ≠ gb128) ∧ (Below w.heap.size w w')) ?_ ?_
                      rotate_left
                      · intro hJ1_4_7_19
                        refine join_ (σ := Unit) 5 #[true, true, true, true, true, true, true, true, true, true, false, true, true, false, true, true, true, true, false, false, false] (fun s_ => [(16, .int .u64 t129), (19, .int .u64 t135), (22, .int .u64 t141)]) (fun s_ w' => (w'.cell? ⟨ad154.block, ad154.off + 40, none⟩ = some (.int .u8 (rd l0 40))) ∧ (Kd.V (Kd.int .u8) 5 w' w.heap.size (fun k_ => (P0_ k_ ∨ w.heap.size ≤ k_) ∧ k_ ≠ gb128) (.slice (some ad154) l0.length c0) l0) ∧ (Kd.V (Kd.int .u8) 5 w' w.heap.size (fun k_ => (P0_ k_ ∨ w.heap.size ≤ k_) ∧ k_ ≠ gb128) (.slice A18 y130.length c18) y130) ∧ (Kd.V (Kd.int .u8) 5 w' w.heap.size (fun k_ => (P0_ k_ ∨ w.heap.size ≤ k_) ∧ k_ ≠ gb128) (.slice A19 y136.length c19) y136) ∧ (Kd.V (Kd.int .u8) 5 w' w.heap.size (fun k_ => (P0_ k_ ∨ w.heap.size ≤ k_) ∧ k_ ≠ gb128) (.slice A20 y142.length c20) y142) ∧ (Kd.V (Kd.int .u8) 5 w' w.heap.size (fun k_ => (P0_ k_ ∨ w.heap.size ≤ k_) ∧ k_ ≠ gb128) (.slice A21 y148.length c21) y148) ∧ (w'.heap[gb128]? = some (.cells #[.int .u64 0, .int .u64 0, .int .u64 0, .int .u64 0, .int .u64 0, .string (⟨#[]⟩ : ByteArray), .string (⟨#[]⟩ : ByteArray), .bool false] 28 (0, 0))) ∧ (Below w.heap.size w w')) ?_ ?_
                        rotate_left
                        · intro hJ1_4_7
                          refine join_ (σ := Nat) 5 #[true, true, true, true, true, true, true, false, true, true, false, true, true, false, true, true, true, true, false, true, false] (fun s_ => [(16, .int .u64 t129), (19, .int .u64 t135), (5, .pointer (some ⟨s_, 0, none⟩))]) (fun s_ w' => (w'.cell? ⟨ad154.block, ad154.off + 40, none⟩ = some (.int .u8 (rd l0 40))) ∧ (Kd.V (Kd.int .u8) 5 w' w.heap.size (fun k_ => (P0_ k_ ∨ w.heap.size ≤ k_) ∧ k_ ≠ gb128 ∧ k_ ≠ s_) (.slice (some ad154) l0.length c0) l0) ∧ (Kd.V (Kd.int .u8) 5 w' w.heap.size (fun k_ => (P0_ k_ ∨ w.heap.size ≤ k_) ∧ k_ ≠ gb128 ∧ k_ ≠ s_) (.slice A18 y130.length c18) y130) ∧ (Kd.V (Kd.int .u8) 5 w' w.heap.size (fun k_ => (P0_ k_ ∨ w.heap.size ≤ k_) ∧ k_ ≠ gb128 ∧ k_ ≠ s_) (.slice A19 y136.length c19) y136) ∧ (Kd.V (Kd.int .u8) 5 w' w.heap.size (fun k_ => (P0_ k_ ∨ w.heap.size ≤ k_) ∧ k_ ≠ gb128 ∧ k_ ≠ s_) (.slice A20 y142.length c20) y142) ∧ (Kd.V (Kd.int .u8) 5 w' w.heap.size (fun k_ => (P0_ k_ ∨ w.heap.size ≤ k_) ∧ k_ ≠ gb128 ∧ k_ ≠ s_) (.slice A21 y148.length c21) y148) ∧ (w'.heap[gb128]? = some (.cells #[.int .u64 0, .int .u64 0, .int .u64 0, .int .u64 0, .int .u64 0, .string (⟨#[]⟩ : ByteArray), .string (⟨#[]⟩ : ByteArray), .bool false] 28 (0, 0))) ∧ (w'.heap[s_]? = some (.cells #[.int .u64 0, .int .u64 0, .int .u64 0, .int .u64 0, .int .u64 0, .string (⟨#[]⟩ : ByteArray), .string (⟨#[]⟩ : ByteArray), .bool false] 28 (0, 0))) ∧ (w.heap.size ≤ s_) ∧ (w.heap.size ≤ s_) ∧ (gb128 ≠ s_) ∧ (s_ ≠ gb128) ∧ (Below w.heap.size w w')) ?_ ?_
                          rotate_left
                          · intro hJ1_4_19
                            refine join_ (σ := Unit) 6 #[true, true, true, true, true, true, true, false, true, true, false, true, true, false, true, true, true, true, false, false, false] (fun s_ => [(16, .int .u64 t129), (19, .int .u64 t135)]) (fun s_ w' => (w'.cell? ⟨ad154.block, ad154.off + 40, none⟩ = some (.int .u8 (rd l0 40))) ∧ (Kd.V (Kd.int .u8) 5 w' w.heap.size (fun k_ => (P0_ k_ ∨ w.heap.size ≤ k_) ∧ k_ ≠ gb128) (.slice (some ad154) l0.length c0) l0) ∧ (Kd.V (Kd.int .u8) 5 w' w.heap.size (fun k_ => (P0_ k_ ∨ w.heap.size ≤ k_) ∧ k_ ≠ gb128) (.slice A18 y130.length c18) y130) ∧ (Kd.V (Kd.int .u8) 5 w' w.heap.size (fun k_ => (P0_ k_ ∨ w.heap.size ≤ k_) ∧ k_ ≠ gb128) (.slice A19 y136.length c19) y136) ∧ (Kd.V (Kd.int .u8) 5 w' w.heap.size (fun k_ => (P0_ k_ ∨ w.heap.size ≤ k_) ∧ k_ ≠ gb128) (.slice A20 y142.length c20) y142) ∧ (Kd.V (Kd.int .u8) 5 w' w.heap.size (fun k_ => (P0_ k_ ∨ w.heap.size ≤ k_) ∧ k_ ≠ gb128) (.slice A21 y148.length c21) y148) ∧ (w'.heap[gb128]? = some (.cells #[.int .u64 0, .int .u64 0, .int .u64 0, .int .u64 0, .int .u64 0, .string (⟨#[]⟩ : ByteArray), .string (⟨#[]⟩ : ByteArray), .bool false] 28 (0, 0))) ∧ (Below w.heap.size w w')) ?_ ?_
                            rotate_left
                            · intro hJ1_4
                              refine join_ (σ := Nat) 6 #[true, true, true, true, false, true, true, false, true, true, false, true, true, false, true, true, true, true, false, true, false] (fun s_ => [(16, .int .u64 t129), (5, .pointer (some ⟨s_, 0, none⟩))]) (fun s_ w' => (w'.cell? ⟨ad154.block, ad154.off + 40, none⟩ = some (.int .u8 (rd l0 40))) ∧ (Kd.V (Kd.int .u8) 5 w' w.heap.size (fun k_ => (P0_ k_ ∨ w.heap.size ≤ k_) ∧ k_ ≠ gb128 ∧ k_ ≠ s_) (.slice (some ad154) l0.length c0) l0) ∧ (Kd.V (Kd.int .u8) 5 w' w.heap.size (fun k_ => (P0_ k_ ∨ w.heap.size ≤ k_) ∧ k_ ≠ gb128 ∧ k_ ≠ s_) (.slice A18 y130.length c18) y130) ∧ (Kd.V (Kd.int .u8) 5 w' w.heap.size (fun k_ => (P0_ k_ ∨ w.heap.size ≤ k_) ∧ k_ ≠ gb128 ∧ k_ ≠ s_) (.slice A19 y136.length c19) y136) ∧ (Kd.V (Kd.int .u8) 5 w' w.heap.size (fun k_ => (P0_ k_ ∨ w.heap.size ≤ k_) ∧ k_ ≠ gb128 ∧ k_ ≠ s_) (.slice A20 y142.length c20) y142) ∧ (Kd.V (Kd.int .u8) 5 w' w.heap.size (fun k_ => (P0_ k_ ∨ w.heap.size ≤ k_) ∧ k_ ≠ gb128 ∧ k_ ≠ s_) (.slice A21 y148.length c21) y148) ∧ (w'.heap[gb128]? = some (.cells #[.int .u64 0, .int .u64 0, .int .u64 0, .int .u64 0, .int .u64 0, .string (⟨#[]⟩ : ByteArray), .string (⟨#[]⟩ : ByteArray), .bool false] 28 (0, 0))) ∧ (w'.heap[s_]? = some (.cells #[.int .u64 0, .int .u64 0, .int .u64 0, .int .u64 0, .int .u64 0, .string (⟨#[]⟩ : ByteArray), .string (⟨#[]⟩ : ByteArray), .bool false] 28 (0, 0))) ∧ (w.heap.size ≤ s_) ∧ (w.heap.size ≤ s_) ∧ (gb128 ≠ s_) ∧ (s_ ≠ gb128) ∧ (Below w.heap.size w w')) ?_ ?_
                              rotate_left
                              · intro hJ1_19
                                refine join_ (σ := Unit) 7 #[true, true, true, true, false, true, true, false, true, true, false, true, true, false, true, true, true, true, false, false, false] (fun s_ => [(16, .int .u64 t129)]) (fun s_ w' => (w'.cell? ⟨ad154.block, ad154.off + 40, none⟩ = some (.int .u8 (rd l0 40))) ∧ (Kd.V (Kd.int .u8) 5 w' w.heap.size (fun k_ => (P0_ k_ ∨ w.heap.size ≤ k_) ∧ k_ ≠ gb128) (.slice (some ad154) l0.length c0) l0) ∧ (Kd.V (Kd.int .u8) 5 w' w.heap.size (fun k_ => (P0_ k_ ∨ w.heap.size ≤ k_) ∧ k_ ≠ gb128) (.slice A18 y130.length c18) y130) ∧ (Kd.V (Kd.int .u8) 5 w' w.heap.size (fun k_ => (P0_ k_ ∨ w.heap.size ≤ k_) ∧ k_ ≠ gb128) (.slice A19 y136.length c19) y136) ∧ (Kd.V (Kd.int .u8) 5 w' w.heap.size (fun k_ => (P0_ k_ ∨ w.heap.size ≤ k_) ∧ k_ ≠ gb128) (.slice A20 y142.length c20) y142) ∧ (Kd.V (Kd.int .u8) 5 w' w.heap.size (fun k_ => (P0_ k_ ∨ w.heap.size ≤ k_) ∧ k_ ≠ gb128) (.slice A21 y148.length c21) y148) ∧ (w'.heap[gb128]? = some (.cells #[.int .u64 0, .int .u64 0, .int .u64 0, .int .u64 0, .int .u64 0, .string (⟨#[]⟩ : ByteArray), .string (⟨#[]⟩ : ByteArray), .bool false] 28 (0, 0))) ∧ (Below w.heap.size w w')) ?_ ?_
                                rotate_left
                                · intro hJ1
                                  refine join_ (σ := Nat) 7 #[true, false, true, true, false, true, true, false, true, true, false, true, true, false, true, true, true, true, false, true, false] (fun s_ => [(5, .pointer (some ⟨s_, 0, none⟩))]) (fun s_ w' => (w'.cell? ⟨ad154.block, ad154.off + 40, none⟩ = some (.int .u8 (rd l0 40))) ∧ (Kd.V (Kd.int .u8) 5 w' w.heap.size (fun k_ => (P0_ k_ ∨ w.heap.size ≤ k_) ∧ k_ ≠ gb128 ∧ k_ ≠ s_) (.slice (some ad154) l0.length c0) l0) ∧ (Kd.V (Kd.int .u8) 5 w' w.heap.size (fun k_ => (P0_ k_ ∨ w.heap.size ≤ k_) ∧ k_ ≠ gb128 ∧ k_ ≠ s_) (.slice A18 y130.length c18) y130) ∧ (Kd.V (Kd.int .u8) 5 w' w.heap.size (fun k_ => (P0_ k_ ∨ w.heap.size ≤ k_) ∧ k_ ≠ gb128 ∧ k_ ≠ s_) (.slice A19 y136.length c19) y136) ∧ (Kd.V (Kd.int .u8) 5 w' w.heap.size (fun k_ => (P0_ k_ ∨ w.heap.size ≤ k_) ∧ k_ ≠ gb128 ∧ k_ ≠ s_) (.slice A20 y142.length c20) y142) ∧ (Kd.V (Kd.int .u8) 5 w' w.heap.size (fun k_ => (P0_ k_ ∨ w.heap.size ≤ k_) ∧ k_ ≠ gb128 ∧ k_ ≠ s_) (.slice A21 y148.length c21) y148) ∧ (w'.heap[gb128]? = some (.cells #[.int .u64 0, .int .u64 0, .int .u64 0, .int .u64 0, .int .u64 0, .string (⟨#[]⟩ : ByteArray), .string (⟨#[]⟩ : ByteArray), .bool false] 28 (0, 0))) ∧ (w'.heap[s_]? = some (.cells #[.int .u64 0, .int .u64 0, .int .u64 0, .int .u64 0, .int .u64 0, .string (⟨#[]⟩ : ByteArray), .string (⟨#[]⟩ : ByteArray), .bool false] 28 (0, 0))) ∧ (w.heap.size ≤ s_) ∧ (w.heap.size ≤ s_) ∧ (gb128 ≠ s_) ∧ (s_ ≠ gb128) ∧ (Below w.heap.size w w')) ?_ ?_
                                  rotate_left
                                  · intro hJ19
                                    refine two_ (i := 1) (j := 19) (Ni := some 16) (Nj := some 5) #[true, true, true, true, false, true, true, false, true, true, false, true, true, false, true, true, true, true, false, false, false] #[true, false, true, true, false, true, true, false, true, true, false, true, true, false, true, true, true, true, false, true, false] rfl rfl rfl rfl (two_of HT_.out (by kernel_rfl)) (by decide) (by decide) (fun K hK => ?_) (fun K hK => ?_)
                                    · skip
                                      refine goes_ Try.func39 (by kernel_rfl) rfl #[.slice (some ad154) l0.length c0] (by rfl) rfl rfl (by (try simp only [List.map_toArray, List.map_cons, List.map_nil]); first | done | rfl | (simp only [List.length_drop, List.length_take]; rfl)) ?_
                                      with_reducible refine (winnowref03_Number.calls k _ _ l0 t129 _ ?side1 ?side2 A5.out).mono ?_
                                      (case side1 => repeat (first | exact (Kd.V_reads' HO0.out).2.2 | (with_reducible refine Kd.C_alloc ?_ _) | (with_reducible refine Kd.C_drewN ?_ _) | (with_reducible refine Kd.C_drew ?_)))
                                      (case side2 => exact (Kd.V_reads' HO0.out).2.1)
                                      rintro e w' ⟨rfl, ⟨nd, rfl⟩⟩
                                      refine ⟨_, rfl, ?_⟩
                                      refine hK.out _ _ (hHeld) (fun hHeld => ?_)
                                      clear hK K
                                      refine norm_ (a' := ?_) ?_ ?_
                                      rotate_left
                                      · show Act.put _ (some 16) _ = _
                                        simp only [Act.put, List.setIfInBounds_toArray, List.set_cons_zero, List.set_cons_succ, i64_w, i32_w]
                                        rfl
                                      exact norm_ (by first | (simp only [putAll, Act.put, List.setIfInBounds_toArray, List.set_cons_zero, List.set_cons_succ]; done) | (simp only [putAll, Act.put, List.setIfInBounds_toArray, List.set_cons_zero, List.set_cons_succ]; rfl)) (hJ1 () _ ⟨hHeld, (by (with_reducible repeat (first | apply Kd.V_alloc | apply Kd.V_drewN | apply Kd.V_drew)); exact HO0.out), (by (with_reducible repeat (first | apply Kd.V_alloc | apply Kd.V_drewN | apply Kd.V_drew)); exact HO134.out), (by (with_reducible repeat (first | apply Kd.V_alloc | apply Kd.V_drewN | apply Kd.V_drew)); exact HO140.out), (by (with_reducible repeat (first | apply Kd.V_alloc | apply Kd.V_drewN | apply Kd.V_drew)); exact HO146.out), (by (with_reducible repeat (first | apply Kd.V_alloc | apply Kd.V_drewN | apply Kd.V_drew)); exact HO152.out), (by (with_reducible repeat (first | refine blk_drewN ?_ _ | refine blk_drew ?_ | refine blk_alloc ?_ _)); exact BK128.out), (by repeat (first | (with_reducible first | exact HB.out | apply below_alloc | apply pw_below_drewN | apply below_drew1 | refine below_set ?_ GE128.out) | exact HB.out))⟩)
                                    · skip
                                      refine box_step ?hg (N := 5) ?hd (cs := #[.int .u64 0, .int .u64 0, .int .u64 0, .int .u64 0, .int .u64 0, .string (⟨#[]⟩ : ByteArray), .string (⟨#[]⟩ : ByteArray), .bool false]) (t := 28) ?hr ?_; (case hd => rfl); (case hg => rfl); (case hr => first | (go_simp; done) | (go_simp; rfl))
                                      intro gb155 hg w22 hbox hb
                                      have HS0_ := (hb.cell (World.block_lt_of_cell? _ _ (hHeld))).trans (hHeld)
                                      have n0_ := Aside0.mk (Kd.V_below (Kd.V_elderB (by (with_reducible repeat (first | apply Kd.V_alloc | apply Kd.V_drewN | apply Kd.V_drew)); exact HO0.out) gb155 (Nat.le_of_eq hg.symm)) hb)
                                      have n1_ := Aside0.mk (Kd.V_below (Kd.V_elderB (by (with_reducible repeat (first | apply Kd.V_alloc | apply Kd.V_drewN | apply Kd.V_drew)); exact HO134.out) gb155 (Nat.le_of_eq hg.symm)) hb)
                                      have n2_ := Aside0.mk (Kd.V_below (Kd.V_elderB (by (with_reducible repeat (first | apply Kd.V_alloc | apply Kd.V_drewN | apply Kd.V_drew)); exact HO140.out) gb155 (Nat.le_of_eq hg.symm)) hb)
                                      have n3_ := Aside0.mk (Kd.V_below (Kd.V_elderB (by (with_reducible repeat (first | apply Kd.V_alloc | apply Kd.V_drewN | apply Kd.V_drew)); exact HO146.out) gb155 (Nat.le_of_eq hg.symm)) hb)
                                      have n4_ := Aside0.mk (Kd.V_below (Kd.V_elderB (by (with_reducible repeat (first | apply Kd.V_alloc | apply Kd.V_drewN | apply Kd.V_drew)); exact HO152.out) gb155 (Nat.le_of_eq hg.symm)) hb)
                                      have n5_ := Aside0.mk (blk_below (g := gb128) (o := .cells #[.int .u64 0, .int .u64 0, .int .u64 0, .int .u64 0, .int .u64 0, .string (⟨#[]⟩ : ByteArray), .string (⟨#[]⟩ : ByteArray), .bool false] 28 (0, 0)) (by (with_reducible repeat (first | refine blk_drewN ?_ _ | refine blk_drew ?_ | refine blk_alloc ?_ _)); exact BK128.out) hb)
                                      have n6_ := Aside0.mk (below_step (by repeat (first | (with_reducible first | exact HB.out | apply below_alloc | apply pw_below_drewN | apply below_drew1 | refine below_set ?_ GE128.out) | exact HB.out)) hb)
                                      have n7_ := Aside0.mk (hbox)
                                      have n8_ := Aside0.mk ((by rw [hg]; exact (below_size (by repeat (first | (with_reducible first | exact HB.out | apply below_alloc | apply pw_below_drewN | apply below_drew1 | refine below_set ?_ GE128.out) | exact HB.out))) : w.heap.size ≤ gb155))
                                      have n9_ := Aside0.mk ((by rw [hg]; exact (below_size (by repeat (first | (with_reducible first | exact HB.out | apply below_alloc | apply pw_below_drewN | apply below_drew1 | refine below_set ?_ GE128.out) | exact HB.out))) : w.heap.size ≤ gb155))
                                      have n10_ := Aside0.mk ((by rw [hg]; exact Nat.ne_of_lt (blk_lt (g := gb128) (o := .cells #[.int .u64 0, .int .u64 0, .int .u64 0, .int .u64 0, .int .u64 0, .string (⟨#[]⟩ : ByteArray), .string (⟨#[]⟩ : ByteArray), .bool false] 28 (0, 0)) (by (with_reducible repeat (first | refine blk_drewN ?_ _ | refine blk_drew ?_ | refine blk_alloc ?_ _)); exact BK128.out)) : gb128 ≠ gb155))
                                      have n11_ := Aside0.mk ((by rw [hg]; exact Nat.ne_of_gt (blk_lt (g := gb128) (o := .cells #[.int .u64 0, .int .u64 0, .int .u64 0, .int .u64 0, .int .u64 0, .string (⟨#[]⟩ : ByteArray), .string (⟨#[]⟩ : ByteArray), .bool false] 28 (0, 0)) (by (with_reducible repeat (first | refine blk_drewN ?_ _ | refine blk_drew ?_ | refine blk_alloc ?_ _)); exact BK128.out)) : gb155 ≠ gb128))
                                      clear HO0
                                      clear HO134
                                      clear HO140
                                      clear HO146
                                      clear HO152
                                      clear BK128
                                      clear HB
                                      have HO0 := n0_
                                      have HO134 := n1_
                                      have HO140 := n2_
                                      have HO146 := n3_
                                      have HO152 := n4_
                                      have BK128 := n5_
                                      have HB := n6_
                                      have BK155 := n7_
                                      have GW155 := n8_
                                      have GE155 := n9_
                                      have NB128_155 := n10_
                                      have NB155_128 := n11_
                                      clear n0_ n1_ n2_ n3_ n4_ n5_ n6_ n7_ n8_ n9_ n10_ n11_
                                      clear hb hbox hg
                                      refine hK.out _ _ (HS0_) (fun hHeld => ?_)
                                      clear hK K
                                      refine norm_ (a' := ?_) ?_ ?_
                                      rotate_left
                                      · show Act.put _ (some 5) _ = _
                                        simp only [Act.put, List.setIfInBounds_toArray, List.set_cons_zero, List.set_cons_succ, i64_w, i32_w]
                                        rfl
                                      exact norm_ (by first | (simp only [putAll, Act.put, List.setIfInBounds_toArray, List.set_cons_zero, List.set_cons_succ]; done) | (simp only [putAll, Act.put, List.setIfInBounds_toArray, List.set_cons_zero, List.set_cons_succ]; rfl)) (hJ19 (gb155) _ ⟨hHeld, (by (with_reducible repeat (first | apply Kd.V_alloc | apply Kd.V_drewN | apply Kd.V_drew)); exact Kd.V_mono HO0.out (fun _ hk => ⟨hk.1.1, ⟨hk.1.2, hk.2⟩⟩)), (by (with_reducible repeat (first | apply Kd.V_alloc | apply Kd.V_drewN | apply Kd.V_drew)); exact Kd.V_mono HO134.out (fun _ hk => ⟨hk.1.1, ⟨hk.1.2, hk.2⟩⟩)), (by (with_reducible repeat (first | apply Kd.V_alloc | apply Kd.V_drewN | apply Kd.V_drew)); exact Kd.V_mono HO140.out (fun _ hk => ⟨hk.1.1, ⟨hk.1.2, hk.2⟩⟩)), (by (with_reducible repeat (first | apply Kd.V_alloc | apply Kd.V_drewN | apply Kd.V_drew)); exact Kd.V_mono HO146.out (fun _ hk => ⟨hk.1.1, ⟨hk.1.2, hk.2⟩⟩)), (by (with_reducible repeat (first | apply Kd.V_alloc | apply Kd.V_drewN | apply Kd.V_drew)); exact Kd.V_mono HO152.out (fun _ hk => ⟨hk.1.1, ⟨hk.1.2, hk.2⟩⟩)), (by (with_reducible repeat (first | refine blk_drewN ?_ _ | refine blk_drew ?_ | refine blk_alloc ?_ _)); exact BK128.out), (by (with_reducible repeat (first | refine blk_drewN ?_ _ | refine blk_drew ?_ | refine blk_alloc ?_ _)); exact BK155.out), GW155.out, GE155.out, NB128_155.out, NB155_128.out, (by repeat (first | (with_reducible first | exact HB.out | apply below_alloc | apply pw_below_drewN | apply below_drew1 | refine below_set ?_ GE128.out | refine below_set ?_ GE155.out) | exact HB.out))⟩)
                                  · skip
                                    rintro gb155 w23 ⟨hS_, h0_, h1_, h2_, h3_, h4_, h5_, h6_, h7_, h8_, h9_, h10_, h11_⟩
                                    have n0_ : Aside0 (Kd.V (Kd.int .u8) 5 w23 w.heap.size (fun k_ => (P0_ k_ ∨ w.heap.size ≤ k_) ∧ k_ ≠ gb128 ∧ k_ ≠ gb155) (.slice (some ad154) l0.length c0) l0) := ⟨h0_⟩
                                    have n1_ : Aside0 (Kd.V (Kd.int .u8) 5 w23 w.heap.size (fun k_ => (P0_ k_ ∨ w.heap.size ≤ k_) ∧ k_ ≠ gb128 ∧ k_ ≠ gb155) (.slice A18 y130.length c18) y130) := ⟨h1_⟩
                                    have n2_ : Aside0 (Kd.V (Kd.int .u8) 5 w23 w.heap.size (fun k_ => (P0_ k_ ∨ w.heap.size ≤ k_) ∧ k_ ≠ gb128 ∧ k_ ≠ gb155) (.slice A19 y136.length c19) y136) := ⟨h2_⟩
                                    have n3_ : Aside0 (Kd.V (Kd.int .u8) 5 w23 w.heap.size (fun k_ => (P0_ k_ ∨ w.heap.size ≤ k_) ∧ k_ ≠ gb128 ∧ k_ ≠ gb155) (.slice A20 y142.length c20) y142) := ⟨h3_⟩
                                    have n4_ : Aside0 (Kd.V (Kd.int .u8) 5 w23 w.heap.size (fun k_ => (P0_ k_ ∨ w.heap.size ≤ k_) ∧ k_ ≠ gb128 ∧ k_ ≠ gb155) (.slice A21 y148.length c21) y148) := ⟨h4_⟩
                                    have n5_ : Aside0 (w23.heap[gb128]? = some (.cells #[.int .u64 0, .int .u64 0, .int .u64 0, .int .u64 0, .int .u64 0, .string (⟨#[]⟩ : ByteArray), .string (⟨#[]⟩ : ByteArray), .bool false] 28 (0, 0))) := ⟨h5_⟩
                                    have n6_ : Aside0 (w23.heap[gb155]? = some (.cells #[.int .u64 0, .int .u64 0, .int .u64 0, .int .u64 0, .int .u64 0, .string (⟨#[]⟩ : ByteArray), .string (⟨#[]⟩ : ByteArray), .bool false] 28 (0, 0))) := ⟨h6_⟩
                                    have n7_ : Aside0 (w.heap.size ≤ gb155) := ⟨h7_⟩
                                    have n8_ : Aside0 (w.heap.size ≤ gb155) := ⟨h8_⟩
                                    have n9_ : Aside0 (gb128 ≠ gb155) := ⟨h9_⟩
                                    have n10_ : Aside0 (gb155 ≠ gb128) := ⟨h10_⟩
                                    have n11_ : Aside0 (Below w.heap.size w w23) := ⟨h11_⟩
                                    clear HO0
                                    clear BK128
                                    clear HB
                                    clear h0_ h1_ h2_ h3_ h4_ h5_ h6_ h7_ h8_ h9_ h10_ h11_
                                    have HO0 := n0_
                                    have HO134 := n1_
                                    have HO140 := n2_
                                    have HO146 := n3_
                                    have HO152 := n4_
                                    have BK128 := n5_
                                    have BK155 := n6_
                                    have GW155 := n7_
                                    have GE155 := n8_
                                    have NB128_155 := n9_
                                    have NB155_128 := n10_
                                    have HB := n11_
                                    clear n0_ n1_ n2_ n3_ n4_ n5_ n6_ n7_ n8_ n9_ n10_ n11_
                                    have hHeld : w23.cell? ⟨ad154.block, ad154.off + 40, none⟩ = some (.int .u8 (rd l0 40)) := hS_
                                    refine norm_ (a' := ?_) ?_ ?_
                                    rotate_left
                                    · simp only [putAll, Act.put, List.setIfInBounds_toArray, List.set_cons_zero, List.set_cons_succ]
                                      rfl
                                    refine one_ (i := 1) (N := some 16) #[true, true, true, true, false, true, true, false, true, true, false, true, true, false, true, true, true, true, false, true, false] rfl rfl (one_of HT_.out (by kernel_rfl)) (by decide) (fun K hK => ?_)
                                    refine goes_ Try.func39 (by kernel_rfl) rfl #[.slice (some ad154) l0.length c0] (by rfl) rfl rfl (by (try simp only [List.map_toArray, List.map_cons, List.map_nil]); first | done | rfl | (simp only [List.length_drop, List.length_take]; rfl)) ?_
                                    with_reducible refine (winnowref03_Number.calls k _ _ l0 t129 _ ?side1 ?side2 A5.out).mono ?_
                                    (case side1 => repeat (first | exact (Kd.V_reads' HO0.out).2.2 | (with_reducible refine Kd.C_alloc ?_ _) | (with_reducible refine Kd.C_drewN ?_ _) | (with_reducible refine Kd.C_drew ?_)))
                                    (case side2 => exact (Kd.V_reads' HO0.out).2.1)
                                    rintro e w' ⟨rfl, ⟨nd, rfl⟩⟩
                                    refine ⟨_, rfl, ?_⟩
                                    refine hK.out _ _ (hHeld) (fun hHeld => ?_)
                                    clear hK K
                                    refine norm_ (a' := ?_) ?_ ?_
                                    rotate_left
                                    · show Act.put _ (some 16) _ = _
                                      simp only [Act.put, List.setIfInBounds_toArray, List.set_cons_zero, List.set_cons_succ, i64_w, i32_w]
                                      rfl
                                    exact norm_ (by first | (simp only [putAll, Act.put, List.setIfInBounds_toArray, List.set_cons_zero, List.set_cons_succ]; done) | (simp only [putAll, Act.put, List.setIfInBounds_toArray, List.set_cons_zero, List.set_cons_succ]; rfl)) (hJ1_19 (gb155) _ ⟨hHeld, (by (with_reducible repeat (first | apply Kd.V_alloc | apply Kd.V_drewN | apply Kd.V_drew)); exact HO0.out), (by (with_reducible repeat (first | apply Kd.V_alloc | apply Kd.V_drewN | apply Kd.V_drew)); exact HO134.out), (by (with_reducible repeat (first | apply Kd.V_alloc | apply Kd.V_drewN | apply Kd.V_drew)); exact HO140.out), (by (with_reducible repeat (first | apply Kd.V_alloc | apply Kd.V_drewN | apply Kd.V_drew)); exact HO146.out), (by (with_reducible repeat (first | apply Kd.V_alloc | apply Kd.V_drewN | apply Kd.V_drew)); exact HO152.out), (by (with_reducible repeat (first | refine blk_drewN ?_ _ | refine blk_drew ?_ | refine blk_alloc ?_ _)); exact BK128.out), (by (with_reducible repeat (first | refine blk_drewN ?_ _ | refine blk_drew ?_ | refine blk_alloc ?_ _)); exact BK155.out), GW155.out, GE155.out, NB128_155.out, NB155_128.out, (by repeat (first | (with_reducible first | exact HB.out | apply below_alloc | apply pw_below_drewN | apply below_drew1 | refine below_set ?_ GE128.out | refine below_set ?_ GE155.out) | exact HB.out))⟩)
                                · skip
                                  rintro _ w22 ⟨hS_, h0_, h1_, h2_, h3_, h4_, h5_, h6_⟩
                                  have n0_ : Aside0 (Kd.V (Kd.int .u8) 5 w22 w.heap.size (fun k_ => (P0_ k_ ∨ w.heap.size ≤ k_) ∧ k_ ≠ gb128) (.slice (some ad154) l0.length c0) l0) := ⟨h0_⟩
                                  have n1_ : Aside0 (Kd.V (Kd.int .u8) 5 w22 w.heap.size (fun k_ => (P0_ k_ ∨ w.heap.size ≤ k_) ∧ k_ ≠ gb128) (.slice A18 y130.length c18) y130) := ⟨h1_⟩
                                  have n2_ : Aside0 (Kd.V (Kd.int .u8) 5 w22 w.heap.size (fun k_ => (P0_ k_ ∨ w.heap.size ≤ k_) ∧ k_ ≠ gb128) (.slice A19 y136.length c19) y136) := ⟨h2_⟩
                                  have n3_ : Aside0 (Kd.V (Kd.int .u8) 5 w22 w.heap.size (fun k_ => (P0_ k_ ∨ w.heap.size ≤ k_) ∧ k_ ≠ gb128) (.slice A20 y142.length c20) y142) := ⟨h3_⟩
                                  have n4_ : Aside0 (Kd.V (Kd.int .u8) 5 w22 w.heap.size (fun k_ => (P0_ k_ ∨ w.heap.size ≤ k_) ∧ k_ ≠ gb128) (.slice A21 y148.length c21) y148) := ⟨h4_⟩
                                  have n5_ : Aside0 (w22.heap[gb128]? = some (.cells #[.int .u64 0, .int .u64 0, .int .u64 0, .int .u64 0, .int .u64 0, .string (⟨#[]⟩ : ByteArray), .string (⟨#[]⟩ : ByteArray), .bool false] 28 (0, 0))) := ⟨h5_⟩
                                  have n6_ : Aside0 (Below w.heap.size w w22) := ⟨h6_⟩
                                  clear HO0
                                  clear BK128
                                  clear HB
                                  clear h0_ h1_ h2_ h3_ h4_ h5_ h6_
                                  have HO0 := n0_
                                  have HO134 := n1_
                                  have HO140 := n2_
                                  have HO146 := n3_
                                  have HO152 := n4_
                                  have BK128 := n5_
                                  have HB := n6_
                                  clear n0_ n1_ n2_ n3_ n4_ n5_ n6_
                                  have hHeld : w22.cell? ⟨ad154.block, ad154.off + 40, none⟩ = some (.int .u8 (rd l0 40)) := hS_
                                  refine norm_ (a' := ?_) ?_ ?_
                                  rotate_left
                                  · simp only [putAll, Act.put, List.setIfInBounds_toArray, List.set_cons_zero, List.set_cons_succ]
                                    rfl
                                  refine two_ (i := 4) (j := 19) (Ni := some 19) (Nj := some 5) #[true, true, true, true, true, true, true, false, true, true, false, true, true, false, true, true, true, true, false, false, false] #[true, true, true, true, false, true, true, false, true, true, false, true, true, false, true, true, true, true, false, true, false] rfl rfl rfl rfl (two_of HT_.out (by kernel_rfl)) (by decide) (by decide) (fun K hK => ?_) (fun K hK => ?_)
                                  · skip
                                    refine goes_ Try.func39 (by kernel_rfl) rfl #[.slice A18 y130.length c18] (by rfl) rfl rfl (by (try simp only [List.map_toArray, List.map_cons, List.map_nil]); first | done | rfl | (simp only [List.length_drop, List.length_take]; rfl)) ?_
                                    with_reducible refine (winnowref03_Number.calls k _ _ y130 t135 _ ?side1 ?side2 A7.out).mono ?_
                                    (case side1 => repeat (first | exact (Kd.V_reads' HO134.out).2.2 | (with_reducible refine Kd.C_alloc ?_ _) | (with_reducible refine Kd.C_drewN ?_ _) | (with_reducible refine Kd.C_drew ?_)))
                                    (case side2 => exact (Kd.V_reads' HO134.out).2.1)
                                    rintro e w' ⟨rfl, ⟨nd, rfl⟩⟩
                                    refine ⟨_, rfl, ?_⟩
                                    refine hK.out _ _ (hHeld) (fun hHeld => ?_)
                                    clear hK K
                                    refine norm_ (a' := ?_) ?_ ?_
                                    rotate_left
                                    · show Act.put _ (some 19) _ = _
                                      simp only [Act.put, List.setIfInBounds_toArray, List.set_cons_zero, List.set_cons_succ, i64_w, i32_w]
                                      rfl
                                    exact norm_ (by first | (simp only [putAll, Act.put, List.setIfInBounds_toArray, List.set_cons_zero, List.set_cons_succ]; done) | (simp only [putAll, Act.put, List.setIfInBounds_toArray, List.set_cons_zero, List.set_cons_succ]; rfl)) (hJ1_4 () _ ⟨hHeld, (by (with_reducible repeat (first | apply Kd.V_alloc | apply Kd.V_drewN | apply Kd.V_drew)); exact HO0.out), (by (with_reducible repeat (first | apply Kd.V_alloc | apply Kd.V_drewN | apply Kd.V_drew)); exact HO134.out), (by (with_reducible repeat (first | apply Kd.V_alloc | apply Kd.V_drewN | apply Kd.V_drew)); exact HO140.out), (by (with_reducible repeat (first | apply Kd.V_alloc | apply Kd.V_drewN | apply Kd.V_drew)); exact HO146.out), (by (with_reducible repeat (first | apply Kd.V_alloc | apply Kd.V_drewN | apply Kd.V_drew)); exact HO152.out), (by (with_reducible repeat (first | refine blk_drewN ?_ _ | refine blk_drew ?_ | refine blk_alloc ?_ _)); exact BK128.out), (by repeat (first | (with_reducible first | exact HB.out | apply below_alloc | apply pw_below_drewN | apply below_drew1 | refine below_set ?_ GE128.out) | exact HB.out))⟩)
                                  · skip
                                    refine box_step ?hg (N := 5) ?hd (cs := #[.int .u64 0, .int .u64 0, .int .u64 0, .int .u64 0, .int .u64 0, .string (⟨#[]⟩ : ByteArray), .string (⟨#[]⟩ : ByteArray), .bool false]) (t := 28) ?hr ?_; (case hd => rfl); (case hg => rfl); (case hr => first | (go_simp; done) | (go_simp; rfl))
                                    intro gb155 hg w23 hbox hb
                                    have HS0_ := (hb.cell (World.block_lt_of_cell? _ _ (hHeld))).trans (hHeld)
                                    have n0_ := Aside0.mk (Kd.V_below (Kd.V_elderB (by (with_reducible repeat (first | apply Kd.V_alloc | apply Kd.V_drewN | apply Kd.V_drew)); exact HO0.out) gb155 (Nat.le_of_eq hg.symm)) hb)
                                    have n1_ := Aside0.mk (Kd.V_below (Kd.V_elderB (by (with_reducible repeat (first | apply Kd.V_alloc | apply Kd.V_drewN | apply Kd.V_drew)); exact HO134.out) gb155 (Nat.le_of_eq hg.symm)) hb)
                                    have n2_ := Aside0.mk (Kd.V_below (Kd.V_elderB (by (with_reducible repeat (first | apply Kd.V_alloc | apply Kd.V_drewN | apply Kd.V_drew)); exact HO140.out) gb155 (Nat.le_of_eq hg.symm)) hb)
                                    have n3_ := Aside0.mk (Kd.V_below (Kd.V_elderB (by (with_reducible repeat (first | apply Kd.V_alloc | apply Kd.V_drewN | apply Kd.V_drew)); exact HO146.out) gb155 (Nat.le_of_eq hg.symm)) hb)
                                    have n4_ := Aside0.mk (Kd.V_below (Kd.V_elderB (by (with_reducible repeat (first | apply Kd.V_alloc | apply Kd.V_drewN | apply Kd.V_drew)); exact HO152.out) gb155 (Nat.le_of_eq hg.symm)) hb)
                                    have n5_ := Aside0.mk (blk_below (g := gb128) (o := .cells #[.int .u64 0, .int .u64 0, .int .u64 0, .int .u64 0, .int .u64 0, .string (⟨#[]⟩ : ByteArray), .string (⟨#[]⟩ : ByteArray), .bool false] 28 (0, 0)) (by (with_reducible repeat (first | refine blk_drewN ?_ _ | refine blk_drew ?_ | refine blk_alloc ?_ _)); exact BK128.out) hb)
                                    have n6_ := Aside0.mk (below_step (by repeat (first | (with_reducible first | exact HB.out | apply below_alloc | apply pw_below_drewN | apply below_drew1 | refine below_set ?_ GE128.out) | exact HB.out)) hb)
                                    have n7_ := Aside0.mk (hbox)
                                    have n8_ := Aside0.mk ((by rw [hg]; exact (below_size (by repeat (first | (with_reducible first | exact HB.out | apply below_alloc | apply pw_below_drewN | apply below_drew1 | refine below_set ?_ GE128.out) | exact HB.out))) : w.heap.size ≤ gb155))
                                    have n9_ := Aside0.mk ((by rw [hg]; exact (below_size (by repeat (first | (with_reducible first | exact HB.out | apply below_alloc | apply pw_below_drewN | apply below_drew1 | refine below_set ?_ GE128.out) | exact HB.out))) : w.heap.size ≤ gb155))
                                    have n10_ := Aside0.mk ((by rw [hg]; exact Nat.ne_of_lt (blk_lt (g := gb128) (o := .cells #[.int .u64 0, .int .u64 0, .int .u64 0, .int .u64 0, .int .u64 0, .string (⟨#[]⟩ : ByteArray), .string (⟨#[]⟩ : ByteArray), .bool false] 28 (0, 0)) (by (with_reducible repeat (first | refine blk_drewN ?_ _ | refine blk_drew ?_ | refine blk_alloc ?_ _)); exact BK128.out)) : gb128 ≠ gb155))
                                    have n11_ := Aside0.mk ((by rw [hg]; exact Nat.ne_of_gt (blk_lt (g := gb128) (o := .cells #[.int .u64 0, .int .u64 0, .int .u64 0, .int .u64 0, .int .u64 0, .string (⟨#[]⟩ : ByteArray), .string (⟨#[]⟩ : ByteArray), .bool false] 28 (0, 0)) (by (with_reducible repeat (first | refine blk_drewN ?_ _ | refine blk_drew ?_ | refine blk_alloc ?_ _)); exact BK128.out)) : gb155 ≠ gb128))
                                    clear HO0
                                    clear HO134
                                    clear HO140
                                    clear HO146
                                    clear HO152
                                    clear BK128
                                    clear HB
                                    have HO0 := n0_
                                    have HO134 := n1_
                                    have HO140 := n2_
                                    have HO146 := n3_
                                    have HO152 := n4_
                                    have BK128 := n5_
                                    have HB := n6_
                                    have BK155 := n7_
                                    have GW155 := n8_
                                    have GE155 := n9_
                                    have NB128_155 := n10_
                                    have NB155_128 := n11_
                                    clear n0_ n1_ n2_ n3_ n4_ n5_ n6_ n7_ n8_ n9_ n10_ n11_
                                    clear hb hbox hg
                                    refine hK.out _ _ (HS0_) (fun hHeld => ?_)
                                    clear hK K
                                    refine norm_ (a' := ?_) ?_ ?_
                                    rotate_left
                                    · show Act.put _ (some 5) _ = _
                                      simp only [Act.put, List.setIfInBounds_toArray, List.set_cons_zero, List.set_cons_succ, i64_w, i32_w]
                                      rfl
                                    exact norm_ (by first | (simp only [putAll, Act.put, List.setIfInBounds_toArray, List.set_cons_zero, List.set_cons_succ]; done) | (simp only [putAll, Act.put, List.setIfInBounds_toArray, List.set_cons_zero, List.set_cons_succ]; rfl)) (hJ1_19 (gb155) _ ⟨hHeld, (by (with_reducible repeat (first | apply Kd.V_alloc | apply Kd.V_drewN | apply Kd.V_drew)); exact Kd.V_mono HO0.out (fun _ hk => ⟨hk.1.1, ⟨hk.1.2, hk.2⟩⟩)), (by (with_reducible repeat (first | apply Kd.V_alloc | apply Kd.V_drewN | apply Kd.V_drew)); exact Kd.V_mono HO134.out (fun _ hk => ⟨hk.1.1, ⟨hk.1.2, hk.2⟩⟩)), (by (with_reducible repeat (first | apply Kd.V_alloc | apply Kd.V_drewN | apply Kd.V_drew)); exact Kd.V_mono HO140.out (fun _ hk => ⟨hk.1.1, ⟨hk.1.2, hk.2⟩⟩)), (by (with_reducible repeat (first | apply Kd.V_alloc | apply Kd.V_drewN | apply Kd.V_drew)); exact Kd.V_mono HO146.out (fun _ hk => ⟨hk.1.1, ⟨hk.1.2, hk.2⟩⟩)), (by (with_reducible repeat (first | apply Kd.V_alloc | apply Kd.V_drewN | apply Kd.V_drew)); exact Kd.V_mono HO152.out (fun _ hk => ⟨hk.1.1, ⟨hk.1.2, hk.2⟩⟩)), (by (with_reducible repeat (first | refine blk_drewN ?_ _ | refine blk_drew ?_ | refine blk_alloc ?_ _)); exact BK128.out), (by (with_reducible repeat (first | refine blk_drewN ?_ _ | refine blk_drew ?_ | refine blk_alloc ?_ _)); exact BK155.out), GW155.out, GE155.out, NB128_155.out, NB155_128.out, (by repeat (first | (with_reducible first | exact HB.out | apply below_alloc | apply pw_below_drewN | apply below_drew1 | refine below_set ?_ GE128.out | refine below_set ?_ GE155.out) | exact HB.out))⟩)
                              · skip
                                rintro gb155 w23 ⟨hS_, h0_, h1_, h2_, h3_, h4_, h5_, h6_, h7_, h8_, h9_, h10_, h11_⟩
                                have n0_ : Aside0 (Kd.V (Kd.int .u8) 5 w23 w.heap.size (fun k_ => (P0_ k_ ∨ w.heap.size ≤ k_) ∧ k_ ≠ gb128 ∧ k_ ≠ gb155) (.slice (some ad154) l0.length c0) l0) := ⟨h0_⟩
                                have n1_ : Aside0 (Kd.V (Kd.int .u8) 5 w23 w.heap.size (fun k_ => (P0_ k_ ∨ w.heap.size ≤ k_) ∧ k_ ≠ gb128 ∧ k_ ≠ gb155) (.slice A18 y130.length c18) y130) := ⟨h1_⟩
                                have n2_ : Aside0 (Kd.V (Kd.int .u8) 5 w23 w.heap.size (fun k_ => (P0_ k_ ∨ w.heap.size ≤ k_) ∧ k_ ≠ gb128 ∧ k_ ≠ gb155) (.slice A19 y136.length c19) y136) := ⟨h2_⟩
                                have n3_ : Aside0 (Kd.V (Kd.int .u8) 5 w23 w.heap.size (fun k_ => (P0_ k_ ∨ w.heap.size ≤ k_) ∧ k_ ≠ gb128 ∧ k_ ≠ gb155) (.slice A20 y142.length c20) y142) := ⟨h3_⟩
                                have n4_ : Aside0 (Kd.V (Kd.int .u8) 5 w23 w.heap.size (fun k_ => (P0_ k_ ∨ w.heap.size ≤ k_) ∧ k_ ≠ gb128 ∧ k_ ≠ gb155) (.slice A21 y148.length c21) y148) := ⟨h4_⟩
                                have n5_ : Aside0 (w23.heap[gb128]? = some (.cells #[.int .u64 0, .int .u64 0, .int .u64 0, .int .u64 0, .int .u64 0, .string (⟨#[]⟩ : ByteArray), .string (⟨#[]⟩ : ByteArray), .bool false] 28 (0, 0))) := ⟨h5_⟩
                                have n6_ : Aside0 (w23.heap[gb155]? = some (.cells #[.int .u64 0, .int .u64 0, .int .u64 0, .int .u64 0, .int .u64 0, .string (⟨#[]⟩ : ByteArray), .string (⟨#[]⟩ : ByteArray), .bool false] 28 (0, 0))) := ⟨h6_⟩
                                have n7_ : Aside0 (w.heap.size ≤ gb155) := ⟨h7_⟩
                                have n8_ : Aside0 (w.heap.size ≤ gb155) := ⟨h8_⟩
                                have n9_ : Aside0 (gb128 ≠ gb155) := ⟨h9_⟩
                                have n10_ : Aside0 (gb155 ≠ gb128) := ⟨h10_⟩
                                have n11_ : Aside0 (Below w.heap.size w w23) := ⟨h11_⟩
                                clear HO0
                                clear BK128
                                clear HB
                                clear h0_ h1_ h2_ h3_ h4_ h5_ h6_ h7_ h8_ h9_ h10_ h11_
                                have HO0 := n0_
                                have HO134 := n1_
                                have HO140 := n2_
                                have HO146 := n3_
                                have HO152 := n4_
                                have BK128 := n5_
                                have BK155 := n6_
                                have GW155 := n7_
                                have GE155 := n8_
                                have NB128_155 := n9_
                                have NB155_128 := n10_
                                have HB := n11_
                                clear n0_ n1_ n2_ n3_ n4_ n5_ n6_ n7_ n8_ n9_ n10_ n11_
                                have hHeld : w23.cell? ⟨ad154.block, ad154.off + 40, none⟩ = some (.int .u8 (rd l0 40)) := hS_
                                refine norm_ (a' := ?_) ?_ ?_
                                rotate_left
                                · simp only [putAll, Act.put, List.setIfInBounds_toArray, List.set_cons_zero, List.set_cons_succ]
                                  rfl
                                refine one_ (i := 4) (N := some 19) #[true, true, true, true, true, true, true, false, true, true, false, true, true, false, true, true, true, true, false, true, false] rfl rfl (one_of HT_.out (by kernel_rfl)) (by decide) (fun K hK => ?_)
                                refine goes_ Try.func39 (by kernel_rfl) rfl #[.slice A18 y130.length c18] (by rfl) rfl rfl (by (try simp only [List.map_toArray, List.map_cons, List.map_nil]); first | done | rfl | (simp only [List.length_drop, List.length_take]; rfl)) ?_
                                with_reducible refine (winnowref03_Number.calls k _ _ y130 t135 _ ?side1 ?side2 A7.out).mono ?_
                                (case side1 => repeat (first | exact (Kd.V_reads' HO134.out).2.2 | (with_reducible refine Kd.C_alloc ?_ _) | (with_reducible refine Kd.C_drewN ?_ _) | (with_reducible refine Kd.C_drew ?_)))
                                (case side2 => exact (Kd.V_reads' HO134.out).2.1)
                                rintro e w' ⟨rfl, ⟨nd, rfl⟩⟩
                                refine ⟨_, rfl, ?_⟩
                                refine hK.out _ _ (hHeld) (fun hHeld => ?_)
                                clear hK K
                                refine norm_ (a' := ?_) ?_ ?_
                                rotate_left
                                · show Act.put _ (some 19) _ = _
                                  simp only [Act.put, List.setIfInBounds_toArray, List.set_cons_zero, List.set_cons_succ, i64_w, i32_w]
                                  rfl
                                exact norm_ (by first | (simp only [putAll, Act.put, List.setIfInBounds_toArray, List.set_cons_zero, List.set_cons_succ]; done) | (simp only [putAll, Act.put, List.setIfInBounds_toArray, List.set_cons_zero, List.set_cons_succ]; rfl)) (hJ1_4_19 (gb155) _ ⟨hHeld, (by (with_reducible repeat (first | apply Kd.V_alloc | apply Kd.V_drewN | apply Kd.V_drew)); exact HO0.out), (by (with_reducible repeat (first | apply Kd.V_alloc | apply Kd.V_drewN | apply Kd.V_drew)); exact HO134.out), (by (with_reducible repeat (first | apply Kd.V_alloc | apply Kd.V_drewN | apply Kd.V_drew)); exact HO140.out), (by (with_reducible repeat (first | apply Kd.V_alloc | apply Kd.V_drewN | apply Kd.V_drew)); exact HO146.out), (by (with_reducible repeat (first | apply Kd.V_alloc | apply Kd.V_drewN | apply Kd.V_drew)); exact HO152.out), (by (with_reducible repeat (first | refine blk_drewN ?_ _ | refine blk_drew ?_ | refine blk_alloc ?_ _)); exact BK128.out), (by (with_reducible repeat (first | refine blk_drewN ?_ _ | refine blk_drew ?_ | refine blk_alloc ?_ _)); exact BK155.out), GW155.out, GE155.out, NB128_155.out, NB155_128.out, (by repeat (first | (with_reducible first | exact HB.out | apply below_alloc | apply pw_below_drewN | apply below_drew1 | refine below_set ?_ GE128.out | refine below_set ?_ GE155.out) | exact HB.out))⟩)
                            · skip
                              rintro _ w22 ⟨hS_, h0_, h1_, h2_, h3_, h4_, h5_, h6_⟩
                              have n0_ : Aside0 (Kd.V (Kd.int .u8) 5 w22 w.heap.size (fun k_ => (P0_ k_ ∨ w.heap.size ≤ k_) ∧ k_ ≠ gb128) (.slice (some ad154) l0.length c0) l0) := ⟨h0_⟩
                              have n1_ : Aside0 (Kd.V (Kd.int .u8) 5 w22 w.heap.size (fun k_ => (P0_ k_ ∨ w.heap.size ≤ k_) ∧ k_ ≠ gb128) (.slice A18 y130.length c18) y130) := ⟨h1_⟩
                              have n2_ : Aside0 (Kd.V (Kd.int .u8) 5 w22 w.heap.size (fun k_ => (P0_ k_ ∨ w.heap.size ≤ k_) ∧ k_ ≠ gb128) (.slice A19 y136.length c19) y136) := ⟨h2_⟩
                              have n3_ : Aside0 (Kd.V (Kd.int .u8) 5 w22 w.heap.size (fun k_ => (P0_ k_ ∨ w.heap.size ≤ k_) ∧ k_ ≠ gb128) (.slice A20 y142.length c20) y142) := ⟨h3_⟩
                              have n4_ : Aside0 (Kd.V (Kd.int .u8) 5 w22 w.heap.size (fun k_ => (P0_ k_ ∨ w.heap.size ≤ k_) ∧ k_ ≠ gb128) (.slice A21 y148.length c21) y148) := ⟨h4_⟩
                              have n5_ : Aside0 (w22.heap[gb128]? = some (.cells #[.int .u64 0, .int .u64 0, .int .u64 0, .int .u64 0, .int .u64 0, .string (⟨#[]⟩ : ByteArray), .string (⟨#[]⟩ : ByteArray), .bool false] 28 (0, 0))) := ⟨h5_⟩
                              have n6_ : Aside0 (Below w.heap.size w w22) := ⟨h6_⟩
                              clear HO0
                              clear BK128
                              clear HB
                              clear h0_ h1_ h2_ h3_ h4_ h5_ h6_
                              have HO0 := n0_
                              have HO134 := n1_
                              have HO140 := n2_
                              have HO146 := n3_
                              have HO152 := n4_
                              have BK128 := n5_
                              have HB := n6_
                              clear n0_ n1_ n2_ n3_ n4_ n5_ n6_
                              have hHeld : w22.cell? ⟨ad154.block, ad154.off + 40, none⟩ = some (.int .u8 (rd l0 40)) := hS_
                              refine norm_ (a' := ?_) ?_ ?_
                              rotate_left
                              · simp only [putAll, Act.put, List.setIfInBounds_toArray, List.set_cons_zero, List.set_cons_succ]
                                rfl
                              refine two_ (i := 7) (j := 19) (Ni := some 22) (Nj := some 5) #[true, true, true, true, true, true, true, true, true, true, false, true, true, false, true, true, true, true, false, false, false] #[true, true, true, true, true, true, true, false, true, true, false, true, true, false, true, true, true, true, false, true, false] rfl rfl rfl rfl (two_of HT_.out (by kernel_rfl)) (by decide) (by decide) (fun K hK => ?_) (fun K hK => ?_)
                              · skip
                                refine goes_ Try.func39 (by kernel_rfl) rfl #[.slice A19 y136.length c19] (by rfl) rfl rfl (by (try simp only [List.map_toArray, List.map_cons, List.map_nil]); first | done | rfl | (simp only [List.length_drop, List.length_take]; rfl)) ?_
                                with_reducible refine (winnowref03_Number.calls k _ _ y136 t141 _ ?side1 ?side2 A9.out).mono ?_
                                (case side1 => repeat (first | exact (Kd.V_reads' HO140.out).2.2 | (with_reducible refine Kd.C_alloc ?_ _) | (with_reducible refine Kd.C_drewN ?_ _) | (with_reducible refine Kd.C_drew ?_)))
                                (case side2 => exact (Kd.V_reads' HO140.out).2.1)
                                rintro e w' ⟨rfl, ⟨nd, rfl⟩⟩
                                refine ⟨_, rfl, ?_⟩
                                refine hK.out _ _ (hHeld) (fun hHeld => ?_)
                                clear hK K
                                refine norm_ (a' := ?_) ?_ ?_
                                rotate_left
                                · show Act.put _ (some 22) _ = _
                                  simp only [Act.put, List.setIfInBounds_toArray, List.set_cons_zero, List.set_cons_succ, i64_w, i32_w]
                                  rfl
                                exact norm_ (by first | (simp only [putAll, Act.put, List.setIfInBounds_toArray, List.set_cons_zero, List.set_cons_succ]; done) | (simp only [putAll, Act.put, List.setIfInBounds_toArray, List.set_cons_zero, List.set_cons_succ]; rfl)) (hJ1_4_7 () _ ⟨hHeld, (by (with_reducible repeat (first | apply Kd.V_alloc | apply Kd.V_drewN | apply Kd.V_drew)); exact HO0.out), (by (with_reducible repeat (first | apply Kd.V_alloc | apply Kd.V_drewN | apply Kd.V_drew)); exact HO134.out), (by (with_reducible repeat (first | apply Kd.V_alloc | apply Kd.V_drewN | apply Kd.V_drew)); exact HO140.out), (by (with_reducible repeat (first | apply Kd.V_alloc | apply Kd.V_drewN | apply Kd.V_drew)); exact HO146.out), (by (with_reducible repeat (first | apply Kd.V_alloc | apply Kd.V_drewN | apply Kd.V_drew)); exact HO152.out), (by (with_reducible repeat (first | refine blk_drewN ?_ _ | refine blk_drew ?_ | refine blk_alloc ?_ _)); exact BK128.out), (by repeat (first | (with_reducible first | exact HB.out | apply below_alloc | apply pw_below_drewN | apply below_drew1 | refine below_set ?_ GE128.out) | exact HB.out))⟩)
                              · skip
                                refine box_step ?hg (N := 5) ?hd (cs := #[.int .u64 0, .int .u64 0, .int .u64 0, .int .u64 0, .int .u64 0, .string (⟨#[]⟩ : ByteArray), .string (⟨#[]⟩ : ByteArray), .bool false]) (t := 28) ?hr ?_; (case hd => rfl); (case hg => rfl); (case hr => first | (go_simp; done) | (go_simp; rfl))
                                intro gb155 hg w23 hbox hb
                                have HS0_ := (hb.cell (World.block_lt_of_cell? _ _ (hHeld))).trans (hHeld)
                                have n0_ := Aside0.mk (Kd.V_below (Kd.V_elderB (by (with_reducible repeat (first | apply Kd.V_alloc | apply Kd.V_drewN | apply Kd.V_drew)); exact HO0.out) gb155 (Nat.le_of_eq hg.symm)) hb)
                                have n1_ := Aside0.mk (Kd.V_below (Kd.V_elderB (by (with_reducible repeat (first | apply Kd.V_alloc | apply Kd.V_drewN | apply Kd.V_drew)); exact HO134.out) gb155 (Nat.le_of_eq hg.symm)) hb)
                                have n2_ := Aside0.mk (Kd.V_below (Kd.V_elderB (by (with_reducible repeat (first | apply Kd.V_alloc | apply Kd.V_drewN | apply Kd.V_drew)); exact HO140.out) gb155 (Nat.le_of_eq hg.symm)) hb)
                                have n3_ := Aside0.mk (Kd.V_below (Kd.V_elderB (by (with_reducible repeat (first | apply Kd.V_alloc | apply Kd.V_drewN | apply Kd.V_drew)); exact HO146.out) gb155 (Nat.le_of_eq hg.symm)) hb)
                                have n4_ := Aside0.mk (Kd.V_below (Kd.V_elderB (by (with_reducible repeat (first | apply Kd.V_alloc | apply Kd.V_drewN | apply Kd.V_drew)); exact HO152.out) gb155 (Nat.le_of_eq hg.symm)) hb)
                                have n5_ := Aside0.mk (blk_below (g := gb128) (o := .cells #[.int .u64 0, .int .u64 0, .int .u64 0, .int .u64 0, .int .u64 0, .string (⟨#[]⟩ : ByteArray), .string (⟨#[]⟩ : ByteArray), .bool false] 28 (0, 0)) (by (with_reducible repeat (first | refine blk_drewN ?_ _ | refine blk_drew ?_ | refine blk_alloc ?_ _)); exact BK128.out) hb)
                                have n6_ := Aside0.mk (below_step (by repeat (first | (with_reducible first | exact HB.out | apply below_alloc | apply pw_below_drewN | apply below_drew1 | refine below_set ?_ GE128.out) | exact HB.out)) hb)
                                have n7_ := Aside0.mk (hbox)
                                have n8_ := Aside0.mk ((by rw [hg]; exact (below_size (by repeat (first | (with_reducible first | exact HB.out | apply below_alloc | apply pw_below_drewN | apply below_drew1 | refine below_set ?_ GE128.out) | exact HB.out))) : w.heap.size ≤ gb155))
                                have n9_ := Aside0.mk ((by rw [hg]; exact (below_size (by repeat (first | (with_reducible first | exact HB.out | apply below_alloc | apply pw_below_drewN | apply below_drew1 | refine below_set ?_ GE128.out) | exact HB.out))) : w.heap.size ≤ gb155))
                                have n10_ := Aside0.mk ((by rw [hg]; exact Nat.ne_of_lt (blk_lt (g := gb128) (o := .cells #[.int .u64 0, .int .u64 0, .int .u64 0, .int .u64 0, .int .u64 0, .string (⟨#[]⟩ : ByteArray), .string (⟨#[]⟩ : ByteArray), .bool false] 28 (0, 0)) (by (with_reducible repeat (first | refine blk_drewN ?_ _ | refine blk_drew ?_ | refine blk_alloc ?_ _)); exact BK128.out)) : gb128 ≠ gb155))
                                have n11_ := Aside0.mk ((by rw [hg]; exact Nat.ne_of_gt (blk_lt (g := gb128) (o := .cells #[.int .u64 0, .int .u64 0, .int .u64 0, .int .u64 0, .int .u64 0, .string (⟨#[]⟩ : ByteArray), .string (⟨#[]⟩ : ByteArray), .bool false] 28 (0, 0)) (by (with_reducible repeat (first | refine blk_drewN ?_ _ | refine blk_drew ?_ | refine blk_alloc ?_ _)); exact BK128.out)) : gb155 ≠ gb128))
                                clear HO0
                                clear HO134
                                clear HO140
                                clear HO146
                                clear HO152
                                clear BK128
                                clear HB
                                have HO0 := n0_
                                have HO134 := n1_
                                have HO140 := n2_
                                have HO146 := n3_
                                have HO152 := n4_
                                have BK128 := n5_
                                have HB := n6_
                                have BK155 := n7_
                                have GW155 := n8_
                                have GE155 := n9_
                                have NB128_155 := n10_
                                have NB155_128 := n11_
                                clear n0_ n1_ n2_ n3_ n4_ n5_ n6_ n7_ n8_ n9_ n10_ n11_
                                clear hb hbox hg
                                refine hK.out _ _ (HS0_) (fun hHeld => ?_)
                                clear hK K
                                refine norm_ (a' := ?_) ?_ ?_
                                rotate_left
                                · show Act.put _ (some 5) _ = _
                                  simp only [Act.put, List.setIfInBounds_toArray, List.set_cons_zero, List.set_cons_succ, i64_w, i32_w]
                                  rfl
                                exact norm_ (by first | (simp only [putAll, Act.put, List.setIfInBounds_toArray, List.set_cons_zero, List.set_cons_succ]; done) | (simp only [putAll, Act.put, List.setIfInBounds_toArray, List.set_cons_zero, List.set_cons_succ]; rfl)) (hJ1_4_19 (gb155) _ ⟨hHeld, (by (with_reducible repeat (first | apply Kd.V_alloc | apply Kd.V_drewN | apply Kd.V_drew)); exact Kd.V_mono HO0.out (fun _ hk => ⟨hk.1.1, ⟨hk.1.2, hk.2⟩⟩)), (by (with_reducible repeat (first | apply Kd.V_alloc | apply Kd.V_drewN | apply Kd.V_drew)); exact Kd.V_mono HO134.out (fun _ hk => ⟨hk.1.1, ⟨hk.1.2, hk.2⟩⟩)), (by (with_reducible repeat (first | apply Kd.V_alloc | apply Kd.V_drewN | apply Kd.V_drew)); exact Kd.V_mono HO140.out (fun _ hk => ⟨hk.1.1, ⟨hk.1.2, hk.2⟩⟩)), (by (with_reducible repeat (first | apply Kd.V_alloc | apply Kd.V_drewN | apply Kd.V_drew)); exact Kd.V_mono HO146.out (fun _ hk => ⟨hk.1.1, ⟨hk.1.2, hk.2⟩⟩)), (by (with_reducible repeat (first | apply Kd.V_alloc | apply Kd.V_drewN | apply Kd.V_drew)); exact Kd.V_mono HO152.out (fun _ hk => ⟨hk.1.1, ⟨hk.1.2, hk.2⟩⟩)), (by (with_reducible repeat (first | refine blk_drewN ?_ _ | refine blk_drew ?_ | refine blk_alloc ?_ _)); exact BK128.out), (by (with_reducible repeat (first | refine blk_drewN ?_ _ | refine blk_drew ?_ | refine blk_alloc ?_ _)); exact BK155.out), GW155.out, GE155.out, NB128_155.out, NB155_128.out, (by repeat (first | (with_reducible first | exact HB.out | apply below_alloc | apply pw_below_drewN | apply below_drew1 | refine below_set ?_ GE128.out | refine below_set ?_ GE155.out) | exact HB.out))⟩)
                          · skip
                            rintro gb155 w23 ⟨hS_, h0_, h1_, h2_, h3_, h4_, h5_, h6_, h7_, h8_, h9_, h10_, h11_⟩
                            have n0_ : Aside0 (Kd.V (Kd.int .u8) 5 w23 w.heap.size (fun k_ => (P0_ k_ ∨ w.heap.size ≤ k_) ∧ k_ ≠ gb128 ∧ k_ ≠ gb155) (.slice (some ad154) l0.length c0) l0) := ⟨h0_⟩
                            have n1_ : Aside0 (Kd.V (Kd.int .u8) 5 w23 w.heap.size (fun k_ => (P0_ k_ ∨ w.heap.size ≤ k_) ∧ k_ ≠ gb128 ∧ k_ ≠ gb155) (.slice A18 y130.length c18) y130) := ⟨h1_⟩
                            have n2_ : Aside0 (Kd.V (Kd.int .u8) 5 w23 w.heap.size (fun k_ => (P0_ k_ ∨ w.heap.size ≤ k_) ∧ k_ ≠ gb128 ∧ k_ ≠ gb155) (.slice A19 y136.length c19) y136) := ⟨h2_⟩
                            have n3_ : Aside0 (Kd.V (Kd.int .u8) 5 w23 w.heap.size (fun k_ => (P0_ k_ ∨ w.heap.size ≤ k_) ∧ k_ ≠ gb128 ∧ k_ ≠ gb155) (.slice A20 y142.length c20) y142) := ⟨h3_⟩
                            have n4_ : Aside0 (Kd.V (Kd.int .u8) 5 w23 w.heap.size (fun k_ => (P0_ k_ ∨ w.heap.size ≤ k_) ∧ k_ ≠ gb128 ∧ k_ ≠ gb155) (.slice A21 y148.length c21) y148) := ⟨h4_⟩
                            have n5_ : Aside0 (w23.heap[gb128]? = some (.cells #[.int .u64 0, .int .u64 0, .int .u64 0, .int .u64 0, .int .u64 0, .string (⟨#[]⟩ : ByteArray), .string (⟨#[]⟩ : ByteArray), .bool false] 28 (0, 0))) := ⟨h5_⟩
                            have n6_ : Aside0 (w23.heap[gb155]? = some (.cells #[.int .u64 0, .int .u64 0, .int .u64 0, .int .u64 0, .int .u64 0, .string (⟨#[]⟩ : ByteArray), .string (⟨#[]⟩ : ByteArray), .bool false] 28 (0, 0))) := ⟨h6_⟩
                            have n7_ : Aside0 (w.heap.size ≤ gb155) := ⟨h7_⟩
                            have n8_ : Aside0 (w.heap.size ≤ gb155) := ⟨h8_⟩
                            have n9_ : Aside0 (gb128 ≠ gb155) := ⟨h9_⟩
                            have n10_ : Aside0 (gb155 ≠ gb128) := ⟨h10_⟩
                            have n11_ : Aside0 (Below w.heap.size w w23) := ⟨h11_⟩
                            clear HO0
                            clear BK128
                            clear HB
                            clear h0_ h1_ h2_ h3_ h4_ h5_ h6_ h7_ h8_ h9_ h10_ h11_
                            have HO0 := n0_
                            have HO134 := n1_
                            have HO140 := n2_
                            have HO146 := n3_
                            have HO152 := n4_
                            have BK128 := n5_
                            have BK155 := n6_
                            have GW155 := n7_
                            have GE155 := n8_
                            have NB128_155 := n9_
                            have NB155_128 := n10_
                            have HB := n11_
                            clear n0_ n1_ n2_ n3_ n4_ n5_ n6_ n7_ n8_ n9_ n10_ n11_
                            have hHeld : w23.cell? ⟨ad154.block, ad154.off + 40, none⟩ = some (.int .u8 (rd l0 40)) := hS_
                            refine norm_ (a' := ?_) ?_ ?_
                            rotate_left
                            · simp only [putAll, Act.put, List.setIfInBounds_toArray, List.set_cons_zero, List.set_cons_succ]
                              rfl
                            refine one_ (i := 7) (N := some 22) #[true, true, true, true, true, true, true, true, true, true, false, true, true, false, true, true, true, true, false, true, false] rfl rfl (one_of HT_.out (by kernel_rfl)) (by decide) (fun K hK => ?_)
                            refine goes_ Try.func39 (by kernel_rfl) rfl #[.slice A19 y136.length c19] (by rfl) rfl rfl (by (try simp only [List.map_toArray, List.map_cons, List.map_nil]); first | done | rfl | (simp only [List.length_drop, List.length_take]; rfl)) ?_
                            with_reducible refine (winnowref03_Number.calls k _ _ y136 t141 _ ?side1 ?side2 A9.out).mono ?_
                            (case side1 => repeat (first | exact (Kd.V_reads' HO140.out).2.2 | (with_reducible refine Kd.C_alloc ?_ _) | (with_reducible refine Kd.C_drewN ?_ _) | (with_reducible refine Kd.C_drew ?_)))
                            (case side2 => exact (Kd.V_reads' HO140.out).2.1)
                            rintro e w' ⟨rfl, ⟨nd, rfl⟩⟩
                            refine ⟨_, rfl, ?_⟩
                            refine hK.out _ _ (hHeld) (fun hHeld => ?_)
                            clear hK K
                            refine norm_ (a' := ?_) ?_ ?_
                            rotate_left
                            · show Act.put _ (some 22) _ = _
                              simp only [Act.put, List.setIfInBounds_toArray, List.set_cons_zero, List.set_cons_succ, i64_w, i32_w]
                              rfl
                            exact norm_ (by first | (simp only [putAll, Act.put, List.setIfInBounds_toArray, List.set_cons_zero, List.set_cons_succ]; done) | (simp only [putAll, Act.put, List.setIfInBounds_toArray, List.set_cons_zero, List.set_cons_succ]; rfl)) (hJ1_4_7_19 (gb155) _ ⟨hHeld, (by (with_reducible repeat (first | apply Kd.V_alloc | apply Kd.V_drewN | apply Kd.V_drew)); exact HO0.out), (by (with_reducible repeat (first | apply Kd.V_alloc | apply Kd.V_drewN | apply Kd.V_drew)); exact HO134.out), (by (with_reducible repeat (first | apply Kd.V_alloc | apply Kd.V_drewN | apply Kd.V_drew)); exact HO140.out), (by (with_reducible repeat (first | apply Kd.V_alloc | apply Kd.V_drewN | apply Kd.V_drew)); exact HO146.out), (by (with_reducible repeat (first | apply Kd.V_alloc | apply Kd.V_drewN | apply Kd.V_drew)); exact HO152.out), (by (with_reducible repeat (first | refine blk_drewN ?_ _ | refine blk_drew ?_ | refine blk_alloc ?_ _)); exact BK128.out), (by (with_reducible repeat (first | refine blk_drewN ?_ _ | refine blk_drew ?_ | refine blk_alloc ?_ _)); exact BK155.out), GW155.out, GE155.out, NB128_155.out, NB155_128.out, (by repeat (first | (with_reducible first | exact HB.out | apply below_alloc | apply pw_below_drewN | apply below_drew1 | refine below_set ?_ GE128.out | refine below_set ?_ GE155.out) | exact HB.out))⟩)
                        · skip
                          rintro _ w22 ⟨hS_, h0_, h1_, h2_, h3_, h4_, h5_, h6_⟩
                          have n0_ : Aside0 (Kd.V (Kd.int .u8) 5 w22 w.heap.size (fun k_ => (P0_ k_ ∨ w.heap.size ≤ k_) ∧ k_ ≠ gb128) (.slice (some ad154) l0.length c0) l0) := ⟨h0_⟩
                          have n1_ : Aside0 (Kd.V (Kd.int .u8) 5 w22 w.heap.size (fun k_ => (P0_ k_ ∨ w.heap.size ≤ k_) ∧ k_ ≠ gb128) (.slice A18 y130.length c18) y130) := ⟨h1_⟩
                          have n2_ : Aside0 (Kd.V (Kd.int .u8) 5 w22 w.heap.size (fun k_ => (P0_ k_ ∨ w.heap.size ≤ k_) ∧ k_ ≠ gb128) (.slice A19 y136.length c19) y136) := ⟨h2_⟩
                          have n3_ : Aside0 (Kd.V (Kd.int .u8) 5 w22 w.heap.size (fun k_ => (P0_ k_ ∨ w.heap.size ≤ k_) ∧ k_ ≠ gb128) (.slice A20 y142.length c20) y142) := ⟨h3_⟩
                          have n4_ : Aside0 (Kd.V (Kd.int .u8) 5 w22 w.heap.size (fun k_ => (P0_ k_ ∨ w.heap.size ≤ k_) ∧ k_ ≠ gb128) (.slice A21 y148.length c21) y148) := ⟨h4_⟩
                          have n5_ : Aside0 (w22.heap[gb128]? = some (.cells #[.int .u64 0, .int .u64 0, .int .u64 0, .int .u64 0, .int .u64 0, .string (⟨#[]⟩ : ByteArray), .string (⟨#[]⟩ : ByteArray), .bool false] 28 (0, 0))) := ⟨h5_⟩
                          have n6_ : Aside0 (Below w.heap.size w w22) := ⟨h6_⟩
                          clear HO0
                          clear BK128
                          clear HB
                          clear h0_ h1_ h2_ h3_ h4_ h5_ h6_
                          have HO0 := n0_
                          have HO134 := n1_
                          have HO140 := n2_
                          have HO146 := n3_
                          have HO152 := n4_
                          have BK128 := n5_
                          have HB := n6_
                          clear n0_ n1_ n2_ n3_ n4_ n5_ n6_
                          have hHeld : w22.cell? ⟨ad154.block, ad154.off + 40, none⟩ = some (.int .u8 (rd l0 40)) := hS_
                          refine norm_ (a' := ?_) ?_ ?_
                          rotate_left
                          · simp only [putAll, Act.put, List.setIfInBounds_toArray, List.set_cons_zero, List.set_cons_succ]
                            rfl
                          refine two_ (i := 10) (j := 19) (Ni := some 25) (Nj := some 5) #[true, true, true, true, true, true, true, true, true, true, true, true, true, false, true, true, true, true, false, false, false] #[true, true, true, true, true, true, true, true, true, true, false, true, true, false, true, true, true, true, false, true, false] rfl rfl rfl rfl (two_of HT_.out (by kernel_rfl)) (by decide) (by decide) (fun K hK => ?_) (fun K hK => ?_)
                          · skip
                            refine goes_ Try.func39 (by kernel_rfl) rfl #[.slice A20 y142.length c20] (by rfl) rfl rfl (by (try simp only [List.map_toArray, List.map_cons, List.map_nil]); first | done | rfl | (simp only [List.length_drop, List.length_take]; rfl)) ?_
                            with_reducible refine (winnowref03_Number.calls k _ _ y142 t147 _ ?side1 ?side2 A11.out).mono ?_
                            (case side1 => repeat (first | exact (Kd.V_reads' HO146.out).2.2 | (with_reducible refine Kd.C_alloc ?_ _) | (with_reducible refine Kd.C_drewN ?_ _) | (with_reducible refine Kd.C_drew ?_)))
                            (case side2 => exact (Kd.V_reads' HO146.out).2.1)
                            rintro e w' ⟨rfl, ⟨nd, rfl⟩⟩
                            refine ⟨_, rfl, ?_⟩
                            refine hK.out _ _ (hHeld) (fun hHeld => ?_)
                            clear hK K
                            refine norm_ (a' := ?_) ?_ ?_
                            rotate_left
                            · show Act.put _ (some 25) _ = _
                              simp only [Act.put, List.setIfInBounds_toArray, List.set_cons_zero, List.set_cons_succ, i64_w, i32_w]
                              rfl
                            exact norm_ (by first | (simp only [putAll, Act.put, List.setIfInBounds_toArray, List.set_cons_zero, List.set_cons_succ]; done) | (simp only [putAll, Act.put, List.setIfInBounds_toArray, List.set_cons_zero, List.set_cons_succ]; rfl)) (hJ1_4_7_10 () _ ⟨hHeld, (by (with_reducible repeat (first | apply Kd.V_alloc | apply Kd.V_drewN | apply Kd.V_drew)); exact HO0.out), (by (with_reducible repeat (first | apply Kd.V_alloc | apply Kd.V_drewN | apply Kd.V_drew)); exact HO134.out), (by (with_reducible repeat (first | apply Kd.V_alloc | apply Kd.V_drewN | apply Kd.V_drew)); exact HO140.out), (by (with_reducible repeat (first | apply Kd.V_alloc | apply Kd.V_drewN | apply Kd.V_drew)); exact HO146.out), (by (with_reducible repeat (first | apply Kd.V_alloc | apply Kd.V_drewN | apply Kd.V_drew)); exact HO152.out), (by (with_reducible repeat (first | refine blk_drewN ?_ _ | refine blk_drew ?_ | refine blk_alloc ?_ _)); exact BK128.out), (by repeat (first | (with_reducible first | exact HB.out | apply below_alloc | apply pw_below_drewN | apply below_drew1 | refine below_set ?_ GE128.out) | exact HB.out))⟩)
                          · skip
                            refine box_step ?hg (N := 5) ?hd (cs := #[.int .u64 0, .int .u64 0, .int .u64 0, .int .u64 0, .int .u64 0, .string (⟨#[]⟩ : ByteArray), .string (⟨#[]⟩ : ByteArray), .bool false]) (t := 28) ?hr ?_; (case hd => rfl); (case hg => rfl); (case hr => first | (go_simp; done) | (go_simp; rfl))
                            intro gb155 hg w23 hbox hb
                            have HS0_ := (hb.cell (World.block_lt_of_cell? _ _ (hHeld))).trans (hHeld)
                            have n0_ := Aside0.mk (Kd.V_below (Kd.V_elderB (by (with_reducible repeat (first | apply Kd.V_alloc | apply Kd.V_drewN | apply Kd.V_drew)); exact HO0.out) gb155 (Nat.le_of_eq hg.symm)) hb)
                            have n1_ := Aside0.mk (Kd.V_below (Kd.V_elderB (by (with_reducible repeat (first | apply Kd.V_alloc | apply Kd.V_drewN | apply Kd.V_drew)); exact HO134.out) gb155 (Nat.le_of_eq hg.symm)) hb)
                            have n2_ := Aside0.mk (Kd.V_below (Kd.V_elderB (by (with_reducible repeat (first | apply Kd.V_alloc | apply Kd.V_drewN | apply Kd.V_drew)); exact HO140.out) gb155 (Nat.le_of_eq hg.symm)) hb)
                            have n3_ := Aside0.mk (Kd.V_below (Kd.V_elderB (by (with_reducible repeat (first | apply Kd.V_alloc | apply Kd.V_drewN | apply Kd.V_drew)); exact HO146.out) gb155 (Nat.le_of_eq hg.symm)) hb)
                            have n4_ := Aside0.mk (Kd.V_below (Kd.V_elderB (by (with_reducible repeat (first | apply Kd.V_alloc | apply Kd.V_drewN | apply Kd.V_drew)); exact HO152.out) gb155 (Nat.le_of_eq hg.symm)) hb)
                            have n5_ := Aside0.mk (blk_below (g := gb128) (o := .cells #[.int .u64 0, .int .u64 0, .int .u64 0, .int .u64 0, .int .u64 0, .string (⟨#[]⟩ : ByteArray), .string (⟨#[]⟩ : ByteArray), .bool false] 28 (0, 0)) (by (with_reducible repeat (first | refine blk_drewN ?_ _ | refine blk_drew ?_ | refine blk_alloc ?_ _)); exact BK128.out) hb)
                            have n6_ := Aside0.mk (below_step (by repeat (first | (with_reducible first | exact HB.out | apply below_alloc | apply pw_below_drewN | apply below_drew1 | refine below_set ?_ GE128.out) | exact HB.out)) hb)
                            have n7_ := Aside0.mk (hbox)
                            have n8_ := Aside0.mk ((by rw [hg]; exact (below_size (by repeat (first | (with_reducible first | exact HB.out | apply below_alloc | apply pw_below_drewN | apply below_drew1 | refine below_set ?_ GE128.out) | exact HB.out))) : w.heap.size ≤ gb155))
                            have n9_ := Aside0.mk ((by rw [hg]; exact (below_size (by repeat (first | (with_reducible first | exact HB.out | apply below_alloc | apply pw_below_drewN | apply below_drew1 | refine below_set ?_ GE128.out) | exact HB.out))) : w.heap.size ≤ gb155))
                            have n10_ := Aside0.mk ((by rw [hg]; exact Nat.ne_of_lt (blk_lt (g := gb128) (o := .cells #[.int .u64 0, .int .u64 0, .int .u64 0, .int .u64 0, .int .u64 0, .string (⟨#[]⟩ : ByteArray), .string (⟨#[]⟩ : ByteArray), .bool false] 28 (0, 0)) (by (with_reducible repeat (first | refine blk_drewN ?_ _ | refine blk_drew ?_ | refine blk_alloc ?_ _)); exact BK128.out)) : gb128 ≠ gb155))
                            have n11_ := Aside0.mk ((by rw [hg]; exact Nat.ne_of_gt (blk_lt (g := gb128) (o := .cells #[.int .u64 0, .int .u64 0, .int .u64 0, .int .u64 0, .int .u64 0, .string (⟨#[]⟩ : ByteArray), .string (⟨#[]⟩ : ByteArray), .bool false] 28 (0, 0)) (by (with_reducible repeat (first | refine blk_drewN ?_ _ | refine blk_drew ?_ | refine blk_alloc ?_ _)); exact BK128.out)) : gb155 ≠ gb128))
                            clear HO0
                            clear HO134
                            clear HO140
                            clear HO146
                            clear HO152
                            clear BK128
                            clear HB
                            have HO0 := n0_
                            have HO134 := n1_
                            have HO140 := n2_
                            have HO146 := n3_
                            have HO152 := n4_
                            have BK128 := n5_
                            have HB := n6_
                            have BK155 := n7_
                            have GW155 := n8_
                            have GE155 := n9_
                            have NB128_155 := n10_
                            have NB155_128 := n11_
                            clear n0_ n1_ n2_ n3_ n4_ n5_ n6_ n7_ n8_ n9_ n10_ n11_
                            clear hb hbox hg
                            refine hK.out _ _ (HS0_) (fun hHeld => ?_)
                            clear hK K
                            refine norm_ (a' := ?_) ?_ ?_
                            rotate_left
                            · show Act.put _ (some 5) _ = _
                              simp only [Act.put, List.setIfInBounds_toArray, List.set_cons_zero, List.set_cons_succ, i64_w, i32_w]
                              rfl
                            exact norm_ (by first | (simp only [putAll, Act.put, List.setIfInBounds_toArray, List.set_cons_zero, List.set_cons_succ]; done) | (simp only [putAll, Act.put, List.setIfInBounds_toArray, List.set_cons_zero, List.set_cons_succ]; rfl)) (hJ1_4_7_19 (gb155) _ ⟨hHeld, (by (with_reducible repeat (first | apply Kd.V_alloc | apply Kd.V_drewN | apply Kd.V_drew)); exact Kd.V_mono HO0.out (fun _ hk => ⟨hk.1.1, ⟨hk.1.2, hk.2⟩⟩)), (by (with_reducible repeat (first | apply Kd.V_alloc | apply Kd.V_drewN | apply Kd.V_drew)); exact Kd.V_mono HO134.out (fun _ hk => ⟨hk.1.1, ⟨hk.1.2, hk.2⟩⟩)), (by (with_reducible repeat (first | apply Kd.V_alloc | apply Kd.V_drewN | apply Kd.V_drew)); exact Kd.V_mono HO140.out (fun _ hk => ⟨hk.1.1, ⟨hk.1.2, hk.2⟩⟩)), (by (with_reducible repeat (first | apply Kd.V_alloc | apply Kd.V_drewN | apply Kd.V_drew)); exact Kd.V_mono HO146.out (fun _ hk => ⟨hk.1.1, ⟨hk.1.2, hk.2⟩⟩)), (by (with_reducible repeat (first | apply Kd.V_alloc | apply Kd.V_drewN | apply Kd.V_drew)); exact Kd.V_mono HO152.out (fun _ hk => ⟨hk.1.1, ⟨hk.1.2, hk.2⟩⟩)), (by (with_reducible repeat (first | refine blk_drewN ?_ _ | refine blk_drew ?_ | refine blk_alloc ?_ _)); exact BK128.out), (by (with_reducible repeat (first | refine blk_drewN ?_ _ | refine blk_drew ?_ | refine blk_alloc ?_ _)); exact BK155.out), GW155.out, GE155.out, NB128_155.out, NB155_128.out, (by repeat (first | (with_reducible first | exact HB.out | apply below_alloc | apply pw_below_drewN | apply below_drew1 | refine below_set ?_ GE128.out | refine below_set ?_ GE155.out) | exact HB.out))⟩)
                      · skip
                        rintro gb155 w23 ⟨hS_, h0_, h1_, h2_, h3_, h4_, h5_, h6_, h7_, h8_, h9_, h10_, h11_⟩
                        have n0_ : Aside0 (Kd.V (Kd.int .u8) 5 w23 w.heap.size (fun k_ => (P0_ k_ ∨ w.heap.size ≤ k_) ∧ k_ ≠ gb128 ∧ k_ ≠ gb155) (.slice (some ad154) l0.length c0) l0) := ⟨h0_⟩
                        have n1_ : Aside0 (Kd.V (Kd.int .u8) 5 w23 w.heap.size (fun k_ => (P0_ k_ ∨ w.heap.size ≤ k_) ∧ k_ ≠ gb128 ∧ k_ ≠ gb155) (.slice A18 y130.length c18) y130) := ⟨h1_⟩
                        have n2_ : Aside0 (Kd.V (Kd.int .u8) 5 w23 w.heap.size (fun k_ => (P0_ k_ ∨ w.heap.size ≤ k_) ∧ k_ ≠ gb128 ∧ k_ ≠ gb155) (.slice A19 y136.length c19) y136) := ⟨h2_⟩
                        have n3_ : Aside0 (Kd.V (Kd.int .u8) 5 w23 w.heap.size (fun k_ => (P0_ k_ ∨ w.heap.size ≤ k_) ∧ k_ ≠ gb128 ∧ k_ ≠ gb155) (.slice A20 y142.length c20) y142) := ⟨h3_⟩
                        have n4_ : Aside0 (Kd.V (Kd.int .u8) 5 w23 w.heap.size (fun k_ => (P0_ k_ ∨ w.heap.size ≤ k_) ∧ k_ ≠ gb128 ∧ k_ ≠ gb155) (.slice A21 y148.length c21) y148) := ⟨h4_⟩
                        have n5_ : Aside0 (w23.heap[gb128]? = some (.cells #[.int .u64 0, .int .u64 0, .int .u64 0, .int .u64 0, .int .u64 0, .string (⟨#[]⟩ : ByteArray), .string (⟨#[]⟩ : ByteArray), .bool false] 28 (0, 0))) := ⟨h5_⟩
                        have n6_ : Aside0 (w23.heap[gb155]? = some (.cells #[.int .u64 0, .int .u64 0, .int .u64 0, .int .u64 0, .int .u64 0, .string (⟨#[]⟩ : ByteArray), .string (⟨#[]⟩ : ByteArray), .bool false] 28 (0, 0))) := ⟨h6_⟩
                        have n7_ : Aside0 (w.heap.size ≤ gb155) := ⟨h7_⟩
                        have n8_ : Aside0 (w.heap.size ≤ gb155) := ⟨h8_⟩
                        have n9_ : Aside0 (gb128 ≠ gb155) := ⟨h9_⟩
                        have n10_ : Aside0 (gb155 ≠ gb128) := ⟨h10_⟩
                        have n11_ : Aside0 (Below w.heap.size w w23) := ⟨h11_⟩
                        clear HO0
                        clear BK128
                        clear HB
                        clear h0_ h1_ h2_ h3_ h4_ h5_ h6_ h7_ h8_ h9_ h10_ h11_
                        have HO0 := n0_
                        have HO134 := n1_
                        have HO140 := n2_
                        have HO146 := n3_
                        have HO152 := n4_
                        have BK128 := n5_
                        have BK155 := n6_
                        have GW155 := n7_
                        have GE155 := n8_
                        have NB128_155 := n9_
                        have NB155_128 := n10_
                        have HB := n11_
                        clear n0_ n1_ n2_ n3_ n4_ n5_ n6_ n7_ n8_ n9_ n10_ n11_
                        have hHeld : w23.cell? ⟨ad154.block, ad154.off + 40, none⟩ = some (.int .u8 (rd l0 40)) := hS_
                        refine norm_ (a' := ?_) ?_ ?_
                        rotate_left
                        · simp only [putAll, Act.put, List.setIfInBounds_toArray, List.set_cons_zero, List.set_cons_succ]
                          rfl
                        refine one_ (i := 10) (N := some 25) #[true, true, true, true, true, true, true, true, true, true, true, true, true, false, true, true, true, true, false, true, false] rfl rfl (one_of HT_.out (by kernel_rfl)) (by decide) (fun K hK => ?_)
                        refine goes_ Try.func39 (by kernel_rfl) rfl #[.slice A20 y142.length c20] (by rfl) rfl rfl (by (try simp only [List.map_toArray, List.map_cons, List.map_nil]); first | done | rfl | (simp only [List.length_drop, List.length_take]; rfl)) ?_
                        with_reducible refine (winnowref03_Number.calls k _ _ y142 t147 _ ?side1 ?side2 A11.out).mono ?_
                        (case side1 => repeat (first | exact (Kd.V_reads' HO146.out).2.2 | (with_reducible refine Kd.C_alloc ?_ _) | (with_reducible refine Kd.C_drewN ?_ _) | (with_reducible refine Kd.C_drew ?_)))
                        (case side2 => exact (Kd.V_reads' HO146.out).2.1)
                        rintro e w' ⟨rfl, ⟨nd, rfl⟩⟩
                        refine ⟨_, rfl, ?_⟩
                        refine hK.out _ _ (hHeld) (fun hHeld => ?_)
                        clear hK K
                        refine norm_ (a' := ?_) ?_ ?_
                        rotate_left
                        · show Act.put _ (some 25) _ = _
                          simp only [Act.put, List.setIfInBounds_toArray, List.set_cons_zero, List.set_cons_succ, i64_w, i32_w]
                          rfl
                        exact norm_ (by first | (simp only [putAll, Act.put, List.setIfInBounds_toArray, List.set_cons_zero, List.set_cons_succ]; done) | (simp only [putAll, Act.put, List.setIfInBounds_toArray, List.set_cons_zero, List.set_cons_succ]; rfl)) (hJ1_4_7_10_19 (gb155) _ ⟨hHeld, (by (with_reducible repeat (first | apply Kd.V_alloc | apply Kd.V_drewN | apply Kd.V_drew)); exact HO0.out), (by (with_reducible repeat (first | apply Kd.V_alloc | apply Kd.V_drewN | apply Kd.V_drew)); exact HO134.out), (by (with_reducible repeat (first | apply Kd.V_alloc | apply Kd.V_drewN | apply Kd.V_drew)); exact HO140.out), (by (with_reducible repeat (first | apply Kd.V_alloc | apply Kd.V_drewN | apply Kd.V_drew)); exact HO146.out), (by (with_reducible repeat (first | apply Kd.V_alloc | apply Kd.V_drewN | apply Kd.V_drew)); exact HO152.out), (by (with_reducible repeat (first | refine blk_drewN ?_ _ | refine blk_drew ?_ | refine blk_alloc ?_ _)); exact BK128.out), (by (with_reducible repeat (first | refine blk_drewN ?_ _ | refine blk_drew ?_ | refine blk_alloc ?_ _)); exact BK155.out), GW155.out, GE155.out, NB128_155.out, NB155_128.out, (by repeat (first | (with_reducible first | exact HB.out | apply below_alloc | apply pw_below_drewN | apply below_drew1 | refine below_set ?_ GE128.out | refine below_set ?_ GE155.out) | exact HB.out))⟩)
                    · skip
                      rintro _ w22 ⟨hS_, h0_, h1_, h2_, h3_, h4_, h5_, h6_⟩
                      have n0_ : Aside0 (Kd.V (Kd.int .u8) 5 w22 w.heap.size (fun k_ => (P0_ k_ ∨ w.heap.size ≤ k_) ∧ k_ ≠ gb128) (.slice (some ad154) l0.length c0) l0) := ⟨h0_⟩
                      have n1_ : Aside0 (Kd.V (Kd.int .u8) 5 w22 w.heap.size (fun k_ => (P0_ k_ ∨ w.heap.size ≤ k_) ∧ k_ ≠ gb128) (.slice A18 y130.length c18) y130) := ⟨h1_⟩
                      have n2_ : Aside0 (Kd.V (Kd.int .u8) 5 w22 w.heap.size (fun k_ => (P0_ k_ ∨ w.heap.size ≤ k_) ∧ k_ ≠ gb128) (.slice A19 y136.length c19) y136) := ⟨h2_⟩
                      have n3_ : Aside0 (Kd.V (Kd.int .u8) 5 w22 w.heap.size (fun k_ => (P0_ k_ ∨ w.heap.size ≤ k_) ∧ k_ ≠ gb128) (.slice A20 y142.length c20) y142) := ⟨h3_⟩
                      have n4_ : Aside0 (Kd.V (Kd.int .u8) 5 w22 w.heap.size (fun k_ => (P0_ k_ ∨ w.heap.size ≤ k_) ∧ k_ ≠ gb128) (.slice A21 y148.length c21) y148) := ⟨h4_⟩
                      have n5_ : Aside0 (w22.heap[gb128]? = some (.cells #[.int .u64 0, .int .u64 0, .int .u64 0, .int .u64 0, .int .u64 0, .string (⟨#[]⟩ : ByteArray), .string (⟨#[]⟩ : ByteArray), .bool false] 28 (0, 0))) := ⟨h5_⟩
                      have n6_ : Aside0 (Below w.heap.size w w22) := ⟨h6_⟩
                      clear HO0
                      clear BK128
                      clear HB
                      clear h0_ h1_ h2_ h3_ h4_ h5_ h6_
                      have HO0 := n0_
                      have HO134 := n1_
                      have HO140 := n2_
                      have HO146 := n3_
                      have HO152 := n4_
                      have BK128 := n5_
                      have HB := n6_
                      clear n0_ n1_ n2_ n3_ n4_ n5_ n6_
                      have hHeld : w22.cell? ⟨ad154.block, ad154.off + 40, none⟩ = some (.int .u8 (rd l0 40)) := hS_
                      refine norm_ (a' := ?_) ?_ ?_
                      rotate_left
                      · simp only [putAll, Act.put, List.setIfInBounds_toArray, List.set_cons_zero, List.set_cons_succ]
                        rfl
                      refine two_ (i := 13) (j := 19) (Ni := some 28) (Nj := some 5) #[true, true, true, true, true, true, true, true, true, true, true, true, true, true, true, true, true, true, false, false, false] #[true, true, true, true, true, true, true, true, true, true, true, true, true, false, true, true, true, true, false, true, false] rfl rfl rfl rfl (two_of HT_.out (by kernel_rfl)) (by decide) (by decide) (fun K hK => ?_) (fun K hK => ?_)
                      · skip
                        refine goes_ Try.func39 (by kernel_rfl) rfl #[.slice A21 y148.length c21] (by rfl) rfl rfl (by (try simp only [List.map_toArray, List.map_cons, List.map_nil]); first | done | rfl | (simp only [List.length_drop, List.length_take]; rfl)) ?_
                        with_reducible refine (winnowref03_Number.calls k _ _ y148 t153 _ ?side1 ?side2 A13.out).mono ?_
                        (case side1 => repeat (first | exact (Kd.V_reads' HO152.out).2.2 | (with_reducible refine Kd.C_alloc ?_ _) | (with_reducible refine Kd.C_drewN ?_ _) | (with_reducible refine Kd.C_drew ?_)))
                        (case side2 => exact (Kd.V_reads' HO152.out).2.1)
                        rintro e w' ⟨rfl, ⟨nd, rfl⟩⟩
                        refine ⟨_, rfl, ?_⟩
                        refine hK.out _ _ (hHeld) (fun hHeld => ?_)
                        clear hK K
                        refine norm_ (a' := ?_) ?_ ?_
                        rotate_left
                        · show Act.put _ (some 28) _ = _
                          simp only [Act.put, List.setIfInBounds_toArray, List.set_cons_zero, List.set_cons_succ, i64_w, i32_w]
                          rfl
                        refine pure_ (i := 18) (N := some 33) (v := ?_) (a' := ?_) #[true, true, true, true, true, true, true, true, true, true, true, true, true, true, true, true, true, true, true, false, false] rfl rfl (any_of HT_.out (by kernel_rfl)) (fun _ _ _ h => h) (Or.inl ⟨by rfl, ?_⟩) ?_ ?_
                        rotate_left
                        · intro w'
                          go_simp
                          with_reducible rfl
                        rotate_left
                        · simp only [Act.put, List.setIfInBounds_toArray, List.set_cons_zero, List.set_cons_succ, i64_w, i32_w]
                          rfl
                        exact norm_ (by first | (simp only [putAll, Act.put, List.setIfInBounds_toArray, List.set_cons_zero, List.set_cons_succ]; done) | (simp only [putAll, Act.put, List.setIfInBounds_toArray, List.set_cons_zero, List.set_cons_succ]; rfl)) (hJ1_4_7_10_13 () _ ⟨hHeld, (by (with_reducible repeat (first | apply Kd.V_alloc | apply Kd.V_drewN | apply Kd.V_drew)); exact HO0.out), (by (with_reducible repeat (first | apply Kd.V_alloc | apply Kd.V_drewN | apply Kd.V_drew)); exact HO134.out), (by (with_reducible repeat (first | apply Kd.V_alloc | apply Kd.V_drewN | apply Kd.V_drew)); exact HO140.out), (by (with_reducible repeat (first | apply Kd.V_alloc | apply Kd.V_drewN | apply Kd.V_drew)); exact HO146.out), (by (with_reducible repeat (first | apply Kd.V_alloc | apply Kd.V_drewN | apply Kd.V_drew)); exact HO152.out), (by (with_reducible repeat (first | refine blk_drewN ?_ _ | refine blk_drew ?_ | refine blk_alloc ?_ _)); exact BK128.out), (by repeat (first | (with_reducible first | exact HB.out | apply below_alloc | apply pw_below_drewN | apply below_drew1 | refine below_set ?_ GE128.out) | exact HB.out))⟩)
                      · skip
                        refine box_step ?hg (N := 5) ?hd (cs := #[.int .u64 0, .int .u64 0, .int .u64 0, .int .u64 0, .int .u64 0, .string (⟨#[]⟩ : ByteArray), .string (⟨#[]⟩ : ByteArray), .bool false]) (t := 28) ?hr ?_; (case hd => rfl); (case hg => rfl); (case hr => first | (go_simp; done) | (go_simp; rfl))
                        intro gb155 hg w23 hbox hb
                        have HS0_ := (hb.cell (World.block_lt_of_cell? _ _ (hHeld))).trans (hHeld)
                        have n0_ := Aside0.mk (Kd.V_below (Kd.V_elderB (by (with_reducible repeat (first | apply Kd.V_alloc | apply Kd.V_drewN | apply Kd.V_drew)); exact HO0.out) gb155 (Nat.le_of_eq hg.symm)) hb)
                        have n1_ := Aside0.mk (Kd.V_below (Kd.V_elderB (by (with_reducible repeat (first | apply Kd.V_alloc | apply Kd.V_drewN | apply Kd.V_drew)); exact HO134.out) gb155 (Nat.le_of_eq hg.symm)) hb)
                        have n2_ := Aside0.mk (Kd.V_below (Kd.V_elderB (by (with_reducible repeat (first | apply Kd.V_alloc | apply Kd.V_drewN | apply Kd.V_drew)); exact HO140.out) gb155 (Nat.le_of_eq hg.symm)) hb)
                        have n3_ := Aside0.mk (Kd.V_below (Kd.V_elderB (by (with_reducible repeat (first | apply Kd.V_alloc | apply Kd.V_drewN | apply Kd.V_drew)); exact HO146.out) gb155 (Nat.le_of_eq hg.symm)) hb)
                        have n4_ := Aside0.mk (Kd.V_below (Kd.V_elderB (by (with_reducible repeat (first | apply Kd.V_alloc | apply Kd.V_drewN | apply Kd.V_drew)); exact HO152.out) gb155 (Nat.le_of_eq hg.symm)) hb)
                        have n5_ := Aside0.mk (blk_below (g := gb128) (o := .cells #[.int .u64 0, .int .u64 0, .int .u64 0, .int .u64 0, .int .u64 0, .string (⟨#[]⟩ : ByteArray), .string (⟨#[]⟩ : ByteArray), .bool false] 28 (0, 0)) (by (with_reducible repeat (first | refine blk_drewN ?_ _ | refine blk_drew ?_ | refine blk_alloc ?_ _)); exact BK128.out) hb)
                        have n6_ := Aside0.mk (below_step (by repeat (first | (with_reducible first | exact HB.out | apply below_alloc | apply pw_below_drewN | apply below_drew1 | refine below_set ?_ GE128.out) | exact HB.out)) hb)
                        have n7_ := Aside0.mk (hbox)
                        have n8_ := Aside0.mk ((by rw [hg]; exact (below_size (by repeat (first | (with_reducible first | exact HB.out | apply below_alloc | apply pw_below_drewN | apply below_drew1 | refine below_set ?_ GE128.out) | exact HB.out))) : w.heap.size ≤ gb155))
                        have n9_ := Aside0.mk ((by rw [hg]; exact (below_size (by repeat (first | (with_reducible first | exact HB.out | apply below_alloc | apply pw_below_drewN | apply below_drew1 | refine below_set ?_ GE128.out) | exact HB.out))) : w.heap.size ≤ gb155))
                        have n10_ := Aside0.mk ((by rw [hg]; exact Nat.ne_of_lt (blk_lt (g := gb128) (o := .cells #[.int .u64 0, .int .u64 0, .int .u64 0, .int .u64 0, .int .u64 0, .string (⟨#[]⟩ : ByteArray), .string (⟨#[]⟩ : ByteArray), .bool false] 28 (0, 0)) (by (with_reducible repeat (first | refine blk_drewN ?_ _ | refine blk_drew ?_ | refine blk_alloc ?_ _)); exact BK128.out)) : gb128 ≠ gb155))
                        have n11_ := Aside0.mk ((by rw [hg]; exact Nat.ne_of_gt (blk_lt (g := gb128) (o := .cells #[.int .u64 0, .int .u64 0, .int .u64 0, .int .u64 0, .int .u64 0, .string (⟨#[]⟩ : ByteArray), .string (⟨#[]⟩ : ByteArray), .bool false] 28 (0, 0)) (by (with_reducible repeat (first | refine blk_drewN ?_ _ | refine blk_drew ?_ | refine blk_alloc ?_ _)); exact BK128.out)) : gb155 ≠ gb128))
                        clear HO0
                        clear HO134
                        clear HO140
                        clear HO146
                        clear HO152
                        clear BK128
                        clear HB
                        have HO0 := n0_
                        have HO134 := n1_
                        have HO140 := n2_
                        have HO146 := n3_
                        have HO152 := n4_
                        have BK128 := n5_
                        have HB := n6_
                        have BK155 := n7_
                        have GW155 := n8_
                        have GE155 := n9_
                        have NB128_155 := n10_
                        have NB155_128 := n11_
                        clear n0_ n1_ n2_ n3_ n4_ n5_ n6_ n7_ n8_ n9_ n10_ n11_
                        clear hb hbox hg
                        refine hK.out _ _ (HS0_) (fun hHeld => ?_)
                        clear hK K
                        refine norm_ (a' := ?_) ?_ ?_
                        rotate_left
                        · show Act.put _ (some 5) _ = _
                          simp only [Act.put, List.setIfInBounds_toArray, List.set_cons_zero, List.set_cons_succ, i64_w, i32_w]
                          rfl
                        exact norm_ (by first | (simp only [putAll, Act.put, List.setIfInBounds_toArray, List.set_cons_zero, List.set_cons_succ]; done) | (simp only [putAll, Act.put, List.setIfInBounds_toArray, List.set_cons_zero, List.set_cons_succ]; rfl)) (hJ1_4_7_10_19 (gb155) _ ⟨hHeld, (by (with_reducible repeat (first | apply Kd.V_alloc | apply Kd.V_drewN | apply Kd.V_drew)); exact Kd.V_mono HO0.out (fun _ hk => ⟨hk.1.1, ⟨hk.1.2, hk.2⟩⟩)), (by (with_reducible repeat (first | apply Kd.V_alloc | apply Kd.V_drewN | apply Kd.V_drew)); exact Kd.V_mono HO134.out (fun _ hk => ⟨hk.1.1, ⟨hk.1.2, hk.2⟩⟩)), (by (with_reducible repeat (first | apply Kd.V_alloc | apply Kd.V_drewN | apply Kd.V_drew)); exact Kd.V_mono HO140.out (fun _ hk => ⟨hk.1.1, ⟨hk.1.2, hk.2⟩⟩)), (by (with_reducible repeat (first | apply Kd.V_alloc | apply Kd.V_drewN | apply Kd.V_drew)); exact Kd.V_mono HO146.out (fun _ hk => ⟨hk.1.1, ⟨hk.1.2, hk.2⟩⟩)), (by (with_reducible repeat (first | apply Kd.V_alloc | apply Kd.V_drewN | apply Kd.V_drew)); exact Kd.V_mono HO152.out (fun _ hk => ⟨hk.1.1, ⟨hk.1.2, hk.2⟩⟩)), (by (with_reducible repeat (first | refine blk_drewN ?_ _ | refine blk_drew ?_ | refine blk_alloc ?_ _)); exact BK128.out), (by (with_reducible repeat (first | refine blk_drewN ?_ _ | refine blk_drew ?_ | refine blk_alloc ?_ _)); exact BK155.out), GW155.out, GE155.out, NB128_155.out, NB155_128.out, (by repeat (first | (with_reducible first | exact HB.out | apply below_alloc | apply pw_below_drewN | apply below_drew1 | refine below_set ?_ GE128.out | refine below_set ?_ GE155.out) | exact HB.out))⟩)
                  · skip
                    rintro gb155 w23 ⟨hS_, h0_, h1_, h2_, h3_, h4_, h5_, h6_, h7_, h8_, h9_, h10_, h11_⟩
                    have n0_ : Aside0 (Kd.V (Kd.int .u8) 5 w23 w.heap.size (fun k_ => (P0_ k_ ∨ w.heap.size ≤ k_) ∧ k_ ≠ gb128 ∧ k_ ≠ gb155) (.slice (some ad154) l0.length c0) l0) := ⟨h0_⟩
                    have n1_ : Aside0 (Kd.V (Kd.int .u8) 5 w23 w.heap.size (fun k_ => (P0_ k_ ∨ w.heap.size ≤ k_) ∧ k_ ≠ gb128 ∧ k_ ≠ gb155) (.slice A18 y130.length c18) y130) := ⟨h1_⟩
                    have n2_ : Aside0 (Kd.V (Kd.int .u8) 5 w23 w.heap.size (fun k_ => (P0_ k_ ∨ w.heap.size ≤ k_) ∧ k_ ≠ gb128 ∧ k_ ≠ gb155) (.slice A19 y136.length c19) y136) := ⟨h2_⟩
                    have n3_ : Aside0 (Kd.V (Kd.int .u8) 5 w23 w.heap.size (fun k_ => (P0_ k_ ∨ w.heap.size ≤ k_) ∧ k_ ≠ gb128 ∧ k_ ≠ gb155) (.slice A20 y142.length c20) y142) := ⟨h3_⟩
                    have n4_ : Aside0 (Kd.V (Kd.int .u8) 5 w23 w.heap.size (fun k_ => (P0_ k_ ∨ w.heap.size ≤ k_) ∧ k_ ≠ gb128 ∧ k_ ≠ gb155) (.slice A21 y148.length c21) y148) := ⟨h4_⟩
                    have n5_ : Aside0 (w23.heap[gb128]? = some (.cells #[.int .u64 0, .int .u64 0, .int .u64 0, .int .u64 0, .int .u64 0, .string (⟨#[]⟩ : ByteArray), .string (⟨#[]⟩ : ByteArray), .bool false] 28 (0, 0))) := ⟨h5_⟩
                    have n6_ : Aside0 (w23.heap[gb155]? = some (.cells #[.int .u64 0, .int .u64 0, .int .u64 0, .int .u64 0, .int .u64 0, .string (⟨#[]⟩ : ByteArray), .string (⟨#[]⟩ : ByteArray), .bool false] 28 (0, 0))) := ⟨h6_⟩
                    have n7_ : Aside0 (w.heap.size ≤ gb155) := ⟨h7_⟩
                    have n8_ : Aside0 (w.heap.size ≤ gb155) := ⟨h8_⟩
                    have n9_ : Aside0 (gb128 ≠ gb155) := ⟨h9_⟩
                    have n10_ : Aside0 (gb155 ≠ gb128) := ⟨h10_⟩
                    have n11_ : Aside0 (Below w.heap.size w w23) := ⟨h11_⟩
                    clear HO0
                    clear BK128
                    clear HB
                    clear h0_ h1_ h2_ h3_ h4_ h5_ h6_ h7_ h8_ h9_ h10_ h11_
                    have HO0 := n0_
                    have HO134 := n1_
                    have HO140 := n2_
                    have HO146 := n3_
                    have HO152 := n4_
                    have BK128 := n5_
                    have BK155 := n6_
                    have GW155 := n7_
                    have GE155 := n8_
                    have NB128_155 := n9_
                    have NB155_128 := n10_
                    have HB := n11_
                    clear n0_ n1_ n2_ n3_ n4_ n5_ n6_ n7_ n8_ n9_ n10_ n11_
                    have hHeld : w23.cell? ⟨ad154.block, ad154.off + 40, none⟩ = some (.int .u8 (rd l0 40)) := hS_
                    refine norm_ (a' := ?_) ?_ ?_
                    rotate_left
                    · simp only [putAll, Act.put, List.setIfInBounds_toArray, List.set_cons_zero, List.set_cons_succ]
                      rfl
                    refine one_ (i := 13) (N := some 28) #[true, true, true, true, true, true, true, true, true, true, true, true, true, true, true, true, true, true, false, true, false] rfl rfl (one_of HT_.out (by kernel_rfl)) (by decide) (fun K hK => ?_)
                    refine goes_ Try.func39 (by kernel_rfl) rfl #[.slice A21 y148.length c21] (by rfl) rfl rfl (by (try simp only [List.map_toArray, List.map_cons, List.map_nil]); first | done | rfl | (simp only [List.length_drop, List.length_take]; rfl)) ?_
                    with_reducible refine (winnowref03_Number.calls k _ _ y148 t153 _ ?side1 ?side2 A13.out).mono ?_
                    (case side1 => repeat (first | exact (Kd.V_reads' HO152.out).2.2 | (with_reducible refine Kd.C_alloc ?_ _) | (with_reducible refine Kd.C_drewN ?_ _) | (with_reducible refine Kd.C_drew ?_)))
                    (case side2 => exact (Kd.V_reads' HO152.out).2.1)
                    rintro e w' ⟨rfl, ⟨nd, rfl⟩⟩
                    refine ⟨_, rfl, ?_⟩
                    refine hK.out _ _ (hHeld) (fun hHeld => ?_)
                    clear hK K
                    refine norm_ (a' := ?_) ?_ ?_
                    rotate_left
                    · show Act.put _ (some 28) _ = _
                      simp only [Act.put, List.setIfInBounds_toArray, List.set_cons_zero, List.set_cons_succ, i64_w, i32_w]
                      rfl
                    refine pure_ (i := 18) (N := some 33) (v := ?_) (a' := ?_) #[true, true, true, true, true, true, true, true, true, true, true, true, true, true, true, true, true, true, true, true, false] rfl rfl (any_of HT_.out (by kernel_rfl)) (fun _ _ _ h => h) (Or.inl ⟨by rfl, ?_⟩) ?_ ?_
                    rotate_left
                    · intro w'
                      go_simp
                      with_reducible rfl
                    rotate_left
                    · simp only [Act.put, List.setIfInBounds_toArray, List.set_cons_zero, List.set_cons_succ, i64_w, i32_w]
                      rfl
                    exact norm_ (by first | (simp only [putAll, Act.put, List.setIfInBounds_toArray, List.set_cons_zero, List.set_cons_succ]; done) | (simp only [putAll, Act.put, List.setIfInBounds_toArray, List.set_cons_zero, List.set_cons_succ]; rfl)) (hJ1_4_7_10_13_19 (gb155) _ ⟨hHeld, (by (with_reducible repeat (first | apply Kd.V_alloc | apply Kd.V_drewN | apply Kd.V_drew)); exact HO0.out), (by (with_reducible repeat (first | apply Kd.V_alloc | apply Kd.V_drewN | apply Kd.V_drew)); exact HO134.out), (by (with_reducible repeat (first | apply Kd.V_alloc | apply Kd.V_drewN | apply Kd.V_drew)); exact HO140.out), (by (with_reducible repeat (first | apply Kd.V_alloc | apply Kd.V_drewN | apply Kd.V_drew)); exact HO146.out), (by (with_reducible repeat (first | apply Kd.V_alloc | apply Kd.V_drewN | apply Kd.V_drew)); exact HO152.out), (by (with_reducible repeat (first | refine blk_drewN ?_ _ | refine blk_drew ?_ | refine blk_alloc ?_ _)); exact BK128.out), (by (with_reducible repeat (first | refine blk_drewN ?_ _ | refine blk_drew ?_ | refine blk_alloc ?_ _)); exact BK155.out), GW155.out, GE155.out, NB128_155.out, NB155_128.out, (by repeat (first | (with_reducible first | exact HB.out | apply below_alloc | apply pw_below_drewN | apply below_drew1 | refine below_set ?_ GE128.out | refine below_set ?_ GE155.out) | exact HB.out))⟩)
                · skip
                  rintro _ w22 ⟨hS_, h0_, h1_, h2_, h3_, h4_, h5_, h6_⟩
                  have n0_ : Aside0 (Kd.V (Kd.int .u8) 5 w22 w.heap.size (fun k_ => (P0_ k_ ∨ w.heap.size ≤ k_) ∧ k_ ≠ gb128) (.slice (some ad154) l0.length c0) l0) := ⟨h0_⟩
                  have n1_ : Aside0 (Kd.V (Kd.int .u8) 5 w22 w.heap.size (fun k_ => (P0_ k_ ∨ w.heap.size ≤ k_) ∧ k_ ≠ gb128) (.slice A18 y130.length c18) y130) := ⟨h1_⟩
                  have n2_ : Aside0 (Kd.V (Kd.int .u8) 5 w22 w.heap.size (fun k_ => (P0_ k_ ∨ w.heap.size ≤ k_) ∧ k_ ≠ gb128) (.slice A19 y136.length c19) y136) := ⟨h2_⟩
                  have n3_ : Aside0 (Kd.V (Kd.int .u8) 5 w22 w.heap.size (fun k_ => (P0_ k_ ∨ w.heap.size ≤ k_) ∧ k_ ≠ gb128) (.slice A20 y142.length c20) y142) := ⟨h3_⟩
                  have n4_ : Aside0 (Kd.V (Kd.int .u8) 5 w22 w.heap.size (fun k_ => (P0_ k_ ∨ w.heap.size ≤ k_) ∧ k_ ≠ gb128) (.slice A21 y148.length c21) y148) := ⟨h4_⟩
                  have n5_ : Aside0 (w22.heap[gb128]? = some (.cells #[.int .u64 0, .int .u64 0, .int .u64 0, .int .u64 0, .int .u64 0, .string (⟨#[]⟩ : ByteArray), .string (⟨#[]⟩ : ByteArray), .bool false] 28 (0, 0))) := ⟨h5_⟩
                  have n6_ : Aside0 (Below w.heap.size w w22) := ⟨h6_⟩
                  clear HO0
                  clear BK128
                  clear HB
                  clear h0_ h1_ h2_ h3_ h4_ h5_ h6_
                  have HO0 := n0_
                  have HO134 := n1_
                  have HO140 := n2_
                  have HO146 := n3_
                  have HO152 := n4_
                  have BK128 := n5_
                  have HB := n6_
                  clear n0_ n1_ n2_ n3_ n4_ n5_ n6_
                  have hHeld : w22.cell? ⟨ad154.block, ad154.off + 40, none⟩ = some (.int .u8 (rd l0 40)) := hS_
                  refine norm_ (a' := ?_) ?_ ?_
                  rotate_left
                  · simp only [putAll, Act.put, List.setIfInBounds_toArray, List.set_cons_zero, List.set_cons_succ]
                    rfl
                  refine one_ (i := 19) (N := some 5) #[true, true, true, true, true, true, true, true, true, true, true, true, true, true, true, true, true, true, true, true, false] rfl rfl (one_of HT_.out (by kernel_rfl)) (by decide) (fun K hK => ?_)
                  refine box_step ?hg (N := 5) ?hd (cs := #[.int .u64 0, .int .u64 0, .int .u64 0, .int .u64 0, .int .u64 0, .string (⟨#[]⟩ : ByteArray), .string (⟨#[]⟩ : ByteArray), .bool false]) (t := 28) ?hr ?_; (case hd => rfl); (case hg => rfl); (case hr => first | (go_simp; done) | (go_simp; rfl))
                  intro gb155 hg w23 hbox hb
                  have HS0_ := (hb.cell (World.block_lt_of_cell? _ _ (hHeld))).trans (hHeld)
                  have n0_ := Aside0.mk (Kd.V_below (Kd.V_elderB (by (with_reducible repeat (first | apply Kd.V_alloc | apply Kd.V_drewN | apply Kd.V_drew)); exact HO0.out) gb155 (Nat.le_of_eq hg.symm)) hb)
                  have n1_ := Aside0.mk (Kd.V_below (Kd.V_elderB (by (with_reducible repeat (first | apply Kd.V_alloc | apply Kd.V_drewN | apply Kd.V_drew)); exact HO134.out) gb155 (Nat.le_of_eq hg.symm)) hb)
                  have n2_ := Aside0.mk (Kd.V_below (Kd.V_elderB (by (with_reducible repeat (first | apply Kd.V_alloc | apply Kd.V_drewN | apply Kd.V_drew)); exact HO140.out) gb155 (Nat.le_of_eq hg.symm)) hb)
                  have n3_ := Aside0.mk (Kd.V_below (Kd.V_elderB (by (with_reducible repeat (first | apply Kd.V_alloc | apply Kd.V_drewN | apply Kd.V_drew)); exact HO146.out) gb155 (Nat.le_of_eq hg.symm)) hb)
                  have n4_ := Aside0.mk (Kd.V_below (Kd.V_elderB (by (with_reducible repeat (first | apply Kd.V_alloc | apply Kd.V_drewN | apply Kd.V_drew)); exact HO152.out) gb155 (Nat.le_of_eq hg.symm)) hb)
                  have n5_ := Aside0.mk (blk_below (g := gb128) (o := .cells #[.int .u64 0, .int .u64 0, .int .u64 0, .int .u64 0, .int .u64 0, .string (⟨#[]⟩ : ByteArray), .string (⟨#[]⟩ : ByteArray), .bool false] 28 (0, 0)) (by (with_reducible repeat (first | refine blk_drewN ?_ _ | refine blk_drew ?_ | refine blk_alloc ?_ _)); exact BK128.out) hb)
                  have n6_ := Aside0.mk (below_step (by repeat (first | (with_reducible first | exact HB.out | apply below_alloc | apply pw_below_drewN | apply below_drew1 | refine below_set ?_ GE128.out) | exact HB.out)) hb)
                  have n7_ := Aside0.mk (hbox)
                  have n8_ := Aside0.mk ((by rw [hg]; exact (below_size (by repeat (first | (with_reducible first | exact HB.out | apply below_alloc | apply pw_below_drewN | apply below_drew1 | refine below_set ?_ GE128.out) | exact HB.out))) : w.heap.size ≤ gb155))
                  have n9_ := Aside0.mk ((by rw [hg]; exact (below_size (by repeat (first | (with_reducible first | exact HB.out | apply below_alloc | apply pw_below_drewN | apply below_drew1 | refine below_set ?_ GE128.out) | exact HB.out))) : w.heap.size ≤ gb155))
                  have n10_ := Aside0.mk ((by rw [hg]; exact Nat.ne_of_lt (blk_lt (g := gb128) (o := .cells #[.int .u64 0, .int .u64 0, .int .u64 0, .int .u64 0, .int .u64 0, .string (⟨#[]⟩ : ByteArray), .string (⟨#[]⟩ : ByteArray), .bool false] 28 (0, 0)) (by (with_reducible repeat (first | refine blk_drewN ?_ _ | refine blk_drew ?_ | refine blk_alloc ?_ _)); exact BK128.out)) : gb128 ≠ gb155))
                  have n11_ := Aside0.mk ((by rw [hg]; exact Nat.ne_of_gt (blk_lt (g := gb128) (o := .cells #[.int .u64 0, .int .u64 0, .int .u64 0, .int .u64 0, .int .u64 0, .string (⟨#[]⟩ : ByteArray), .string (⟨#[]⟩ : ByteArray), .bool false] 28 (0, 0)) (by (with_reducible repeat (first | refine blk_drewN ?_ _ | refine blk_drew ?_ | refine blk_alloc ?_ _)); exact BK128.out)) : gb155 ≠ gb128))
                  clear HO0
                  clear HO134
                  clear HO140
                  clear HO146
                  clear HO152
                  clear BK128
                  clear HB
                  have HO0 := n0_
                  have HO134 := n1_
                  have HO140 := n2_
                  have HO146 := n3_
                  have HO152 := n4_
                  have BK128 := n5_
                  have HB := n6_
                  have BK155 := n7_
                  have GW155 := n8_
                  have GE155 := n9_
                  have NB128_155 := n10_
                  have NB155_128 := n11_
                  clear n0_ n1_ n2_ n3_ n4_ n5_ n6_ n7_ n8_ n9_ n10_ n11_
                  clear hb hbox hg
                  refine hK.out _ _ (HS0_) (fun hHeld => ?_)
                  clear hK K
                  refine norm_ (a' := ?_) ?_ ?_
                  rotate_left
                  · show Act.put _ (some 5) _ = _
                    simp only [Act.put, List.setIfInBounds_toArray, List.set_cons_zero, List.set_cons_succ, i64_w, i32_w]
                    rfl
                  exact norm_ (by first | (simp only [putAll, Act.put, List.setIfInBounds_toArray, List.set_cons_zero, List.set_cons_succ]; done) | (simp only [putAll, Act.put, List.setIfInBounds_toArray, List.set_cons_zero, List.set_cons_succ]; rfl)) (hJ1_4_7_10_13_19 (gb155) _ ⟨hHeld, (by (with_reducible repeat (first | apply Kd.V_alloc | apply Kd.V_drewN | apply Kd.V_drew)); exact Kd.V_mono HO0.out (fun _ hk => ⟨hk.1.1, ⟨hk.1.2, hk.2⟩⟩)), (by (with_reducible repeat (first | apply Kd.V_alloc | apply Kd.V_drewN | apply Kd.V_drew)); exact Kd.V_mono HO134.out (fun _ hk => ⟨hk.1.1, ⟨hk.1.2, hk.2⟩⟩)), (by (with_reducible repeat (first | apply Kd.V_alloc | apply Kd.V_drewN | apply Kd.V_drew)); exact Kd.V_mono HO140.out (fun _ hk => ⟨hk.1.1, ⟨hk.1.2, hk.2⟩⟩)), (by (with_reducible repeat (first | apply Kd.V_alloc | apply Kd.V_drewN | apply Kd.V_drew)); exact Kd.V_mono HO146.out (fun _ hk => ⟨hk.1.1, ⟨hk.1.2, hk.2⟩⟩)), (by (with_reducible repeat (first | apply Kd.V_alloc | apply Kd.V_drewN | apply Kd.V_drew)); exact Kd.V_mono HO152.out (fun _ hk => ⟨hk.1.1, ⟨hk.1.2, hk.2⟩⟩)), (by (with_reducible repeat (first | refine blk_drewN ?_ _ | refine blk_drew ?_ | refine blk_alloc ?_ _)); exact BK128.out), (by (with_reducible repeat (first | refine blk_drewN ?_ _ | refine blk_drew ?_ | refine blk_alloc ?_ _)); exact BK155.out), GW155.out, GE155.out, NB128_155.out, NB155_128.out, (by repeat (first | (with_reducible first | exact HB.out | apply below_alloc | apply pw_below_drewN | apply below_drew1 | refine below_set ?_ GE128.out | refine below_set ?_ GE155.out) | exact HB.out))⟩)
              rintro gb155 w23 ⟨hS_, h0_, h1_, h2_, h3_, h4_, h5_, h6_, h7_, h8_, h9_, h10_, h11_⟩
              have n0_ : Aside0 (Kd.V (Kd.int .u8) 5 w23 w.heap.size (fun k_ => (P0_ k_ ∨ w.heap.size ≤ k_) ∧ k_ ≠ gb128 ∧ k_ ≠ gb155) (.slice (some ad154) l0.length c0) l0) := ⟨h0_⟩
              have n1_ : Aside0 (Kd.V (Kd.int .u8) 5 w23 w.heap.size (fun k_ => (P0_ k_ ∨ w.heap.size ≤ k_) ∧ k_ ≠ gb128 ∧ k_ ≠ gb155) (.slice A18 y130.length c18) y130) := ⟨h1_⟩
              have n2_ : Aside0 (Kd.V (Kd.int .u8) 5 w23 w.heap.size (fun k_ => (P0_ k_ ∨ w.heap.size ≤ k_) ∧ k_ ≠ gb128 ∧ k_ ≠ gb155) (.slice A19 y136.length c19) y136) := ⟨h2_⟩
              have n3_ : Aside0 (Kd.V (Kd.int .u8) 5 w23 w.heap.size (fun k_ => (P0_ k_ ∨ w.heap.size ≤ k_) ∧ k_ ≠ gb128 ∧ k_ ≠ gb155) (.slice A20 y142.length c20) y142) := ⟨h3_⟩
              have n4_ : Aside0 (Kd.V (Kd.int .u8) 5 w23 w.heap.size (fun k_ => (P0_ k_ ∨ w.heap.size ≤ k_) ∧ k_ ≠ gb128 ∧ k_ ≠ gb155) (.slice A21 y148.length c21) y148) := ⟨h4_⟩
              have n5_ : Aside0 (w23.heap[gb128]? = some (.cells #[.int .u64 0, .int .u64 0, .int .u64 0, .int .u64 0, .int .u64 0, .string (⟨#[]⟩ : ByteArray), .string (⟨#[]⟩ : ByteArray), .bool false] 28 (0, 0))) := ⟨h5_⟩
              have n6_ : Aside0 (w23.heap[gb155]? = some (.cells #[.int .u64 0, .int .u64 0, .int .u64 0, .int .u64 0, .int .u64 0, .string (⟨#[]⟩ : ByteArray), .string (⟨#[]⟩ : ByteArray), .bool false] 28 (0, 0))) := ⟨h6_⟩
              have n7_ : Aside0 (w.heap.size ≤ gb155) := ⟨h7_⟩
              have n8_ : Aside0 (w.heap.size ≤ gb155) := ⟨h8_⟩
              have n9_ : Aside0 (gb128 ≠ gb155) := ⟨h9_⟩
              have n10_ : Aside0 (gb155 ≠ gb128) := ⟨h10_⟩
              have n11_ : Aside0 (Below w.heap.size w w23) := ⟨h11_⟩
              clear HO0
              clear BK128
              clear HB
              clear h0_ h1_ h2_ h3_ h4_ h5_ h6_ h7_ h8_ h9_ h10_ h11_
              have HO0 := n0_
              have HO134 := n1_
              have HO140 := n2_
              have HO146 := n3_
              have HO152 := n4_
              have BK128 := n5_
              have BK155 := n6_
              have GW155 := n7_
              have GE155 := n8_
              have NB128_155 := n9_
              have NB155_128 := n10_
              have HB := n11_
              clear n0_ n1_ n2_ n3_ n4_ n5_ n6_ n7_ n8_ n9_ n10_ n11_
              have hHeld : w23.cell? ⟨ad154.block, ad154.off + 40, none⟩ = some (.int .u8 (rd l0 40)) := hS_
              refine norm_ (a' := ?_) ?_ ?_
              rotate_left
              · simp only [putAll, Act.put, List.setIfInBounds_toArray, List.set_cons_zero, List.set_cons_succ]
                rfl
              refine one_ (i := 20) (N := none) #[true, true, true, true, true, true, true, true, true, true, true, true, true, true, true, true, true, true, true, true, true] rfl rfl (one_of HT_.out (by kernel_rfl)) (by decide) (fun K hK => ?_)
              have hs24 : w23.cell? ⟨gb155, 0, none⟩ = some (.int .u64 0) := (blk_cell BK155.out 0).trans rfl
              have hfs24 := blk_frozen BK155.out 0
              have hns24_0 := NB128_155.out
              have hms24_0 := NB155_128.out
              have hs25 : w23.cell? ⟨gb155, 1, none⟩ = some (.int .u64 0) := (blk_cell BK155.out 1).trans rfl
              have hfs25 := blk_frozen BK155.out 1
              have hns25_0 := NB128_155.out
              have hms25_0 := NB155_128.out
              have hs26 : w23.cell? ⟨gb155, 2, none⟩ = some (.int .u64 0) := (blk_cell BK155.out 2).trans rfl
              have hfs26 := blk_frozen BK155.out 2
              have hns26_0 := NB128_155.out
              have hms26_0 := NB155_128.out
              have hs27 : w23.cell? ⟨gb155, 3, none⟩ = some (.int .u64 0) := (blk_cell BK155.out 3).trans rfl
              have hfs27 := blk_frozen BK155.out 3
              have hns27_0 := NB128_155.out
              have hms27_0 := NB155_128.out
              have hs28 : w23.cell? ⟨gb155, 4, none⟩ = some (.int .u64 0) := (blk_cell BK155.out 4).trans rfl
              have hfs28 := blk_frozen BK155.out 4
              have hns28_0 := NB128_155.out
              have hms28_0 := NB155_128.out
              have hs29 : w23.cell? ⟨gb155, 5, none⟩ = some (.string (⟨#[]⟩ : ByteArray)) := (blk_cell BK155.out 5).trans rfl
              have hfs29 := blk_frozen BK155.out 5
              have hns29_0 := NB128_155.out
              have hms29_0 := NB155_128.out
              have hs30 : w23.cell? ⟨gb155, 6, none⟩ = some (.string (⟨#[]⟩ : ByteArray)) := (blk_cell BK155.out 6).trans rfl
              have hfs30 := blk_frozen BK155.out 6
              have hns30_0 := NB128_155.out
              have hms30_0 := NB155_128.out
              have hs31 : w23.cell? ⟨gb155, 7, none⟩ = some (.bool false) := (blk_cell BK155.out 7).trans rfl
              have hfs31 := blk_frozen BK155.out 7
              have hns31_0 := NB128_155.out
              have hms31_0 := NB155_128.out
              refine skip_ (w1 := ?_) (by rfl) rfl ?_ ?_
              rotate_left
              · go_simp
                rfl
              refine hK.out _ _ (((cell_far (p := ⟨gb155, _, none⟩) (by first | exact (Nat.ne_of_lt (Nat.lt_of_lt_of_le HAB.out GE155.out)) | (rw [add_block]; exact (Nat.ne_of_lt (Nat.lt_of_lt_of_le HAB.out GE155.out))) | (show (Addr.add _ _).block ≠ _; rw [add_block]; exact (Nat.ne_of_lt (Nat.lt_of_lt_of_le HAB.out GE155.out))) | (dsimp only; exact (Nat.ne_of_lt (Nat.lt_of_lt_of_le HAB.out GE155.out)))) _).trans (((cell_far (p := ⟨gb155, _, none⟩) (by first | exact (Nat.ne_of_lt (Nat.lt_of_lt_of_le HAB.out GE155.out)) | (rw [add_block]; exact (Nat.ne_of_lt (Nat.lt_of_lt_of_le HAB.out GE155.out))) | (show (Addr.add _ _).block ≠ _; rw [add_block]; exact (Nat.ne_of_lt (Nat.lt_of_lt_of_le HAB.out GE155.out))) | (dsimp only; exact (Nat.ne_of_lt (Nat.lt_of_lt_of_le HAB.out GE155.out)))) _).trans (((cell_far (p := ⟨gb155, _, none⟩) (by first | exact (Nat.ne_of_lt (Nat.lt_of_lt_of_le HAB.out GE155.out)) | (rw [add_block]; exact (Nat.ne_of_lt (Nat.lt_of_lt_of_le HAB.out GE155.out))) | (show (Addr.add _ _).block ≠ _; rw [add_block]; exact (Nat.ne_of_lt (Nat.lt_of_lt_of_le HAB.out GE155.out))) | (dsimp only; exact (Nat.ne_of_lt (Nat.lt_of_lt_of_le HAB.out GE155.out)))) _).trans (((cell_far (p := ⟨gb155, _, none⟩) (by first | exact (Nat.ne_of_lt (Nat.lt_of_lt_of_le HAB.out GE155.out)) | (rw [add_block]; exact (Nat.ne_of_lt (Nat.lt_of_lt_of_le HAB.out GE155.out))) | (show (Addr.add _ _).block ≠ _; rw [add_block]; exact (Nat.ne_of_lt (Nat.lt_of_lt_of_le HAB.out GE155.out))) | (dsimp only; exact (Nat.ne_of_lt (Nat.lt_of_lt_of_le HAB.out GE155.out)))) _).trans (((cell_far (p := ⟨gb155, _, none⟩) (by first | exact (Nat.ne_of_lt (Nat.lt_of_lt_of_le HAB.out GE155.out)) | (rw [add_block]; exact (Nat.ne_of_lt (Nat.lt_of_lt_of_le HAB.out GE155.out))) | (show (Addr.add _ _).block ≠ _; rw [add_block]; exact (Nat.ne_of_lt (Nat.lt_of_lt_of_le HAB.out GE155.out))) | (dsimp only; exact (Nat.ne_of_lt (Nat.lt_of_lt_of_le HAB.out GE155.out)))) _).trans (((cell_far (p := ⟨gb155, _, none⟩) (by first | exact (Nat.ne_of_lt (Nat.lt_of_lt_of_le HAB.out GE155.out)) | (rw [add_block]; exact (Nat.ne_of_lt (Nat.lt_of_lt_of_le HAB.out GE155.out))) | (show (Addr.add _ _).block ≠ _; rw [add_block]; exact (Nat.ne_of_lt (Nat.lt_of_lt_of_le HAB.out GE155.out))) | (dsimp only; exact (Nat.ne_of_lt (Nat.lt_of_lt_of_le HAB.out GE155.out)))) _).trans (((cell_far (p := ⟨gb155, _, none⟩) (by first | exact (Nat.ne_of_lt (Nat.lt_of_lt_of_le HAB.out GE155.out)) | (rw [add_block]; exact (Nat.ne_of_lt (Nat.lt_of_lt_of_le HAB.out GE155.out))) | (show (Addr.add _ _).block ≠ _; rw [add_block]; exact (Nat.ne_of_lt (Nat.lt_of_lt_of_le HAB.out GE155.out))) | (dsimp only; exact (Nat.ne_of_lt (Nat.lt_of_lt_of_le HAB.out GE155.out)))) _).trans (((cell_far (p := ⟨gb155, _, none⟩) (by first | exact (Nat.ne_of_lt (Nat.lt_of_lt_of_le HAB.out GE155.out)) | (rw [add_block]; exact (Nat.ne_of_lt (Nat.lt_of_lt_of_le HAB.out GE155.out))) | (show (Addr.add _ _).block ≠ _; rw [add_block]; exact (Nat.ne_of_lt (Nat.lt_of_lt_of_le HAB.out GE155.out))) | (dsimp only; exact (Nat.ne_of_lt (Nat.lt_of_lt_of_le HAB.out GE155.out)))) _).trans (hHeld))))))))))))))))) (fun hHeld => ?_)
              clear hK K
              refine done_ (done_of HT_.out (by kernel_rfl)) ?_
              have p156 : 0 ≤ (40 : Int) := (by omega)
              have q156 : 40 < (l0.length : Int) := of_decide_eq_true (by first | (with_reducible assumption) | assumption)
              obtain ⟨ad156, e156, hx156_0⟩ := Kd.at_int (Kd.V_reads' HO0.out).2.2 40 p156 q156
              obtain rfl : ad154 = ad156 := (by injection e156)
              (try simp only [show (40 : Int).toNat = 40 from rfl, Nat.reduceMul, Nat.reduceEqDiff, Go.Addr.add, ↓reduceIte] at hx156_0)
              have qi156 : (40 < l0.length) = True := eq_true (by omega)
              (try rw [show ((40 : Int)).toNat = 40 from rfl] at hx156_0)
              have hn156_0 : ad154.block ≠ gb155 := (Nat.ne_of_lt (Nat.lt_of_lt_of_le HAB.out GE155.out))
              have hn156_1 : ad154.block ≠ gb155 := (Nat.ne_of_lt (Nat.lt_of_lt_of_le HAB.out GE155.out))
              have hn156_2 : ad154.block ≠ gb155 := (Nat.ne_of_lt (Nat.lt_of_lt_of_le HAB.out GE155.out))
              have hn156_3 : ad154.block ≠ gb155 := (Nat.ne_of_lt (Nat.lt_of_lt_of_le HAB.out GE155.out))
              have hn156_4 : ad154.block ≠ gb155 := (Nat.ne_of_lt (Nat.lt_of_lt_of_le HAB.out GE155.out))
              have hn156_5 : ad154.block ≠ gb155 := (Nat.ne_of_lt (Nat.lt_of_lt_of_le HAB.out GE155.out))
              have hn156_6 : ad154.block ≠ gb155 := (Nat.ne_of_lt (Nat.lt_of_lt_of_le HAB.out GE155.out))
              have hn156_7 : ad154.block ≠ gb155 := (Nat.ne_of_lt (Nat.lt_of_lt_of_le HAB.out GE155.out))
              replace hx156_0 := (cell_far (p := ⟨gb155, 0, none⟩) (by first | (rw [add_block]; exact hn156_0) | (show (Addr.add _ _).block ≠ _; rw [add_block]; exact hn156_0) | exact hn156_0) (.int .u64 t129)).trans hx156_0
              replace hx156_0 := (cell_far (p := ⟨gb155, 1, none⟩) (by first | (rw [add_block]; exact hn156_1) | (show (Addr.add _ _).block ≠ _; rw [add_block]; exact hn156_1) | exact hn156_1) (.int .u64 t135)).trans hx156_0
              replace hx156_0 := (cell_far (p := ⟨gb155, 2, none⟩) (by first | (rw [add_block]; exact hn156_2) | (show (Addr.add _ _).block ≠ _; rw [add_block]; exact hn156_2) | exact hn156_2) (.int .u64 t141)).trans hx156_0
              replace hx156_0 := (cell_far (p := ⟨gb155, 3, none⟩) (by first | (rw [add_block]; exact hn156_3) | (show (Addr.add _ _).block ≠ _; rw [add_block]; exact hn156_3) | exact hn156_3) (.int .u64 t147)).trans hx156_0
              replace hx156_0 := (cell_far (p := ⟨gb155, 4, none⟩) (by first | (rw [add_block]; exact hn156_4) | (show (Addr.add _ _).block ≠ _; rw [add_block]; exact hn156_4) | exact hn156_4) (.int .u64 t153)).trans hx156_0
              replace hx156_0 := (cell_far (p := ⟨gb155, 5, none⟩) (by first | (rw [add_block]; exact hn156_5) | (show (Addr.add _ _).block ≠ _; rw [add_block]; exact hn156_5) | exact hn156_5) (.string (⟨#[]⟩ : ByteArray))).trans hx156_0
              replace hx156_0 := (cell_far (p := ⟨gb155, 6, none⟩) (by first | (rw [add_block]; exact hn156_6) | (show (Addr.add _ _).block ≠ _; rw [add_block]; exact hn156_6) | exact hn156_6) (.string (⟨#[]⟩ : ByteArray))).trans hx156_0
              replace hx156_0 := (cell_far (p := ⟨gb155, 7, none⟩) (by first | (rw [add_block]; exact hn156_7) | (show (Addr.add _ _).block ≠ _; rw [add_block]; exact hn156_7) | exact hn156_7) (.bool ((rd l0 40) == 1))).trans hx156_0
              clear hn156_0
              clear hn156_1
              clear hn156_2
              clear hn156_3
              clear hn156_4
              clear hn156_5
              clear hn156_6
              clear hn156_7
              replace p156 := eq_true p156
              replace q156 := eq_true q156
              by_cases c15 : (rd l0 40) > 1
              · rw [if_pos c15] at H
                have c15b0 : decide (1 < (rd l0 40)) = true := decide_eq_true c15
                clear c15
                simp only [Option.some.injEq, Prod.mk.injEq] at H
                obtain ⟨rfl, rfl, rfl, rfl, rfl, rfl, rfl, rfl, rfl, rfl⟩ := H
                have hnb32 := NB128_155.out
                have hnc32 := NB155_128.out
                have hcz33_0 : w23.cell? ⟨gb128, 0, none⟩ = some (.int .u64 0) := (blk_cell BK128.out 0).trans rfl
                have hcz33_1 : w23.cell? ⟨gb128, 1, none⟩ = some (.int .u64 0) := (blk_cell BK128.out 1).trans rfl
                have hcz33_2 : w23.cell? ⟨gb128, 2, none⟩ = some (.int .u64 0) := (blk_cell BK128.out 2).trans rfl
                have hcz33_3 : w23.cell? ⟨gb128, 3, none⟩ = some (.int .u64 0) := (blk_cell BK128.out 3).trans rfl
                have hcz33_4 : w23.cell? ⟨gb128, 4, none⟩ = some (.int .u64 0) := (blk_cell BK128.out 4).trans rfl
                have hcz33_5 : w23.cell? ⟨gb128, 5, none⟩ = some (.string (⟨#[]⟩ : ByteArray)) := (blk_cell BK128.out 5).trans rfl
                have hcz33_6 : w23.cell? ⟨gb128, 6, none⟩ = some (.string (⟨#[]⟩ : ByteArray)) := (blk_cell BK128.out 6).trans rfl
                have hcz33_7 : w23.cell? ⟨gb128, 7, none⟩ = some (.bool false) := (blk_cell BK128.out 7).trans rfl
                have hfz33_0 := blk_frozen BK128.out 0
                have hfz33_1 := blk_frozen BK128.out 1
                have hfz33_2 := blk_frozen BK128.out 2
                have hfz33_3 := blk_frozen BK128.out 3
                have hfz33_4 := blk_frozen BK128.out 4
                have hfz33_5 := blk_frozen BK128.out 5
                have hfz33_6 := blk_frozen BK128.out 6
                have hfz33_7 := blk_frozen BK128.out 7
                try go_wp2
                refine bodyPost_ret (results_ctt rfl _ _ gb128 28 #[.int .u64 0, .int .u64 0, .int .u64 0, .int .u64 0, .int .u64 0, .string (⟨#[]⟩ : ByteArray), .string (⟨#[]⟩ : ByteArray), .bool false] (0, 0) _ rfl (by (with_reducible repeat (first | refine blk_drewN ?_ _ | refine blk_drew ?_ | refine blk_alloc ?_ _)); refine blk_put (cs := #[.int .u64 0, .int .u64 0, .int .u64 0, .int .u64 0, .int .u64 0, .string (⟨#[]⟩ : ByteArray), .string (⟨#[]⟩ : ByteArray), .bool false]) ?_ 7 _ rfl; (with_reducible repeat (first | refine blk_drewN ?_ _ | refine blk_drew ?_ | refine blk_alloc ?_ _)); refine blk_put (cs := #[.int .u64 0, .int .u64 0, .int .u64 0, .int .u64 0, .int .u64 0, .string (⟨#[]⟩ : ByteArray), .string (⟨#[]⟩ : ByteArray), .bool false]) ?_ 6 _ rfl; (with_reducible repeat (first | refine blk_drewN ?_ _ | refine blk_drew ?_ | refine blk_alloc ?_ _)); refine blk_put (cs := #[.int .u64 0, .int .u64 0, .int .u64 0, .int .u64 0, .int .u64 0, .string (⟨#[]⟩ : ByteArray), .string (⟨#[]⟩ : ByteArray), .bool false]) ?_ 5 _ rfl; (with_reducible repeat (first | refine blk_drewN ?_ _ | refine blk_drew ?_ | refine blk_alloc ?_ _)); refine blk_put (cs := #[.int .u64 0, .int .u64 0, .int .u64 0, .int .u64 0, .int .u64 0, .string (⟨#[]⟩ : ByteArray), .string (⟨#[]⟩ : ByteArray), .bool false]) ?_ 4 _ rfl; (with_reducible repeat (first | refine blk_drewN ?_ _ | refine blk_drew ?_ | refine blk_alloc ?_ _)); refine blk_put (cs := #[.int .u64 0, .int .u64 0, .int .u64 0, .int .u64 0, .int .u64 0, .string (⟨#[]⟩ : ByteArray), .string (⟨#[]⟩ : ByteArray), .bool false]) ?_ 3 _ rfl; (with_reducible repeat (first | refine blk_drewN ?_ _ | refine blk_drew ?_ | refine blk_alloc ?_ _)); refine blk_put (cs := #[.int .u64 0, .int .u64 0, .int .u64 0, .int .u64 0, .int .u64 0, .string (⟨#[]⟩ : ByteArray), .string (⟨#[]⟩ : ByteArray), .bool false]) ?_ 2 _ rfl; (with_reducible repeat (first | refine blk_drewN ?_ _ | refine blk_drew ?_ | refine blk_alloc ?_ _)); refine blk_put (cs := #[.int .u64 0, .int .u64 0, .int .u64 0, .int .u64 0, .int .u64 0, .string (⟨#[]⟩ : ByteArray), .string (⟨#[]⟩ : ByteArray), .bool false]) ?_ 1 _ rfl; (with_reducible repeat (first | refine blk_drewN ?_ _ | refine blk_drew ?_ | refine blk_alloc ?_ _)); refine blk_put (cs := #[.int .u64 0, .int .u64 0, .int .u64 0, .int .u64 0, .int .u64 0, .string (⟨#[]⟩ : ByteArray), .string (⟨#[]⟩ : ByteArray), .bool false]) ?_ 0 _ rfl; (with_reducible repeat (first | refine blk_drewN ?_ _ | refine blk_drew ?_ | refine blk_alloc ?_ _)); refine blk_far ?_ NB128_155.out _; (with_reducible repeat (first | refine blk_drewN ?_ _ | refine blk_drew ?_ | refine blk_alloc ?_ _)); refine blk_far ?_ NB128_155.out _; (with_reducible repeat (first | refine blk_drewN ?_ _ | refine blk_drew ?_ | refine blk_alloc ?_ _)); refine blk_far ?_ NB128_155.out _; (with_reducible repeat (first | refine blk_drewN ?_ _ | refine blk_drew ?_ | refine blk_alloc ?_ _)); refine blk_far ?_ NB128_155.out _; (with_reducible repeat (first | refine blk_drewN ?_ _ | refine blk_drew ?_ | refine blk_alloc ?_ _)); refine blk_far ?_ NB128_155.out _; (with_reducible repeat (first | refine blk_drewN ?_ _ | refine blk_drew ?_ | refine blk_alloc ?_ _)); refine blk_far ?_ NB128_155.out _; (with_reducible repeat (first | refine blk_drewN ?_ _ | refine blk_drew ?_ | refine blk_alloc ?_ _)); refine blk_far ?_ NB128_155.out _; (with_reducible repeat (first | refine blk_drewN ?_ _ | refine blk_drew ?_ | refine blk_alloc ?_ _)); refine blk_far ?_ NB128_155.out _; (with_reducible repeat (first | refine blk_drewN ?_ _ | refine blk_drew ?_ | refine blk_alloc ?_ _)); exact BK128.out) Try.underlying28 rfl (by kernel_rfl)) rfl ?_
                exact ⟨_, by first | rfl | (simp [errW_none, errW_some] <;> rfl) | (simp [*, errW_none, errW_some] <;> rfl), Kd.V_nil _ _ _ _ _, by repeat (first | (with_reducible first | exact HB.out | apply below_alloc | apply pw_below_drewN | apply below_drew1 | refine below_set ?_ GE128.out | refine below_set ?_ GE155.out) | exact HB.out)⟩
              · rw [if_neg c15] at H
                have c15b0 : decide (1 < (rd l0 40)) = false := decide_eq_false c15
                clear c15
                by_cases c34 : 41 ≤ (l0.length : Int)
                · rw [if_pos c34] at H
                  replace H := Option.bind_eq_some_iff.mp H
                  obtain ⟨⟨t162, t163, t166⟩, A350, H⟩ := H
                  simp only at H
                  obtain ⟨wA, hWA⟩ : ∃ W, ((((((((w23.setCell ⟨gb155, 0, none⟩ (.int .u64 t129)).setCell ⟨gb155, 1, none⟩ (.int .u64 t135)).setCell ⟨gb155, 2, none⟩ (.int .u64 t141)).setCell ⟨gb155, 3, none⟩ (.int .u64 t147)).setCell ⟨gb155, 4, none⟩ (.int .u64 t153)).setCell ⟨gb155, 5, none⟩ (.string ⟨#[]⟩)).setCell ⟨gb155, 6, none⟩ (.string ⟨#[]⟩)).setCell ⟨gb155, 7, none⟩ (.bool ((rd l0 40) == 1))) = W := ⟨_, rfl⟩
                  rw [hWA] at hx156_0 ⊢
                  have BA23 := Aside0.mk (show wA.heap[gb128]? = some (.cells #[.int .u64 0, .int .u64 0, .int .u64 0, .int .u64 0, .int .u64 0, .string ⟨#[]⟩, .string ⟨#[]⟩, .bool false] 28 (0, 0)) from by rw [← hWA]; exact (blk_far (blk_far (blk_far (blk_far (blk_far (blk_far (blk_far (blk_far BK128.out (p := ⟨gb155, 0, none⟩) NB128_155.out (.int .u64 t129)) (p := ⟨gb155, 1, none⟩) NB128_155.out (.int .u64 t135)) (p := ⟨gb155, 2, none⟩) NB128_155.out (.int .u64 t141)) (p := ⟨gb155, 3, none⟩) NB128_155.out (.int .u64 t147)) (p := ⟨gb155, 4, none⟩) NB128_155.out (.int .u64 t153)) (p := ⟨gb155, 5, none⟩) NB128_155.out (.string ⟨#[]⟩)) (p := ⟨gb155, 6, none⟩) NB128_155.out (.string ⟨#[]⟩)) (p := ⟨gb155, 7, none⟩) NB128_155.out (.bool ((rd l0 40) == 1))))
                  have BB23 := Aside0.mk (show wA.heap[gb155]? = some (.cells #[.int .u64 t129, .int .u64 t135, .int .u64 t141, .int .u64 t147, .int .u64 t153, .string ⟨#[]⟩, .string ⟨#[]⟩, .bool ((rd l0 40) == 1)] 28 (0, 0)) from by rw [← hWA]; have hch := (blk_set (blk_set (blk_set (blk_set (blk_set (blk_set (blk_set (blk_set BK155.out 0 (.int .u64 t129)) 1 (.int .u64 t135)) 2 (.int .u64 t141)) 3 (.int .u64 t147)) 4 (.int .u64 t153)) 5 (.string ⟨#[]⟩)) 6 (.string ⟨#[]⟩)) 7 (.bool ((rd l0 40) == 1))); simp only [List.setIfInBounds_toArray, List.set_cons_zero, List.set_cons_succ] at hch; exact hch)
                  have HBA := Aside0.mk (show Below w.heap.size w wA from by rw [← hWA]; (with_reducible repeat refine below_set ?_ GE155.out); exact HB.out)
                  clear hWA hHeld
                  (try clear hs20 hfs20 hns20_0 hms20_0)
                  (try clear hs21 hfs21 hns21_0 hms21_0)
                  (try clear hs22 hfs22 hns22_0 hms22_0)
                  (try clear hs23 hfs23 hns23_0 hms23_0)
                  (try clear hs24 hfs24 hns24_0 hms24_0)
                  (try clear hs25 hfs25 hns25_0 hms25_0)
                  (try clear hs26 hfs26 hns26_0 hms26_0)
                  (try clear hs27 hfs27 hns27_0 hms27_0)
                  (try clear hs28 hfs28 hns28_0 hms28_0)
                  (try clear hs29 hfs29 hns29_0 hms29_0)
                  (try clear hs30 hfs30 hns30_0 hms30_0)
                  (try clear hs31 hfs31 hns31_0 hms31_0)
                  (try clear hs32 hfs32 hns32_0 hms32_0)
                  (try clear hs33 hfs33 hns33_0 hms33_0)
                  (try clear HT_)
                  (try clear HW_)
                  clear BK128 BK155 HB HO0
                  obtain ⟨i041, hi041, _, hsz41, _⟩ := info_parts info5
                  have hV := Kd.V_at (base := w.heap.size) HS0.out
                  have hF0 := Kd.F_old hV.2.2 HBA.out
                  have hcut41 := cut_from (P := Try.prog) 31 5 .i64 Try.underlying31 hi041 1 hsz41 (some ad154) l0.length c0 41 (by omega) (by omega)
                  have hr41 := Kd.F_cut (m := (41 : Int).toNat) (c := c0) hF0 (by omega) hV.2.1
                  obtain ⟨A41, hA41⟩ : ∃ A1, A1 = (if c0 = (41 : Int).toNat then (some ad154) else ((some ad154) : Option Addr).map (·.add ((41 : Int).toNat * 1))) := ⟨_, rfl⟩
                  obtain ⟨c41, hc41⟩ : ∃ c1, c1 = c0 - (41 : Int).toNat := ⟨_, rfl⟩
                  obtain ⟨y41, hy41⟩ : ∃ y_ : List Int, y_ = l0.drop 41 := ⟨_, rfl⟩
                  have hl41 : y41.length = l0.length - (41 : Int).toNat := (by rw [hy41, List.length_drop]; rfl)
                  rw [show (l0).drop (41 : Int).toNat = y41 from hy41.symm] at hr41
                  replace hr41 : Kd.F (Kd.int .u8) _ _ A41 y41.length y41 := (by rw [hA41]; exact hr41)
                  rw [← hl41, ← hA41, ← hc41] at hcut41
                  rw [← hy41] at A350
                  have A35 := Aside0.mk A350
                  have HV41 := Aside0.mk (show Kd.V (Kd.int .u8) 5 wA wA.heap.size (fun k_ => (P0_ k_ ∧ k_ < w.heap.size)) (.slice A41 y41.length c41) y41 from Kd.V_mk (by rw [hl41, hc41]; exact Nat.sub_le_sub_right hV.2.1 _) hr41)
                  clear hr41 hF0 hV hl41 hA41 hc41 hy41 A350 hi041 hsz41
                  have HLT := Aside0.mk (show gb128 < wA.heap.size ∧ gb155 < wA.heap.size from ⟨blk_lt BA23.out, blk_lt BB23.out⟩)
                  have hnb := NB128_155.out
                  have hnc := NB155_128.out
                  go_wp2_with fail
                  refine (winnowref03_cutText.calls k (fun k_ => (P0_ k_ ∧ k_ < w.heap.size)) A41 c41 y41 t162 t163 t166 _ HV41.out A35.out).mono ?_
                  rintro e w24 ⟨v24, rfl, hv24, hb24⟩
                  obtain ⟨A24, c24, rfl, hl24, hf24⟩ := hv24
                  have HV24 := Aside0.mk (show Kd.V (Kd.int .u8) 5 w24 w24.heap.size (fun k_ => ((P0_ k_ ∧ k_ < w.heap.size) ∨ wA.heap.size ≤ k_)) (.slice A24 t163.length c24) t163 from Kd.V_mk hl24 hf24)
                  have BA24 := Aside0.mk (blk_below BA23.out hb24)
                  have BB24 := Aside0.mk (blk_below BB23.out hb24)
                  have HB24 := Aside0.mk (below_then HBA.out HBA.out.size hb24)
                  have HS24 := Aside0.mk hb24.size
                  clear hl24 hf24 hb24 HV41
                  by_cases c36 : t166 = 0
                  · subst c36
                    rw [if_pos rfl] at H
                    replace H := Option.bind_eq_some_iff.mp H
                    obtain ⟨⟨t167, t168, t171⟩, A370, H⟩ := H
                    simp only at H
                    have A37 := Aside0.mk A370
                    clear A370
                    go_wp2_with fail
                    refine (winnowref03_cutText.calls k (fun k_ => ((P0_ k_ ∧ k_ < w.heap.size) ∨ wA.heap.size ≤ k_)) A24 c24 t163 t167 t168 t171 _ HV24.out A37.out).mono ?_
                    rintro e w25 ⟨v25, rfl, hv25, hb25⟩
                    obtain ⟨A25, c25, rfl, hl25, hf25⟩ := hv25
                    have HF25 := Aside0.mk hf25
                    have HL25 := Aside0.mk hl25
                    have BA25 := Aside0.mk (blk_below BA24.out hb25)
                    have BB25 := Aside0.mk (blk_below BB24.out hb25)
                    have HB25 := Aside0.mk (below_then HB24.out HB24.out.size hb25)
                    have HS25 := Aside0.mk hb25.size
                    clear hl25 hf25 hb25 HV24 BA24 BB24
                    by_cases c38 : t171 = 0
                    · subst c38
                      rw [if_pos rfl] at H
                      replace H := Option.bind_eq_some_iff.mp H
                      obtain ⟨t172, A390, H⟩ := H
                      have A39 := Aside0.mk A390
                      clear A390
                      have hcz_0 : w25.cell? ⟨gb155, 0, none⟩ = some (.int .u64 t129) := (blk_cell BB25.out 0).trans rfl
                      have hcz_1 : w25.cell? ⟨gb155, 1, none⟩ = some (.int .u64 t135) := (blk_cell BB25.out 1).trans rfl
                      have hcz_2 : w25.cell? ⟨gb155, 2, none⟩ = some (.int .u64 t141) := (blk_cell BB25.out 2).trans rfl
                      have hcz_3 : w25.cell? ⟨gb155, 3, none⟩ = some (.int .u64 t147) := (blk_cell BB25.out 3).trans rfl
                      have hcz_4 : w25.cell? ⟨gb155, 4, none⟩ = some (.int .u64 t153) := (blk_cell BB25.out 4).trans rfl
                      have hcz_5 : w25.cell? ⟨gb155, 5, none⟩ = some (.string ⟨#[]⟩) := (blk_cell BB25.out 5).trans rfl
                      have hcz_6 : w25.cell? ⟨gb155, 6, none⟩ = some (.string ⟨#[]⟩) := (blk_cell BB25.out 6).trans rfl
                      have hcz_7 : w25.cell? ⟨gb155, 7, none⟩ = some (.bool ((rd l0 40) == 1)) := (blk_cell BB25.out 7).trans rfl
                      have hczf_0 := blk_frozen BB25.out 0
                      have hczf_1 := blk_frozen BB25.out 1
                      have hczf_2 := blk_frozen BB25.out 2
                      have hczf_3 := blk_frozen BB25.out 3
                      have hczf_4 := blk_frozen BB25.out 4
                      have hczf_5 := blk_frozen BB25.out 5
                      have hczf_6 := blk_frozen BB25.out 6
                      have hczf_7 := blk_frozen BB25.out 7
                      go_wp2_with fail
                      refine (winnowref03_Right.calls k t129 t135 t141 t147 t153 t162 t167 ((rd l0 40) == 1) t172 _ A39.out).mono ?_
                      rintro e w26 ⟨rfl, hb26⟩
                      have BB26 := Aside0.mk (show w26.heap[gb155]? = some (.cells #[.int .u64 t129, .int .u64 t135, .int .u64 t141, .int .u64 t147, .int .u64 t153, .string t162, .string t167, .bool ((rd l0 40) == 1)] 28 (0, 0)) from blk_below (by have hch := (blk_set (blk_set BB25.out 5 (.string t162)) 6 (.string t167)); simp only [List.setIfInBounds_toArray, List.set_cons_zero, List.set_cons_succ] at hch; exact hch) hb26)
                      have BA26 := Aside0.mk (show w26.heap[gb128]? = some (.cells #[.int .u64 0, .int .u64 0, .int .u64 0, .int .u64 0, .int .u64 0, .string ⟨#[]⟩, .string ⟨#[]⟩, .bool false] 28 (0, 0)) from blk_below (blk_far (blk_far BA25.out (p := ⟨gb155, 5, none⟩) hnb (.string t162)) (p := ⟨gb155, 6, none⟩) hnb (.string t167)) hb26)
                      have HB26 := Aside0.mk (below_then (below_set (below_set HB25.out GE155.out) GE155.out) (below_set (below_set HB25.out GE155.out) GE155.out).size hb26)
                      have HF26 := Aside0.mk (Kd.F_below (Kd.F_far (p := ⟨gb155, 6, none⟩) (Kd.F_far (p := ⟨gb155, 5, none⟩) HF25.out (fun k_ hk e_ => by have := HLT.out; have := HS24.out; have := GE155.out; simp only at e_; omega) (.string t162)) (fun k_ hk e_ => by have := HLT.out; have := HS24.out; have := GE155.out; simp only at e_; omega) (.string t167)) hb26)
                      clear hb26 BA25 BB25 HF25 hcz_0 hcz_1 hcz_2 hcz_3 hcz_4 hcz_5 hcz_6 hcz_7 hczf_0 hczf_1 hczf_2 hczf_3 hczf_4 hczf_5 hczf_6 hczf_7
                      by_cases c40 : t172 = 0
                      · subst c40
                        rw [if_pos rfl] at H
                        simp only [Option.some.injEq, Prod.mk.injEq] at H
                        obtain ⟨rfl, rfl, rfl, rfl, rfl, rfl, rfl, rfl, rfl, rfl⟩ := H
                        have hcz_0 : w26.cell? ⟨gb155, 0, none⟩ = some (.int .u64 t129) := (blk_cell BB26.out 0).trans rfl
                        have hcz_1 : w26.cell? ⟨gb155, 1, none⟩ = some (.int .u64 t135) := (blk_cell BB26.out 1).trans rfl
                        have hcz_2 : w26.cell? ⟨gb155, 2, none⟩ = some (.int .u64 t141) := (blk_cell BB26.out 2).trans rfl
                        have hcz_3 : w26.cell? ⟨gb155, 3, none⟩ = some (.int .u64 t147) := (blk_cell BB26.out 3).trans rfl
                        have hcz_4 : w26.cell? ⟨gb155, 4, none⟩ = some (.int .u64 t153) := (blk_cell BB26.out 4).trans rfl
                        have hcz_5 : w26.cell? ⟨gb155, 5, none⟩ = some (.string t162) := (blk_cell BB26.out 5).trans rfl
                        have hcz_6 : w26.cell? ⟨gb155, 6, none⟩ = some (.string t167) := (blk_cell BB26.out 6).trans rfl
                        have hcz_7 : w26.cell? ⟨gb155, 7, none⟩ = some (.bool ((rd l0 40) == 1)) := (blk_cell BB26.out 7).trans rfl
                        have hczf_0 := blk_frozen BB26.out 0
                        have hczf_1 := blk_frozen BB26.out 1
                        have hczf_2 := blk_frozen BB26.out 2
                        have hczf_3 := blk_frozen BB26.out 3
                        have hczf_4 := blk_frozen BB26.out 4
                        have hczf_5 := blk_frozen BB26.out 5
                        have hczf_6 := blk_frozen BB26.out 6
                        have hczf_7 := blk_frozen BB26.out 7
                        have hzz_0 : w26.cell? ⟨gb128, 0, none⟩ = some (.int .u64 0) := (blk_cell BA26.out 0).trans rfl
                        have hzz_1 : w26.cell? ⟨gb128, 1, none⟩ = some (.int .u64 0) := (blk_cell BA26.out 1).trans rfl
                        have hzz_2 : w26.cell? ⟨gb128, 2, none⟩ = some (.int .u64 0) := (blk_cell BA26.out 2).trans rfl
                        have hzz_3 : w26.cell? ⟨gb128, 3, none⟩ = some (.int .u64 0) := (blk_cell BA26.out 3).trans rfl
                        have hzz_4 : w26.cell? ⟨gb128, 4, none⟩ = some (.int .u64 0) := (blk_cell BA26.out 4).trans rfl
                        have hzz_5 : w26.cell? ⟨gb128, 5, none⟩ = some (.string ⟨#[]⟩) := (blk_cell BA26.out 5).trans rfl
                        have hzz_6 : w26.cell? ⟨gb128, 6, none⟩ = some (.string ⟨#[]⟩) := (blk_cell BA26.out 6).trans rfl
                        have hzz_7 : w26.cell? ⟨gb128, 7, none⟩ = some (.bool false) := (blk_cell BA26.out 7).trans rfl
                        have hzzf_0 := blk_frozen BA26.out 0
                        have hzzf_1 := blk_frozen BA26.out 1
                        have hzzf_2 := blk_frozen BA26.out 2
                        have hzzf_3 := blk_frozen BA26.out 3
                        have hzzf_4 := blk_frozen BA26.out 4
                        have hzzf_5 := blk_frozen BA26.out 5
                        have hzzf_6 := blk_frozen BA26.out 6
                        have hzzf_7 := blk_frozen BA26.out 7
                        have HF27 := Aside0.mk (Kd.F_far (p := ⟨gb128, 7, none⟩) (Kd.F_far (p := ⟨gb128, 6, none⟩) (Kd.F_far (p := ⟨gb128, 5, none⟩) (Kd.F_far (p := ⟨gb128, 4, none⟩) (Kd.F_far (p := ⟨gb128, 3, none⟩) (Kd.F_far (p := ⟨gb128, 2, none⟩) (Kd.F_far (p := ⟨gb128, 1, none⟩) (Kd.F_far (p := ⟨gb128, 0, none⟩) HF26.out (fun k_ hk e_ => by have := HLT.out; have := HS24.out; have := GE128.out; simp only at e_; omega) (.int .u64 t129)) (fun k_ hk e_ => by have := HLT.out; have := HS24.out; have := GE128.out; simp only at e_; omega) (.int .u64 t135)) (fun k_ hk e_ => by have := HLT.out; have := HS24.out; have := GE128.out; simp only at e_; omega) (.int .u64 t141)) (fun k_ hk e_ => by have := HLT.out; have := HS24.out; have := GE128.out; simp only at e_; omega) (.int .u64 t147)) (fun k_ hk e_ => by have := HLT.out; have := HS24.out; have := GE128.out; simp only at e_; omega) (.int .u64 t153)) (fun k_ hk e_ => by have := HLT.out; have := HS24.out; have := GE128.out; simp only at e_; omega) (.string t162)) (fun k_ hk e_ => by have := HLT.out; have := HS24.out; have := GE128.out; simp only at e_; omega) (.string t167)) (fun k_ hk e_ => by have := HLT.out; have := HS24.out; have := GE128.out; simp only at e_; omega) (.bool ((rd l0 40) == 1)))
                        go_wp2
                        refine bodyPost_ret (results_ctt rfl _ _ gb128 28 #[.int .u64 t129, .int .u64 t135, .int .u64 t141, .int .u64 t147, .int .u64 t153, .string t162, .string t167, .bool ((rd l0 40) == 1)] (0, 0) _ rfl (by have hch := (blk_set (blk_set (blk_set (blk_set (blk_set (blk_set (blk_set (blk_set BA26.out 0 (.int .u64 t129)) 1 (.int .u64 t135)) 2 (.int .u64 t141)) 3 (.int .u64 t147)) 4 (.int .u64 t153)) 5 (.string t162)) 6 (.string t167)) 7 (.bool ((rd l0 40) == 1))); simp only [List.setIfInBounds_toArray, List.set_cons_zero, List.set_cons_succ] at hch; exact hch) Try.underlying28 rfl (by kernel_rfl)) rfl ?_
                        exact ⟨_, rfl, Kd.V_mk HL25.out (Kd.F_mono HF27.out (fun k_ hk => by rcases hk with (hk | hk) | hk; exact .inl hk.1; exact .inr (Nat.le_trans HBA.out.size hk); exact .inr (Nat.le_trans HB24.out.size hk))), (by (with_reducible repeat (first | refine below_drew1 ?_ | refine below_set ?_ GE128.out | refine below_set ?_ GE155.out)); exact HB26.out)⟩
                      · rw [if_neg c40] at H
                        simp only [Option.some.injEq, Prod.mk.injEq] at H
                        obtain ⟨rfl, rfl, rfl, rfl, rfl, rfl, rfl, rfl, rfl, rfl⟩ := H
                        have hbn : (t172 != 0) = true := bne_iff_ne.mpr c40
                        have hzz_0 : w26.cell? ⟨gb128, 0, none⟩ = some (.int .u64 0) := (blk_cell BA26.out 0).trans rfl
                        have hzz_1 : w26.cell? ⟨gb128, 1, none⟩ = some (.int .u64 0) := (blk_cell BA26.out 1).trans rfl
                        have hzz_2 : w26.cell? ⟨gb128, 2, none⟩ = some (.int .u64 0) := (blk_cell BA26.out 2).trans rfl
                        have hzz_3 : w26.cell? ⟨gb128, 3, none⟩ = some (.int .u64 0) := (blk_cell BA26.out 3).trans rfl
                        have hzz_4 : w26.cell? ⟨gb128, 4, none⟩ = some (.int .u64 0) := (blk_cell BA26.out 4).trans rfl
                        have hzz_5 : w26.cell? ⟨gb128, 5, none⟩ = some (.string ⟨#[]⟩) := (blk_cell BA26.out 5).trans rfl
                        have hzz_6 : w26.cell? ⟨gb128, 6, none⟩ = some (.string ⟨#[]⟩) := (blk_cell BA26.out 6).trans rfl
                        have hzz_7 : w26.cell? ⟨gb128, 7, none⟩ = some (.bool false) := (blk_cell BA26.out 7).trans rfl
                        have hzzf_0 := blk_frozen BA26.out 0
                        have hzzf_1 := blk_frozen BA26.out 1
                        have hzzf_2 := blk_frozen BA26.out 2
                        have hzzf_3 := blk_frozen BA26.out 3
                        have hzzf_4 := blk_frozen BA26.out 4
                        have hzzf_5 := blk_frozen BA26.out 5
                        have hzzf_6 := blk_frozen BA26.out 6
                        have hzzf_7 := blk_frozen BA26.out 7
                        go_wp2
                        refine bodyPost_ret (results_ctt rfl _ _ gb128 28 #[.int .u64 0, .int .u64 0, .int .u64 0, .int .u64 0, .int .u64 0, .string ⟨#[]⟩, .string ⟨#[]⟩, .bool false] (0, 0) _ rfl (by have hch := (blk_set (blk_set (blk_set (blk_set (blk_set (blk_set (blk_set (blk_set BA26.out 0 (.int .u64 0)) 1 (.int .u64 0)) 2 (.int .u64 0)) 3 (.int .u64 0)) 4 (.int .u64 0)) 5 (.string ⟨#[]⟩)) 6 (.string ⟨#[]⟩)) 7 (.bool false)); simp only [List.setIfInBounds_toArray, List.set_cons_zero, List.set_cons_succ] at hch; exact hch) Try.underlying28 rfl (by kernel_rfl)) rfl ?_
                        exact ⟨_, rfl, Kd.V_nil _ _ _ _ _, (by (with_reducible repeat (first | refine below_drew1 ?_ | refine below_set ?_ GE128.out | refine below_set ?_ GE155.out)); exact HB26.out)⟩
                    · rw [if_neg c38] at H
                      simp only [Option.some.injEq, Prod.mk.injEq] at H
                      obtain ⟨rfl, rfl, rfl, rfl, rfl, rfl, rfl, rfl, rfl, rfl⟩ := H
                      have hbn : (t171 != 0) = true := bne_iff_ne.mpr c38
                      have hzz_0 : w25.cell? ⟨gb128, 0, none⟩ = some (.int .u64 0) := (blk_cell BA25.out 0).trans rfl
                      have hzz_1 : w25.cell? ⟨gb128, 1, none⟩ = some (.int .u64 0) := (blk_cell BA25.out 1).trans rfl
                      have hzz_2 : w25.cell? ⟨gb128, 2, none⟩ = some (.int .u64 0) := (blk_cell BA25.out 2).trans rfl
                      have hzz_3 : w25.cell? ⟨gb128, 3, none⟩ = some (.int .u64 0) := (blk_cell BA25.out 3).trans rfl
                      have hzz_4 : w25.cell? ⟨gb128, 4, none⟩ = some (.int .u64 0) := (blk_cell BA25.out 4).trans rfl
                      have hzz_5 : w25.cell? ⟨gb128, 5, none⟩ = some (.string ⟨#[]⟩) := (blk_cell BA25.out 5).trans rfl
                      have hzz_6 : w25.cell? ⟨gb128, 6, none⟩ = some (.string ⟨#[]⟩) := (blk_cell BA25.out 6).trans rfl
                      have hzz_7 : w25.cell? ⟨gb128, 7, none⟩ = some (.bool false) := (blk_cell BA25.out 7).trans rfl
                      have hzzf_0 := blk_frozen BA25.out 0
                      have hzzf_1 := blk_frozen BA25.out 1
                      have hzzf_2 := blk_frozen BA25.out 2
                      have hzzf_3 := blk_frozen BA25.out 3
                      have hzzf_4 := blk_frozen BA25.out 4
                      have hzzf_5 := blk_frozen BA25.out 5
                      have hzzf_6 := blk_frozen BA25.out 6
                      have hzzf_7 := blk_frozen BA25.out 7
                      go_wp2
                      refine bodyPost_ret (results_ctt rfl _ _ gb128 28 #[.int .u64 0, .int .u64 0, .int .u64 0, .int .u64 0, .int .u64 0, .string ⟨#[]⟩, .string ⟨#[]⟩, .bool false] (0, 0) _ rfl (by have hch := (blk_set (blk_set (blk_set (blk_set (blk_set (blk_set (blk_set (blk_set BA25.out 0 (.int .u64 0)) 1 (.int .u64 0)) 2 (.int .u64 0)) 3 (.int .u64 0)) 4 (.int .u64 0)) 5 (.string ⟨#[]⟩)) 6 (.string ⟨#[]⟩)) 7 (.bool false)); simp only [List.setIfInBounds_toArray, List.set_cons_zero, List.set_cons_succ] at hch; exact hch) Try.underlying28 rfl (by kernel_rfl)) rfl ?_
                      exact ⟨_, rfl, Kd.V_nil _ _ _ _ _, (by (with_reducible repeat (first | refine below_drew1 ?_ | refine below_set ?_ GE128.out | refine below_set ?_ GE155.out)); exact HB25.out)⟩
                  · rw [if_neg c36] at H
                    simp only [Option.some.injEq, Prod.mk.injEq] at H
                    obtain ⟨rfl, rfl, rfl, rfl, rfl, rfl, rfl, rfl, rfl, rfl⟩ := H
                    have hbn : (t166 != 0) = true := bne_iff_ne.mpr c36
                    have hzz_0 : w24.cell? ⟨gb128, 0, none⟩ = some (.int .u64 0) := (blk_cell BA24.out 0).trans rfl
                    have hzz_1 : w24.cell? ⟨gb128, 1, none⟩ = some (.int .u64 0) := (blk_cell BA24.out 1).trans rfl
                    have hzz_2 : w24.cell? ⟨gb128, 2, none⟩ = some (.int .u64 0) := (blk_cell BA24.out 2).trans rfl
                    have hzz_3 : w24.cell? ⟨gb128, 3, none⟩ = some (.int .u64 0) := (blk_cell BA24.out 3).trans rfl
                    have hzz_4 : w24.cell? ⟨gb128, 4, none⟩ = some (.int .u64 0) := (blk_cell BA24.out 4).trans rfl
                    have hzz_5 : w24.cell? ⟨gb128, 5, none⟩ = some (.string ⟨#[]⟩) := (blk_cell BA24.out 5).trans rfl
                    have hzz_6 : w24.cell? ⟨gb128, 6, none⟩ = some (.string ⟨#[]⟩) := (blk_cell BA24.out 6).trans rfl
                    have hzz_7 : w24.cell? ⟨gb128, 7, none⟩ = some (.bool false) := (blk_cell BA24.out 7).trans rfl
                    have hzzf_0 := blk_frozen BA24.out 0
                    have hzzf_1 := blk_frozen BA24.out 1
                    have hzzf_2 := blk_frozen BA24.out 2
                    have hzzf_3 := blk_frozen BA24.out 3
                    have hzzf_4 := blk_frozen BA24.out 4
                    have hzzf_5 := blk_frozen BA24.out 5
                    have hzzf_6 := blk_frozen BA24.out 6
                    have hzzf_7 := blk_frozen BA24.out 7
                    go_wp2
                    refine bodyPost_ret (results_ctt rfl _ _ gb128 28 #[.int .u64 0, .int .u64 0, .int .u64 0, .int .u64 0, .int .u64 0, .string ⟨#[]⟩, .string ⟨#[]⟩, .bool false] (0, 0) _ rfl (by have hch := (blk_set (blk_set (blk_set (blk_set (blk_set (blk_set (blk_set (blk_set BA24.out 0 (.int .u64 0)) 1 (.int .u64 0)) 2 (.int .u64 0)) 3 (.int .u64 0)) 4 (.int .u64 0)) 5 (.string ⟨#[]⟩)) 6 (.string ⟨#[]⟩)) 7 (.bool false)); simp only [List.setIfInBounds_toArray, List.set_cons_zero, List.set_cons_succ] at hch; exact hch) Try.underlying28 rfl (by kernel_rfl)) rfl ?_
                    exact ⟨_, rfl, Kd.V_nil _ _ _ _ _, (by (with_reducible repeat (first | refine below_drew1 ?_ | refine below_set ?_ GE128.out | refine below_set ?_ GE155.out)); exact HB24.out)⟩
                · exact absurd (show 41 ≤ (l0.length : Int) from by have := of_decide_eq_true c14b0; omega) c34
            · rw [if_neg c14] at H
              exact absurd H (by simp)
          · rw [if_neg c12] at H
            exact absurd H (by simp)
        · rw [if_neg c10] at H
          exact absurd H (by simp)
      · rw [if_neg c8] at H
        exact absurd H (by simp)
    · rw [if_neg c6] at H
      exact absurd H (by simp)
end Go.Proofs.Ytigcdbeaachkoaa.PAll
