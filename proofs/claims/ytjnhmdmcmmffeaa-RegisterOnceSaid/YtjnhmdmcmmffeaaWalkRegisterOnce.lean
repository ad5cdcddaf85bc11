/-
  The law RegisterOnce, called with anything that its parameters' kinds hold, returns true and writes nothing that was there.
  Conditions: none.
-/
import Derived.Test.YtjnhmdmcmmffeaaOnceEnv
import Derived.Test.YtjnhmdmcmmffeaaPAllx0
import Derived.Test.YtjnhmdmcmmffeaaPAllx2
import Derived.Test.YtjnhmdmcmmffeaaPAllx3
import Derived.Test.YtjnhmdmcmmffeaaPAllx4
import Derived.Test.YtjnhmdmcmmffeaaPAllx5
import Derived.Test.YtjnhmdmcmmffeaaPAllx6
namespace Go.Proofs.Ytjnhmdmcmmffeaa.PAll
open Go.RowKit Go.Proofs.YtjnhmdmcmmffeaaW.PrintWords Go.Proofs.YtjnhmdmcmmffeaaW.PrintLast Go.Proofs.YtjnhmdmcmmffeaaW.PrintMore
open Go.Proofs.Ytjnhmdmcmmffeaa.Paxos (cnt Rg Inv Asks Tells)
attribute [local go_sem] max2_int min2_int max_two min_two max_three min_three max_four min_four
attribute [local go_sem high] eqA24
set_option linter.unusedVariables false
set_option linter.unusedSimpArgs false
def winnowlaw12_RegisterOnce.T24 : Bool × List (List Nat × List Nat) := (true, [([], []), ([], []), ([0, 1], [0, 1]), ([2], [2]), ([], []), ([3, 4], [3, 4]), ([5], [5]), ([6], [6]), ([6], [6]), ([], []), ([9, 7, 5, 0, 1, 2, 3, 4, 5, 6, 7, 9], [7, 9]), ([8, 10, 0, 1, 2, 3, 4, 5, 6, 7, 8, 9, 10], [8])])
def winnowlaw12_RegisterOnce.B24 : List Nat := [0, 0, 3, 7, 0, 31, 63, 127, 127, 0, 767, 2047]
theorem winnowlaw12_RegisterOnce.tab24 : rtab .any (opsOf Try.f12 24) = winnowlaw12_RegisterOnce.T24 := by kernel_rfl
theorem winnowlaw12_RegisterOnce.bits24 : waitsOk winnowlaw12_RegisterOnce.T24.2 winnowlaw12_RegisterOnce.B24 = true := by kernel_rfl
def winnowlaw12_RegisterOnce.T32 : Bool × List (List Nat × List Nat) := (true, [([], []), ([0], [0]), ([1], [1]), ([], []), ([2, 3], [2, 3]), ([4], [4]), ([5], [5]), ([5], [5]), ([6, 7, 5], [5, 6, 7]), ([5], [5]), ([5], [5]), ([8, 9, 10, 5, 5], [5, 8, 9, 10]), ([5, 11], [5, 11])])
def winnowlaw12_RegisterOnce.B32 : List Nat := [0, 1, 3, 0, 15, 31, 63, 63, 255, 63, 63, 2047, 4095]
theorem winnowlaw12_RegisterOnce.tab32 : rtab .any (opsOf Try.f12 32) = winnowlaw12_RegisterOnce.T32 := by kernel_rfl
theorem winnowlaw12_RegisterOnce.bits32 : waitsOk winnowlaw12_RegisterOnce.T32.2 winnowlaw12_RegisterOnce.B32 = true := by kernel_rfl
def winnowlaw12_RegisterOnce.T38 : Bool × List (List Nat × List Nat) := (true, [([], []), ([], []), ([0, 1], [0, 1]), ([2], [2]), ([], []), ([], []), ([3, 4, 5], [3, 4, 5]), ([6], [6]), ([7], [7]), ([7], [7]), ([], []), ([10, 8, 6, 0, 1, 2, 3, 4, 5, 6, 7, 8, 10], [8, 10]), ([9, 11, 0, 1, 2, 3, 4, 5, 6, 7, 8, 9, 10, 11], [9])])
def winnowlaw12_RegisterOnce.B38 : List Nat := [0, 0, 3, 7, 0, 0, 63, 127, 255, 255, 0, 1535, 4095]
theorem winnowlaw12_RegisterOnce.tab38 : rtab .any (opsOf Try.f12 38) = winnowlaw12_RegisterOnce.T38 := by kernel_rfl
theorem winnowlaw12_RegisterOnce.bits38 : waitsOk winnowlaw12_RegisterOnce.T38.2 winnowlaw12_RegisterOnce.B38 = true := by kernel_rfl
def winnowlaw12_RegisterOnce.T46 : Bool × List (List Nat × List Nat) := (true, [([], []), ([], []), ([0, 1], [0, 1]), ([2], [2]), ([], []), ([4], [4]), ([5], [5]), ([3, 6], [3, 6])])
def winnowlaw12_RegisterOnce.B46 : List Nat := [0, 0, 3, 7, 0, 16, 48, 127]
theorem winnowlaw12_RegisterOnce.tab46 : rtab .any (opsOf Try.f12 46) = winnowlaw12_RegisterOnce.T46 := by kernel_rfl
theorem winnowlaw12_RegisterOnce.bits46 : waitsOk winnowlaw12_RegisterOnce.T46.2 winnowlaw12_RegisterOnce.B46 = true := by kernel_rfl
set_option maxHeartbeats 8000000 in
set_option maxRecDepth 100000 in
theorem once_walk (n : Int) (A1 : Option Addr) (c1 : Nat) (l : List S69) (w : World) (hr1 : Kd.C k69 w A1 l.length l) (hc1 : l.length ≤ c1) (hok : ∀ y ∈ l, In64 y.f0) :
    Calls Try.prog 12 #[.int .i64 n, .slice A1 l.length c1] w fun e W' => e = .returned (.bool true) ∧ Below w.heap.size w W' := by
  have hu24 := Try.underlying24
  have hu69 := Try.underlying69
  have hu42 := Try.underlying42
  have hu58 := Try.underlying58
  have HR1 := Aside0.mk hr1
  have HC1 := Aside0.mk hc1
  have HOK := Aside0.mk hok
  clear hr1 hc1 hok
  have HAL := Aside0.mk (fun W => winnowlaw12_alive.calls 5 true W (alive12 (by omega)))
  by_cases g1 : n < 1
  · have b1 : decide (n < 1) = true := decide_eq_true g1
    as_aux_lemma =>
      go_enter Try.func12, Try.ntmps12
      go_wp2_with fail
      refine (HAL.out _).mono ?_
      rintro e w4 ⟨rfl, hb⟩
      have HB4 := Aside0.mk hb
      clear hb
      go_wp2
      go_ret
      exact ⟨rfl, HB4.out⟩
  have b1 : decide (n < 1) = false := decide_eq_false g1
  by_cases g7 : 7 < n
  · have b7 : decide (7 < n) = true := decide_eq_true g7
    as_aux_lemma =>
      go_enter Try.func12, Try.ntmps12
      go_wp2_with fail
      refine (HAL.out _).mono ?_
      rintro e w4 ⟨rfl, hb⟩
      have HB4 := Aside0.mk hb
      clear hb
      go_wp2
      go_ret
      exact ⟨rfl, HB4.out⟩
  have b7 : decide (7 < n) = false := decide_eq_false g7
  by_cases g30 : 30 < l.length
  · have b30 : decide (30 < (l.length : Int)) = true := decide_eq_true (by omega)
    as_aux_lemma =>
      go_enter Try.func12, Try.ntmps12
      go_wp2_with fail
      refine (HAL.out _).mono ?_
      rintro e w4 ⟨rfl, hb⟩
      have HB4 := Aside0.mk hb
      clear hb
      go_wp2
      go_ret
      exact ⟨rfl, HB4.out⟩
  have b30 : decide (30 < (l.length : Int)) = false := decide_eq_false (by omega)
  obtain ⟨n, rfl⟩ : ∃ m : Nat, n = m := ⟨n.toNat, by omega⟩
  have hn1 : 1 ≤ n := by omega
  have hn7 : n ≤ 7 := by omega
  have hl30 : l.length ≤ 30 := by omega
  have hn0 : decide (0 ≤ (n : Int)) = true := decide_eq_true (by omega)
  go_enter Try.func12, Try.ntmps12
  go_wp2_with (first
    | ((with_reducible refine gate_dst (N := 39) rfl ?_); (try (refine gate_guard (by rfl) ?_; dsimp only)); refine Kd.R_make k42 _ 42 rfl (N := 39) rfl 65 _ _ rfl (n : Int) rfl rfl Try.underlying65 (.agg #[(.int .u64 0), (.int .u64 0), (.int .u64 0), (.int .u64 0), (.int .i64 0)]) 40 info42 rfl (by decide) (by omega) z42 (ok := fun _ => True) (okp := fun _ => True) (k42_mkM _ _ _ z42 ) (fun _ hk => hk) trivial (by omega) (by omega) (Below.refl _ _) (Nat.le_refl _) ?_; intro v5 w1 ho hb hg_ hnew_; have HO5 := Aside0.mk ho; have HB1 := Aside0.mk hb; clear ho hb hg_ hnew_))
  obtain ⟨g5, cap5, hv5, _, _, _⟩ := Kd.R_form HO5.out (by rw [List.length_replicate]; omega)
  rw [List.length_replicate, Int.toNat_natCast] at hv5
  subst hv5
  obtain ⟨wz, hwz⟩ : ∃ wz, w1.alloc (.cells #[.int .u64 0, .int .u64 0] 24) = wz := ⟨_, rfl⟩
  rw [hwz]
  obtain ⟨g7, hg7⟩ : ∃ g, w1.heap.size = g := ⟨_, rfl⟩
  have EV := Aside0.mk (show Env w wz (.slice (some ⟨g5, 0, none⟩) n cap5) (.slice none 0 0) (List.replicate n z42) [] g7 0 0 from by
    have h1 : Below w1.heap.size w1 wz := by rw [← hwz]; exact below_alloc (Below.refl _ _) _
    exact ⟨Kd.R_below HO5.out h1, Kd.R_nil _ _ _ _ _, by rw [← hwz, ← hg7]; exact blk_new w1 _, by rw [← hg7]; exact HB1.out.size, below_then HB1.out HB1.out.size h1⟩)
  rw [hg7]
  clear hwz hg7 HO5 HB1
  go_loopw [6, 8] (fun v6 iv wr => ∃ (i : Nat) (L : List S42) (cs : List Int) (s0 s1 : Int), i ≤ l.length ∧ iv = .int .i64 i ∧ Aside0 (Env w wr (.slice (some ⟨g5, 0, none⟩) n cap5) v6 L cs g7 s0 s1) ∧ Aside0 (Good n i L cs s0 s1)) (fun _ iv _ => l.length - (intOf iv).toNat)
  case atStart => exact ⟨0, _, _, 0, 0, Nat.zero_le _, rfl, EV, ⟨good_start n⟩⟩
  case round =>
    clear EV
    obtain ⟨i, L, cs, s0, s1, hi, rfl, EV, GD⟩ := hrel
    by_cases hlt : i < l.length
    · obtain ⟨ad, A2, c2, A3, c3, rfl, hx0, hx1, hx2, hx3, hx4, hl2, hC2, hl3, hC3⟩ := at_T69 HR1.out (i : Int) (by omega) (by omega)
      rw [Int.toNat_natCast] at hx0 hx1 hx2 hx3 hx4
      have hx64 : In64 (rd_T69 l (i : Int)).f0 := by
        have e : rd_T69 l (i : Int) = l[i] := by simp [rd_T69, List.getD_eq_getElem?_getD, List.getElem?_eq_getElem hlt]
        rw [e]; exact HOK.out _ (List.getElem_mem hlt)
      replace hx0 := pw_cell_below EV.out.hb hx0
      replace hx1 := pw_cell_below EV.out.hb hx1
      replace hx2 := pw_cell_below EV.out.hb hx2
      replace hx3 := pw_cell_below EV.out.hb hx3
      replace hx4 := pw_cell_below EV.out.hb hx4
      generalize rd_T69 l (i : Int) = x at *
      have HX64 := Aside0.mk hx64
      have HC2 := Aside0.mk hC2
      have HL2 := Aside0.mk hl2
      have HC3 := Aside0.mk hC3
      have HL3 := Aside0.mk hl3
      clear hx64 hC2 hl2 hC3 hl3
      go_upto_region 10 with (fail)
      obtain ⟨W9, hW9⟩ : ∃ W, wr.alloc (.cells #[.int .u64 x.f0, .int .i64 x.f1, .slice A2 x.f2.length c2, .slice A3 x.f3.length c3, .int .i64 x.f4] 69) = W := ⟨_, rfl⟩
      rw [hW9]
      obtain ⟨g9, hg9⟩ : ∃ g, wr.heap.size = g := ⟨_, rfl⟩
      have hbW : Below wr.heap.size wr W9 := by rw [← hW9]; exact below_alloc (Below.refl _ _) _
      have EV9 := Aside0.mk (EV.out.below hbW)
      have B9 := Aside0.mk (show W9.heap[g9]? = some (.cells #[.int .u64 x.f0, .int .i64 x.f1, .slice A2 x.f2.length c2, .slice A3 x.f3.length c3, .int .i64 x.f4] 69 (0, 0)) from by rw [← hW9, ← hg9]; exact blk_new wr _)
      have G9 := Aside0.mk (show w.heap.size ≤ g9 from by rw [← hg9]; exact EV.out.hb.size)
      rw [hg9]
      clear hW9 hg9 hbW hx0 hx1 hx2 hx3 hx4 EV
      have hs0 : W9.cell? ⟨g7, 0, none⟩ = some (.int .u64 s0) := (blk_cell EV9.out.b7 0).trans rfl
      have hs1 : W9.cell? ⟨g7, 1, none⟩ = some (.int .u64 s1) := (blk_cell EV9.out.b7 1).trans rfl
      have hy0 : W9.cell? ⟨g9, 0, none⟩ = some (.int .u64 x.f0) := (blk_cell B9.out 0).trans rfl
      have hy1 : W9.cell? ⟨g9, 1, none⟩ = some (.int .i64 x.f1) := (blk_cell B9.out 1).trans rfl
      have hy2 : W9.cell? ⟨g9, 2, none⟩ = some (.slice A2 x.f2.length c2) := (blk_cell B9.out 2).trans rfl
      have hy3 : W9.cell? ⟨g9, 3, none⟩ = some (.slice A3 x.f3.length c3) := (blk_cell B9.out 3).trans rfl
      have hy4 : W9.cell? ⟨g9, 4, none⟩ = some (.int .i64 x.f4) := (blk_cell B9.out 4).trans rfl
      by_cases q0 : 20 < x.f2.length
      · have q0b : decide (20 < (x.f2.length : Int)) = true := decide_eq_true (by omega)
        -- [slow
        as_aux_lemma =>
          go_wp2
          go_roundw
          case rel => exact ⟨i + 1, L, cs, s0, s1, by omega, by go_num, EV9, ⟨GD.out.skip⟩⟩
          case measure => simp [intOf]; omega
        -- slow]
      have q0b : decide (20 < (x.f2.length : Int)) = false := decide_eq_false (by omega)
      by_cases q1 : 20 < x.f3.length
      · have q1b : decide (20 < (x.f3.length : Int)) = true := decide_eq_true (by omega)
        -- [slow
        as_aux_lemma =>
          go_wp2
          go_roundw
          case rel => exact ⟨i + 1, L, cs, s0, s1, by omega, by go_num, EV9, ⟨GD.out.skip⟩⟩
          case measure => simp [intOf]; omega
        -- slow]
      have q1b : decide (20 < (x.f3.length : Int)) = false := decide_eq_false (by omega)
      by_cases q2 : x.f0 = 0
      · have q2b : (x.f0 == 0) = true := beq_iff_eq.mpr q2
        -- [slow
        as_aux_lemma =>
          go_wp2
          go_roundw
          case rel => exact ⟨i + 1, L, cs, s0, s1, by omega, by go_num, EV9, ⟨GD.out.skip⟩⟩
          case measure => simp [intOf]; omega
        -- slow]
      have q2b : (x.f0 == 0) = false := beq_eq_false_iff_ne.mpr q2
      by_cases q3 : x.f1 < 1
      · have q3b : decide (x.f1 < 1) = true := decide_eq_true q3
        -- [slow
        as_aux_lemma =>
          go_wp2
          go_roundw
          case rel => exact ⟨i + 1, L, cs, s0, s1, by omega, by go_num, EV9, ⟨GD.out.skip⟩⟩
          case measure => simp [intOf]; omega
        -- slow]
      have q3b : decide (x.f1 < 1) = false := decide_eq_false q3
      by_cases q4 : 3 < x.f1
      · have q4b : decide (3 < x.f1) = true := decide_eq_true q4
        -- [slow
        as_aux_lemma =>
          go_wp2
          go_roundw
          case rel => exact ⟨i + 1, L, cs, s0, s1, by omega, by go_num, EV9, ⟨GD.out.skip⟩⟩
          case measure => simp [intOf]; omega
        -- slow]
      have q4b : decide (3 < x.f1) = false := decide_eq_false q4
      have HWANT := Aside0.mk (show 1 ≤ x.f1 ∧ x.f1 ≤ 3 by omega)
      have HL20 := Aside0.mk (show x.f2.length ≤ 20 ∧ x.f3.length ≤ 20 by omega)
      go_wp2_with fail
      refine (ballot_Next.calls s0 s1 0 x.f0 (s0 + 1) x.f0 0 _ (next_once ⟨GD.out.seen.1, GD.out.seen.2.1⟩ (by omega) q2)).mono ?_
      rintro e w4 ⟨rfl, hb⟩
      have EV4 := Aside0.mk (EV9.out.below hb)
      have B94 := Aside0.mk (blk_below B9.out hb)
      clear hb EV9 B9 hs0 hs1 hy0 hy1 hy2 hy3 hy4
      go_upto_region 14 with (fail)
      obtain ⟨W10, hW10⟩ : ∃ W, w4.alloc (.cells #[.int .u64 (s0 + 1), .int .u64 x.f0] 24) = W := ⟨_, rfl⟩
      rw [hW10]
      obtain ⟨g10, hg10⟩ : ∃ g, w4.heap.size = g := ⟨_, rfl⟩
      have hbW : Below w4.heap.size w4 W10 := by rw [← hW10]; exact below_alloc (Below.refl _ _) _
      have EV10 := Aside0.mk (EV4.out.below hbW)
      have B910 := Aside0.mk (blk_below B94.out hbW)
      have B10 := Aside0.mk (show W10.heap[g10]? = some (.cells #[.int .u64 (s0 + 1), .int .u64 x.f0] 24 (0, 0)) from by rw [← hW10, ← hg10]; exact blk_new w4 _)
      have G10 := Aside0.mk (show w.heap.size ≤ g10 from by rw [← hg10]; exact EV4.out.hb.size)
      have N710 := Aside0.mk (show g7 ≠ g10 from by have := blk_lt EV4.out.b7; omega)
      rw [hg10]
      clear hW10 hg10 hbW EV4 B94
      have hs0 : W10.cell? ⟨g7, 0, none⟩ = some (.int .u64 s0) := (blk_cell EV10.out.b7 0).trans rfl
      have hs1 : W10.cell? ⟨g7, 1, none⟩ = some (.int .u64 s1) := (blk_cell EV10.out.b7 1).trans rfl
      have hf0 := blk_frozen EV10.out.b7 0
      have hf1 := blk_frozen EV10.out.b7 1
      have hy4 : W10.cell? ⟨g9, 4, none⟩ = some (.int .i64 x.f4) := (blk_cell B910.out 4).trans rfl
      have hz0 : W10.cell? ⟨g10, 0, none⟩ = some (.int .u64 (s0 + 1)) := (blk_cell B10.out 0).trans rfl
      have hz1 : W10.cell? ⟨g10, 1, none⟩ = some (.int .u64 x.f0) := (blk_cell B10.out 1).trans rfl
      go_upto_if 87 with fail
      go_cut [] (fun wc => ∃ t0 t1 : Int, Aside0 (Env w wc (.slice (some ⟨g5, 0, none⟩) n cap5) u6 L cs g7 t0 t1) ∧ Aside0 (wc.heap[g9]? = some (.cells #[.int .u64 x.f0, .int .i64 x.f1, .slice A2 x.f2.length c2, .slice A3 x.f3.length c3, .int .i64 x.f4] 69 (0, 0))) ∧ Aside0 (wc.heap[g10]? = some (.cells #[.int .u64 (s0 + 1), .int .u64 x.f0] 24 (0, 0))) ∧ 0 ≤ t0 ∧ t0 ≤ i + 1 ∧ In64 t1)
      case first =>
        by_cases q5 : x.f4 = 0
        · have q5b : (x.f4 == 0) = true := beq_iff_eq.mpr q5
          (first | rw [q5b] | skip)
          go_wp2
          go_meet
          exact ⟨s0 + 1, x.f0, ⟨EV10.out.put7 _ _⟩, ⟨keepB B910.out (fun q => blk_ne B910.out EV10.out.b7 (by decide) q)⟩, ⟨keepB B10.out (fun q => N710.out q.symm)⟩, by have := GD.out.seen.1; omega, by have := GD.out.seen.2.1; omega, HX64.out⟩
        · have q5b : (x.f4 == 0) = false := beq_eq_false_iff_ne.mpr q5
          (first | rw [q5b] | skip)
          go_wp2
          go_meet
          exact ⟨s0, s1, EV10, B910, B10, GD.out.seen.1, by have := GD.out.seen.2.1; omega, GD.out.seen.2.2⟩
      case rest =>
        as_aux_lemma =>
          clear EV10 B910 B10 hs0 hs1 hf0 hf1 hy4 hz0 hz1
          obtain ⟨t0, t1, EVc, B9, B10, ht0, ht1, ht2⟩ := hcut
          go_upto_region 18 with (fail)
          obtain ⟨W13, hW13⟩ : ∃ W, wc.alloc (.cells #[.int .u64 0, .int .u64 0] 24) = W := ⟨_, rfl⟩
          rw [hW13]
          obtain ⟨g13, hg13⟩ : ∃ g, wc.heap.size = g := ⟨_, rfl⟩
          have hbW : Below wc.heap.size wc W13 := by rw [← hW13]; exact below_alloc (Below.refl _ _) _
          have EV := Aside0.mk (EVc.out.below hbW)
          have N713 := Aside0.mk (show g7 ≠ g13 from by have := blk_lt EVc.out.b7; omega)
          have IN := Aside0.mk (show Inn w W13 (.slice none 0 0) [] g9 #[.int .u64 x.f0, .int .i64 x.f1, .slice A2 x.f2.length c2, .slice A3 x.f3.length c3, .int .i64 x.f4] g10 (s0 + 1) x.f0 g13 0 0 from
            ⟨Kd.R_nil _ _ _ _ _, blk_below B9.out hbW, blk_below B10.out hbW, by rw [← hW13, ← hg13]; exact blk_new wc _, ⟨G9.out, G10.out, by rw [← hg13]; exact EVc.out.hb.size⟩, by have := blk_lt B10.out; omega⟩)
          have MD := Aside0.mk (Mid.start (b0 := s0 + 1) (b1 := x.f0) (want := x.f1) GD.out ht0 ht1 ht2)
          rw [hg13]
          clear hW13 hg13 hbW EVc B9 B10 ht0 ht1 ht2
          have hy1 : W13.cell? ⟨g9, 1, none⟩ = some (.int .i64 x.f1) := (blk_cell IN.out.b9 1).trans rfl
          go_wp2_with fail
          clear hy1
          go_loopw [12, 14, 15] (fun v12 v14 jv wq => ∃ (j : Nat) (L' : List S42) (t0 t1 : Int) (ak : List Int) (e0 e1 v : Int), j ≤ x.f2.length ∧ v14 = .int .i64 v ∧ jv = .int .i64 j ∧ Aside0 (Env w wq (.slice (some ⟨g5, 0, none⟩) n cap5) u6 L' cs g7 t0 t1) ∧ Aside0 (Inn w wq v12 ak g9 #[.int .u64 x.f0, .int .i64 x.f1, .slice A2 x.f2.length c2, .slice A3 x.f3.length c3, .int .i64 x.f4] g10 (s0 + 1) x.f0 g13 e0 e1) ∧ Aside0 (Mid n i L L' (s0 + 1) x.f0 t0 t1 ak e0 e1 v x.f1 j)) (fun _ _ jv _ => x.f2.length - (intOf jv).toNat)
          case atStart => exact ⟨0, L, t0, t1, [], 0, 0, x.f1, Nat.zero_le _, rfl, rfl, EV, IN, MD⟩
          case round =>
            clear EV IN MD
            obtain ⟨j, L', t0, t1, ak, e0, e1, v, hj, rfl, rfl, EV, IN, MD⟩ := hrel
            have hy2 : wr.cell? ⟨g9, 2, none⟩ = some (.slice A2 x.f2.length c2) := (blk_cell IN.out.b9 2).trans rfl
            by_cases hjl : j < x.f2.length
            · obtain ⟨ad2, rfl, hx⟩ := Kd.at_int HC2.out (j : Int) (by omega) (by omega)
              rw [Int.toNat_natCast] at hx
              replace hx := pw_cell_below EV.out.hb hx
              generalize rd x.f2 (j : Int) = a at *
              by_cases ha0 : a < 0
              · have hb0 : decide (a < 0) = true := decide_eq_true ha0
                -- [slow
                as_aux_lemma =>
                  go_wp2
                  go_roundw
                  case rel => exact ⟨j + 1, L', t0, t1, ak, e0, e1, v, by omega, rfl, by go_num, EV, IN, ⟨MD.out.skip⟩⟩
                  case measure => simp [intOf]; omega
                -- slow]
              have hb0 : decide (a < 0) = false := decide_eq_false ha0
              by_cases ha1 : (n : Int) ≤ a
              · have hb1 : decide ((n : Int) ≤ a) = true := decide_eq_true ha1
                -- [slow
                as_aux_lemma =>
                  go_wp2
                  go_roundw
                  case rel => exact ⟨j + 1, L', t0, t1, ak, e0, e1, v, by omega, rfl, by go_num, EV, IN, ⟨MD.out.skip⟩⟩
                  case measure => simp [intOf]; omega
                -- slow]
              have hb1 : decide ((n : Int) ≤ a) = false := decide_eq_false ha1
              obtain ⟨x0, rfl⟩ : ∃ m : Nat, a = m := ⟨a.toNat, by omega⟩
              have hx0n : x0 < n := by omega
              obtain ⟨A12, c12, rfl, hle12, hC12⟩ := Kd.R_reads IN.out.r12
              have HC12 := Aside0.mk hC12
              have HLE12 := Aside0.mk hle12
              clear hC12 hle12
              by_cases hin : (x0 : Int) ∈ ak
              · have HIN := Aside0.mk (show winnowlaw12_in.f 2000 ak x0 = some true from by rw [in_eq ak x0 (by have := MD.out.few; have := HL20.out; omega)]; simp [hin])
                -- [slow
                as_aux_lemma =>
                  go_wp2_with fail
                  refine (winnowlaw12_in.calls 2000 A12 c12 ak x0 true _ HC12.out HLE12.out HIN.out).mono ?_
                  rintro e w4 ⟨rfl, hd⟩
                  have EV4 := Aside0.mk (EV.out.below (Drawn0.below hd))
                  have IN4 := Aside0.mk (IN.out.below (Drawn0.below hd))
                  clear hd EV IN hy2 hx HC12
                  go_wp2
                  go_roundw
                  case rel => exact ⟨j + 1, L', t0, t1, ak, e0, e1, v, by omega, rfl, by go_num, EV4, IN4, ⟨MD.out.skip⟩⟩
                  case measure => simp [intOf]; omega
                -- slow]
              · as_aux_lemma =>
                  have HIN := Aside0.mk (show winnowlaw12_in.f 2000 ak x0 = some false from by rw [in_eq ak x0 (by have := MD.out.few; have := HL20.out; omega)]; simp [hin])
                  go_wp2_with fail
                  refine (winnowlaw12_in.calls 2000 A12 c12 ak x0 false _ HC12.out HLE12.out HIN.out).mono ?_
                  rintro e w4 ⟨rfl, hd⟩
                  have EV4 := Aside0.mk (EV.out.below (Drawn0.below hd))
                  have IN4 := Aside0.mk (IN.out.below (Drawn0.below hd))
                  have HNIN := Aside0.mk hin
                  clear hd EV IN hy2 hx HC12 HLE12 HIN hin
                  obtain ⟨y, hy⟩ : ∃ y, L'.getD x0 z42 = y := ⟨_, rfl⟩
                  have HY := Aside0.mk hy
                  obtain ⟨q, rb, p0, p1, pv, hpr, han, hcase⟩ := prep_told y (s0 + 1) x.f0
                  have HPR := Aside0.mk hpr
                  have HAN := Aside0.mk han
                  have HCASE := Aside0.mk hcase
                  obtain ⟨c9, hc9⟩ : ∃ c9, #[Value.int .u64 x.f0, .int .i64 x.f1, .slice (some ad2) x.f2.length c2, .slice A3 x.f3.length c3, .int .i64 x.f4] = c9 := ⟨_, rfl⟩
                  rw [hc9] at IN4
                  have HC9 := Aside0.mk hc9
                  clear hy hpr han hcase hc9
                  go_upto_region 24 with (fail)
                  have q0 : (0 ≤ (x0 : Int)) = True := eq_true (by omega)
                  have q1 : ((x0 : Int) < (n : Int)) = True := eq_true (by omega)
                  -- REGION 24
                  refine start_ (n := 12) (S := fun w' => Env w w' (.slice (some ⟨g5, 0, none⟩) n cap5) u6 L' cs g7 t0 t1 ∧ Inn w w' (.slice A12 ak.length c12) ak g9 c9 g10 (s0 + 1) x.f0 g13 e0 e1) (ds := []) #[false, false, false, false, false, false, false, false, false, false, false, false] (by kernel_rfl) rfl rfl ⟨EV4.out.below (below_drew (Below.refl _ _)), IN4.out.below (below_drew (Below.refl _ _))⟩ (fun hHeld => ?_)
                  refine with_tabW winnowlaw12_RegisterOnce.tab24 winnowlaw12_RegisterOnce.bits24 (fun HT_ HW_ => ?_)
                  generalize w4.drew = wd at hHeld ⊢
                  refine pure_ (i := 0) (N := some 117) (v := ?_) (a' := ?_) #[true, false, false, false, false, false, false, false, false, false, false, false] rfl rfl (any_of HT_.out (by kernel_rfl)) (fun _ _ _ h => h) (Or.inl ⟨by rfl, ?_⟩) ?_ ?_
                  rotate_left
                  · intro w'
                    go_simp
                    with_reducible rfl
                  rotate_left
                  · simp only [Act.put, List.setIfInBounds_toArray, List.set_cons_zero, List.set_cons_succ, i64_w, i32_w]
                    rfl
                  refine pure_ (i := 1) (N := some 118) (v := ?_) (a' := ?_) #[true, true, false, false, false, false, false, false, false, false, false, false] rfl rfl (any_of HT_.out (by kernel_rfl)) (fun _ _ _ h => h) (Or.inl ⟨by rfl, ?_⟩) ?_ ?_
                  rotate_left
                  · intro w'
                    go_simp
                    with_reducible rfl
                  rotate_left
                  · simp only [Act.put, List.setIfInBounds_toArray, List.set_cons_zero, List.set_cons_succ, i64_w, i32_w]
                    rfl
                  refine pure_ (i := 2) (N := some 119) (v := ?_) (a' := ?_) #[true, true, true, false, false, false, false, false, false, false, false, false] rfl rfl (any_of HT_.out (by kernel_rfl)) (fun _ _ _ h => h) (Or.inl ⟨by rfl, ?_⟩) ?_ ?_
                  rotate_left
                  · intro w'
                    go_simp
                    with_reducible rfl
                  rotate_left
                  · simp only [Act.put, List.setIfInBounds_toArray, List.set_cons_zero, List.set_cons_succ, i64_w, i32_w]
                    rfl
                  refine take_ (i := 3) (N := some 120) (v := ?_) (a' := ?_) #[true, true, true, true, false, false, false, false, false, false, false, false] rfl rfl (take_ofW HT_.out HW_.out (by kernel_rfl)) (fun _ _ _ h => h) (Or.inl ⟨by rfl, ?_⟩) hHeld ?_ ?_
                  rotate_left
                  · rintro w' ⟨E, I⟩
                    obtain ⟨z0, z1, z2, z3, z4⟩ := E.cells5 x0 hx0n
                    rw [HY.out] at z0 z1 z2 z3 z4
                    go_simp
                    with_reducible rfl
                  rotate_left
                  · simp only [Act.put, List.setIfInBounds_toArray, List.set_cons_zero, List.set_cons_succ, i64_w, i32_w]
                    rfl
                  refine take_ (i := 4) (N := some 121) (v := ?_) (a' := ?_) #[true, true, true, true, true, false, false, false, false, false, false, false] rfl rfl (take_ofW HT_.out HW_.out (by kernel_rfl)) (fun _ _ _ h => h) (Or.inl ⟨by rfl, ?_⟩) hHeld ?_ ?_
                  rotate_left
                  · rintro w' ⟨E, I⟩
                    have z0 : w'.cell? ⟨g10, 0, none⟩ = some (.int .u64 (s0 + 1)) := (blk_cell I.b10 0).trans rfl
                    have z1 : w'.cell? ⟨g10, 1, none⟩ = some (.int .u64 x.f0) := (blk_cell I.b10 1).trans rfl
                    go_simp
                    with_reducible rfl
                  rotate_left
                  · simp only [Act.put, List.setIfInBounds_toArray, List.set_cons_zero, List.set_cons_succ, i64_w, i32_w]
                    rfl
                  refine join_ (σ := Nat) 2 #[true, true, true, true, true, true, true, true, true, true, false, false] (fun b => [(122, .tuple #[.agg #[.int .u64 (q).f0.f0, .int .u64 (q).f0.f1, .int .u64 (q).f1.f0, .int .u64 (q).f1.f1, .int .i64 (q).f2], .bool rb]), (17, .pointer (some ⟨b, 0, none⟩)), (116, .tuple #[.agg #[.int .u64 (q).f0.f0, .int .u64 (q).f0.f1, .int .u64 (q).f1.f0, .int .u64 (q).f1.f1, .int .i64 (q).f2], .bool rb]), (123, .agg #[.int .u64 (q).f0.f0, .int .u64 (q).f0.f1, .int .u64 (q).f1.f0, .int .u64 (q).f1.f1, .int .i64 (q).f2]), (124, .bool rb)]) (fun (b : Nat) w' => (Env w w' (.slice (some ⟨g5, 0, none⟩) n cap5) u6 L' cs g7 t0 t1 ∧ Inn w w' (.slice A12 ak.length c12) ak g9 c9 g10 (s0 + 1) x.f0 g13 e0 e1) ∧ w'.heap[b]? = some (.cells #[.int .u64 0, .int .u64 0, .int .u64 0, .int .u64 0, .int .i64 0] 42 (0, 0)) ∧ (g5 ≠ b ∧ g7 ≠ b ∧ g9 ≠ b ∧ g10 ≠ b ∧ g13 ≠ b) ∧ w.heap.size ≤ b) ?_ ?_
                  rotate_left
                  · intro hCont
                    refine two_ (i := 5) (j := 9) (Ni := some 122) (Nj := some 17) #[true, true, true, true, true, true, false, false, false, false, false, false] #[true, true, true, true, true, false, false, false, false, true, false, false] rfl rfl rfl rfl (two_of HT_.out (by kernel_rfl)) (by decide) (by decide) (fun K hK => ?_) (fun K hK => ?_)
                    · refine goes_ Try.func22 (by kernel_rfl) rfl #[.agg #[.int .u64 (y).f0.f0, .int .u64 (y).f0.f1, .int .u64 (y).f1.f0, .int .u64 (y).f1.f1, .int .i64 (y).f2], .agg #[.int .u64 (s0 + 1), .int .u64 x.f0]] (by rfl) rfl rfl (by (try simp only [List.map_toArray, List.map_cons, List.map_nil]); first | done | rfl) ?_
                      with_reducible refine (register_Prepare.calls 3 (y).f0.f0 (y).f0.f1 (y).f1.f0 (y).f1.f1 (y).f2 (s0 + 1) x.f0 (q).f0.f0 (q).f0.f1 (q).f1.f0 (q).f1.f1 (q).f2 rb _ HPR.out).mono ?_
                      rintro e wc2 ⟨rfl, hb⟩
                      refine ⟨_, rfl, ?_⟩
                      refine hK.out _ _ ⟨hHeld.1.below hb, hHeld.2.below hb⟩ (fun hHeld => ?_)
                      clear hK K
                      refine norm_ (a' := ?_) ?_ ?_
                      rotate_left
                      · show Act.put _ (some 122) _ = _
                        simp only [Act.put, List.setIfInBounds_toArray, List.set_cons_zero, List.set_cons_succ, i64_w, i32_w]
                        rfl
                      refine pure_ (i := 6) (N := some 116) (v := ?_) (a' := ?_) #[true, true, true, true, true, true, true, false, false, false, false, false] rfl rfl (any_of HT_.out (by kernel_rfl)) (fun _ _ _ h => h) (Or.inl ⟨by rfl, ?_⟩) ?_ ?_
                      rotate_left
                      · intro w'
                        go_simp
                        with_reducible rfl
                      rotate_left
                      · simp only [Act.put, List.setIfInBounds_toArray, List.set_cons_zero, List.set_cons_succ, i64_w, i32_w]
                        rfl
                      refine pure_ (i := 7) (N := some 123) (v := ?_) (a' := ?_) #[true, true, true, true, true, true, true, true, false, false, false, false] rfl rfl (any_of HT_.out (by kernel_rfl)) (fun _ _ _ h => h) (Or.inl ⟨by rfl, ?_⟩) ?_ ?_
                      rotate_left
                      · intro w'
                        go_simp
                        with_reducible rfl
                      rotate_left
                      · simp only [Act.put, List.setIfInBounds_toArray, List.set_cons_zero, List.set_cons_succ, i64_w, i32_w]
                        rfl
                      refine pure_ (i := 8) (N := some 124) (v := ?_) (a' := ?_) #[true, true, true, true, true, true, true, true, true, false, false, false] rfl rfl (any_of HT_.out (by kernel_rfl)) (fun _ _ _ h => h) (Or.inl ⟨by rfl, ?_⟩) ?_ ?_
                      rotate_left
                      · intro w'
                        go_simp
                        with_reducible rfl
                      rotate_left
                      · simp only [Act.put, List.setIfInBounds_toArray, List.set_cons_zero, List.set_cons_succ, i64_w, i32_w]
                        rfl
                      refine one_ (i := 9) (N := some 17) #[true, true, true, true, true, true, true, true, true, true, false, false] rfl rfl (one_of HT_.out (by kernel_rfl)) (by decide) (fun K hK => ?_)
                      refine box_step ?hg (N := 17) ?hd (cs := #[.int .u64 0, .int .u64 0, .int .u64 0, .int .u64 0, .int .i64 0]) (t := 42) ?hr ?_; (case hd => rfl); (case hg => rfl); (case hr => first | (go_simp; done) | (go_simp; rfl))
                      intro gb hg wb2 hbox hb2
                      have hne : g5 ≠ gb ∧ g7 ≠ gb ∧ g9 ≠ gb ∧ g10 ≠ gb ∧ g13 ≠ gb := ⟨Nat.ne_of_lt (Nat.lt_of_lt_of_eq (hHeld.1.lt5 hn1) hg.symm), Nat.ne_of_lt (Nat.lt_of_lt_of_eq (blk_lt hHeld.1.b7) hg.symm), Nat.ne_of_lt (Nat.lt_of_lt_of_eq (blk_lt hHeld.2.b9) hg.symm), Nat.ne_of_lt (Nat.lt_of_lt_of_eq (blk_lt hHeld.2.b10) hg.symm), Nat.ne_of_lt (Nat.lt_of_lt_of_eq (blk_lt hHeld.2.b13) hg.symm)⟩
                      have hge : w.heap.size ≤ gb := by rw [hg]; exact hHeld.1.hb.size
                      refine hK.out _ _ ⟨hHeld.1.below hb2, hHeld.2.below hb2⟩ (fun hHeld => ?_)
                      clear hK K
                      refine norm_ (a' := ?_) ?_ ?_
                      rotate_left
                      · show Act.put _ (some 17) _ = _
                        simp only [Act.put, List.setIfInBounds_toArray, List.set_cons_zero, List.set_cons_succ, i64_w, i32_w]
                        rfl
                      exact norm_ (by simp only [putAll, Act.put, List.setIfInBounds_toArray, List.set_cons_zero, List.set_cons_succ]) (hCont gb _ ⟨hHeld, hbox, hne, hge⟩)
                    · refine box_step ?hg (N := 17) ?hd (cs := #[.int .u64 0, .int .u64 0, .int .u64 0, .int .u64 0, .int .i64 0]) (t := 42) ?hr ?_; (case hd => rfl); (case hg => rfl); (case hr => first | (go_simp; done) | (go_simp; rfl))
                      intro gb hg wb2 hbox hb2
                      have hne : g5 ≠ gb ∧ g7 ≠ gb ∧ g9 ≠ gb ∧ g10 ≠ gb ∧ g13 ≠ gb := ⟨Nat.ne_of_lt (Nat.lt_of_lt_of_eq (hHeld.1.lt5 hn1) hg.symm), Nat.ne_of_lt (Nat.lt_of_lt_of_eq (blk_lt hHeld.1.b7) hg.symm), Nat.ne_of_lt (Nat.lt_of_lt_of_eq (blk_lt hHeld.2.b9) hg.symm), Nat.ne_of_lt (Nat.lt_of_lt_of_eq (blk_lt hHeld.2.b10) hg.symm), Nat.ne_of_lt (Nat.lt_of_lt_of_eq (blk_lt hHeld.2.b13) hg.symm)⟩
                      have hge : w.heap.size ≤ gb := by rw [hg]; exact hHeld.1.hb.size
                      refine hK.out _ _ ⟨hHeld.1.below hb2, hHeld.2.below hb2⟩ (fun hHeld => ?_)
                      clear hK K
                      refine norm_ (a' := ?_) ?_ ?_
                      rotate_left
                      · show Act.put _ (some 17) _ = _
                        simp only [Act.put, List.setIfInBounds_toArray, List.set_cons_zero, List.set_cons_succ, i64_w, i32_w]
                        rfl
                      refine one_ (i := 5) (N := some 122) #[true, true, true, true, true, true, false, false, false, true, false, false] rfl rfl (one_of HT_.out (by kernel_rfl)) (by decide) (fun K hK => ?_)
                      refine goes_ Try.func22 (by kernel_rfl) rfl #[.agg #[.int .u64 (y).f0.f0, .int .u64 (y).f0.f1, .int .u64 (y).f1.f0, .int .u64 (y).f1.f1, .int .i64 (y).f2], .agg #[.int .u64 (s0 + 1), .int .u64 x.f0]] (by rfl) rfl rfl (by (try simp only [List.map_toArray, List.map_cons, List.map_nil]); first | done | rfl) ?_
                      with_reducible refine (register_Prepare.calls 3 (y).f0.f0 (y).f0.f1 (y).f1.f0 (y).f1.f1 (y).f2 (s0 + 1) x.f0 (q).f0.f0 (q).f0.f1 (q).f1.f0 (q).f1.f1 (q).f2 rb _ HPR.out).mono ?_
                      rintro e wc2 ⟨rfl, hb⟩
                      refine ⟨_, rfl, ?_⟩
                      refine hK.out _ _ ⟨hHeld.1.below hb, hHeld.2.below hb⟩ (fun hHeld => ?_)
                      clear hK K
                      refine norm_ (a' := ?_) ?_ ?_
                      rotate_left
                      · show Act.put _ (some 122) _ = _
                        simp only [Act.put, List.setIfInBounds_toArray, List.set_cons_zero, List.set_cons_succ, i64_w, i32_w]
                        rfl
                      have hbox2 := blk_below hbox hb
                      refine pure_ (i := 6) (N := some 116) (v := ?_) (a' := ?_) #[true, true, true, true, true, true, true, false, false, true, false, false] rfl rfl (any_of HT_.out (by kernel_rfl)) (fun _ _ _ h => h) (Or.inl ⟨by rfl, ?_⟩) ?_ ?_
                      rotate_left
                      · intro w'
                        go_simp
                        with_reducible rfl
                      rotate_left
                      · simp only [Act.put, List.setIfInBounds_toArray, List.set_cons_zero, List.set_cons_succ, i64_w, i32_w]
                        rfl
                      refine pure_ (i := 7) (N := some 123) (v := ?_) (a' := ?_) #[true, true, true, true, true, true, true, true, false, true, false, false] rfl rfl (any_of HT_.out (by kernel_rfl)) (fun _ _ _ h => h) (Or.inl ⟨by rfl, ?_⟩) ?_ ?_
                      rotate_left
                      · intro w'
                        go_simp
                        with_reducible rfl
                      rotate_left
                      · simp only [Act.put, List.setIfInBounds_toArray, List.set_cons_zero, List.set_cons_succ, i64_w, i32_w]
                        rfl
                      refine pure_ (i := 8) (N := some 124) (v := ?_) (a' := ?_) #[true, true, true, true, true, true, true, true, true, true, false, false] rfl rfl (any_of HT_.out (by kernel_rfl)) (fun _ _ _ h => h) (Or.inl ⟨by rfl, ?_⟩) ?_ ?_
                      rotate_left
                      · intro w'
                        go_simp
                        with_reducible rfl
                      rotate_left
                      · simp only [Act.put, List.setIfInBounds_toArray, List.set_cons_zero, List.set_cons_succ, i64_w, i32_w]
                        rfl
                      exact norm_ (by simp only [putAll, Act.put, List.setIfInBounds_toArray, List.set_cons_zero, List.set_cons_succ]) (hCont gb _ ⟨hHeld, hbox2, hne, hge⟩)
                  rintro g17 w86 ⟨⟨hE, hI⟩, hbox, hne, hge⟩
                  have EV86 := Aside0.mk hE
                  have IN86 := Aside0.mk hI
                  have BK86 := Aside0.mk hbox
                  have NE17 := Aside0.mk hne
                  have GE17 := Aside0.mk hge
                  have hHeld : Env w w86 (.slice (some ⟨g5, 0, none⟩) n cap5) u6 L' cs g7 t0 t1 ∧ Inn w w86 (.slice A12 ak.length c12) ak g9 c9 g10 (s0 + 1) x.f0 g13 e0 e1 := ⟨hE, hI⟩
                  clear hE hI hne hge EV4 IN4
                  refine norm_ (a' := ?_) ?_ ?_
                  rotate_left
                  · simp only [putAll, Act.put, List.setIfInBounds_toArray, List.set_cons_zero, List.set_cons_succ]
                    rfl
                  refine one_ (i := 10) (N := none) #[true, true, true, true, true, true, true, true, true, true, true, false] rfl rfl (one_of HT_.out (by kernel_rfl)) (by decide) (fun K hK => ?_)
                  have hs0 : w86.cell? ⟨g17, 0, none⟩ = some (.int .u64 0) := (blk_cell hbox 0).trans rfl
                  have hs1 : w86.cell? ⟨g17, 1, none⟩ = some (.int .u64 0) := (blk_cell hbox 1).trans rfl
                  have hs2 : w86.cell? ⟨g17, 2, none⟩ = some (.int .u64 0) := (blk_cell hbox 2).trans rfl
                  have hs3 : w86.cell? ⟨g17, 3, none⟩ = some (.int .u64 0) := (blk_cell hbox 3).trans rfl
                  have hs4 : w86.cell? ⟨g17, 4, none⟩ = some (.int .i64 0) := (blk_cell hbox 4).trans rfl
                  have hf0 := blk_frozen hbox 0
                  have hf1 := blk_frozen hbox 1
                  have hf2 := blk_frozen hbox 2
                  have hf3 := blk_frozen hbox 3
                  have hf4 := blk_frozen hbox 4
                  refine skip_ (w1 := ?_) (by rfl) rfl ?_ ?_
                  rotate_left
                  · go_simp
                    rfl
                  refine hK.out _ _ ⟨(EV86.out.box (keep5 _ g17 _ _ _ _ _) BK86.out NE17.out.1 NE17.out.2.1 (by decide) (below_set5 EV86.out.hb GE17.out _ _ _ _ _)), (IN86.out.box (keep5 _ g17 _ _ _ _ _) BK86.out NE17.out.2.2.1 NE17.out.2.2.2.1 NE17.out.2.2.2.2 (by decide))⟩ (fun hHeld => ?_)
                  clear hK K
                  refine pure_ (i := 11) (N := some 18) (v := ?_) (a' := ?_) #[true, true, true, true, true, true, true, true, true, true, true, true] rfl rfl (any_of HT_.out (by kernel_rfl)) (fun _ _ _ h => h) (Or.inl ⟨by rfl, ?_⟩) ?_ ?_
                  rotate_left
                  · intro w'
                    go_simp
                    with_reducible rfl
                  rotate_left
                  · simp only [Act.put, List.setIfInBounds_toArray, List.set_cons_zero, List.set_cons_succ, i64_w, i32_w]
                    rfl
                  refine done_ (done_of HT_.out (by kernel_rfl)) ?_
                  clear hs0 hs1 hs2 hs3 hs4 hf0 hf1 hf2 hf3 hf4 hbox
                  obtain ⟨W17, hW17⟩ : ∃ W, (((((w86.setCell ⟨g17, 0, none⟩ (.int .u64 (q).f0.f0)).setCell ⟨g17, 1, none⟩ (.int .u64 (q).f0.f1)).setCell ⟨g17, 2, none⟩ (.int .u64 (q).f1.f0)).setCell ⟨g17, 3, none⟩ (.int .u64 (q).f1.f1)).setCell ⟨g17, 4, none⟩ (.int .i64 (q).f2)) = W := ⟨_, rfl⟩
                  rw [hW17] at hHeld ⊢
                  have BK17 := Aside0.mk (show W17.heap[g17]? = some (.cells #[.int .u64 (q).f0.f0, .int .u64 (q).f0.f1, .int .u64 (q).f1.f0, .int .u64 (q).f1.f1, .int .i64 (q).f2] 42 (0, 0)) from by rw [← hW17]; exact put5 BK86.out)
                  obtain ⟨hE, hI⟩ := hHeld
                  have EV17 := Aside0.mk hE
                  have IN17 := Aside0.mk hI
                  clear hE hI hW17 EV86 IN86 BK86
                  -- END REGION 24
                  clear q0 q1
                  have hz0 : W17.cell? ⟨g17, 0, none⟩ = some (.int .u64 q.f0.f0) := (blk_cell BK17.out 0).trans rfl
                  have hz1 : W17.cell? ⟨g17, 1, none⟩ = some (.int .u64 q.f0.f1) := (blk_cell BK17.out 1).trans rfl
                  have hz2 : W17.cell? ⟨g17, 2, none⟩ = some (.int .u64 q.f1.f0) := (blk_cell BK17.out 2).trans rfl
                  have hz3 : W17.cell? ⟨g17, 3, none⟩ = some (.int .u64 q.f1.f1) := (blk_cell BK17.out 3).trans rfl
                  have hz4 : W17.cell? ⟨g17, 4, none⟩ = some (.int .i64 q.f2) := (blk_cell BK17.out 4).trans rfl
                  have hy0 : W17.cell? ⟨g10, 0, none⟩ = some (.int .u64 (s0 + 1)) := (blk_cell IN17.out.b10 0).trans rfl
                  have hy1 : W17.cell? ⟨g10, 1, none⟩ = some (.int .u64 x.f0) := (blk_cell IN17.out.b10 1).trans rfl
                  go_wp2_with fail
                  refine (register_Answer.calls q.f0.f0 q.f0.f1 q.f1.f0 q.f1.f1 q.f2 1 (s0 + 1) x.f0 rb false 5 1 (s0 + 1) x.f0 p0 p1 pv rb [] [] [] _ HAN.out).mono ?_
                  rintro e wA ⟨va, vb, vc, rfl, ha1, ha2, ha3, hb⟩
                  obtain ⟨Aa, ca, rfl⟩ := Kd.R_slice ha1
                  obtain ⟨Ab, cb, rfl⟩ := Kd.R_slice ha2
                  obtain ⟨Ac, cc, rfl⟩ := Kd.R_slice ha3
                  clear ha1 ha2 ha3
                  have EVA := Aside0.mk (EV17.out.below hb)
                  have INA := Aside0.mk (IN17.out.below hb)
                  have BKA := Aside0.mk (blk_below BK17.out hb)
                  clear hb hz0 hz1 hz2 hz3 hz4 hy0 hy1 EV17 IN17 BK17
                  go_upto_region 26 with (fail)
                  obtain ⟨W19, hW19⟩ : ∃ W, wA.alloc (.cells #[.int .i64 5, .int .u64 1, .int .u64 (s0 + 1), .int .u64 x.f0, .int .u64 p0, .int .u64 p1, .int .i64 pv, .bool rb, .slice Aa 0 ca, .slice Ab 0 cb, .slice Ac 0 cc] 58) = W := ⟨_, rfl⟩
                  rw [hW19]
                  have hbW : Below wA.heap.size wA W19 := by rw [← hW19]; exact below_alloc (Below.refl _ _) _
                  have BK19 := Aside0.mk (show W19.heap[wA.heap.size]? = some (.cells #[.int .i64 5, .int .u64 1, .int .u64 (s0 + 1), .int .u64 x.f0, .int .u64 p0, .int .u64 p1, .int .i64 pv, .bool rb, .slice Aa 0 ca, .slice Ab 0 cb, .slice Ac 0 cc] 58 (0, 0)) from by rw [← hW19]; exact blk_new wA _)
                  have EV19 := Aside0.mk (EVA.out.below hbW)
                  have IN19 := Aside0.mk (INA.out.below hbW)
                  have BK17 := Aside0.mk (blk_below BKA.out hbW)
                  obtain ⟨g19, hg19⟩ : ∃ g, wA.heap.size = g := ⟨_, rfl⟩
                  have NE19 := Aside0.mk (show g5 ≠ g19 ∧ g7 ≠ g19 ∧ g9 ≠ g19 ∧ g10 ≠ g19 ∧ g13 ≠ g19 from by rw [← hg19]; exact ⟨Nat.ne_of_lt (EVA.out.lt5 hn1), Nat.ne_of_lt (blk_lt EVA.out.b7), Nat.ne_of_lt (blk_lt INA.out.b9), Nat.ne_of_lt (blk_lt INA.out.b10), Nat.ne_of_lt (blk_lt INA.out.b13)⟩)
                  rw [hg19] at BK19 ⊢
                  clear hW19 hbW hg19 EVA INA BKA
                  have hz0 : W19.cell? ⟨g17, 0, none⟩ = some (.int .u64 q.f0.f0) := (blk_cell BK17.out 0).trans rfl
                  have hz1 : W19.cell? ⟨g17, 1, none⟩ = some (.int .u64 q.f0.f1) := (blk_cell BK17.out 1).trans rfl
                  have hz2 : W19.cell? ⟨g17, 2, none⟩ = some (.int .u64 q.f1.f0) := (blk_cell BK17.out 2).trans rfl
                  have hz3 : W19.cell? ⟨g17, 3, none⟩ = some (.int .u64 q.f1.f1) := (blk_cell BK17.out 3).trans rfl
                  have hz4 : W19.cell? ⟨g17, 4, none⟩ = some (.int .i64 q.f2) := (blk_cell BK17.out 4).trans rfl
                  obtain ⟨hy0, hy1, hy2, hy3, hy4⟩ := EV19.out.cells5 x0 hx0n
                  have hf0 := EV19.out.free5 x0 hx0n 0
                  have hf1 := EV19.out.free5 x0 hx0n 1
                  have hf2 := EV19.out.free5 x0 hx0n 2
                  have hf3 := EV19.out.free5 x0 hx0n 3
                  have hf4 := EV19.out.free5 x0 hx0n 4
                  rw [Nat.add_zero] at hf0
                  have q0 : (0 ≤ (x0 : Int)) = True := eq_true (by omega)
                  have q1 : ((x0 : Int) < (n : Int)) = True := eq_true (by omega)
                  go_upto_region 27 with (fail)
                  obtain ⟨hrow, hgr⟩ := regs_put EV19.out.r5 x0 hx0n q
                  obtain ⟨W20, hW20⟩ : ∃ W, putReg W19 g5 x0 q = W := ⟨_, rfl⟩
                  have EV20 := Aside0.mk (show Env w W20 (.slice (some ⟨g5, 0, none⟩) n cap5) u6 (L'.set x0 q) cs g7 t0 t1 from by rw [← hW20]; exact EV19.out.reg x0 hx0n q)
                  have IN20 := Aside0.mk (show Inn w W20 (.slice A12 ak.length c12) ak g9 c9 g10 (s0 + 1) x.f0 g13 e0 e1 from by rw [← hW20]; exact IN19.out.reg EV19.out x0 hx0n q)
                  have BK20 := Aside0.mk (show W20.heap[g19]? = some (.cells #[.int .i64 5, .int .u64 1, .int .u64 (s0 + 1), .int .u64 x.f0, .int .u64 p0, .int .u64 p1, .int .i64 pv, .bool rb, .slice Aa 0 ca, .slice Ab 0 cb, .slice Ac 0 cc] 58 (0, 0)) from by rw [← hW20]; exact blk_grown BK19.out hgr (fun e => Kd.R_ne EV19.out.r5 BK19.out (by decide) e))
                  rw [show (((((W19.setCell ⟨g5, x0 * 5, none⟩ (.int .u64 q.f0.f0)).setCell ⟨g5, x0 * 5 + 1, none⟩ (.int .u64 q.f0.f1)).setCell ⟨g5, x0 * 5 + 2, none⟩ (.int .u64 q.f1.f0)).setCell ⟨g5, x0 * 5 + 3, none⟩ (.int .u64 q.f1.f1)).setCell ⟨g5, x0 * 5 + 4, none⟩ (.int .i64 q.f2)) = W20 from hW20]
                  clear hrow hgr hW20 EV19 IN19 BK19 BK17 hz0 hz1 hz2 hz3 hz4 hy0 hy1 hy2 hy3 hy4 hf0 hf1 hf2 hf3 hf4 q0 q1
                  have hc0 : W20.cell? ⟨g19, 4, none⟩ = some (.int .u64 p0) := (blk_cell BK20.out 4).trans rfl
                  have hc1 : W20.cell? ⟨g19, 5, none⟩ = some (.int .u64 p1) := (blk_cell BK20.out 5).trans rfl
                  rcases HCASE.out with ⟨rfl, hok, rfl, rfl, rfl, rfl⟩ | ⟨rfl, hno, rfl, rfl, rfl⟩
                  · have HMD := Aside0.mk (MD.out.more GD.out hx0n HNIN.out HY.out hok (by have := GD.out.seen.2.1; omega) HX64.out)
                    have HAL20 := Aside0.mk (show (ak.length + 1) * 8 ≤ 140737488355328 by have := MD.out.few; have := HL20.out; omega)
                    clear hok hc0 hc1
                    go_upto_region 30 with (at_builtin; refine Kd.R_append KI (w0 := w) w.heap.size rfl (.tmp 140) (.tmp 142) 67 3 (.int .i64 0) 8 rfl Try.underlying67 info3 rfl (by decide) (by omega) (.slice A12 ak.length c12) ak (x0 : Int) [.int .i64 x0] (fun _ => True) (fun _ => False) rfl rfl rfl (fun _ hk => hk.elim) (fun _ _ => trivial) IN20.out.r12 EV20.out.hb EV20.out.hb.size HAL20.out ?_; intro v12 w21 ho hb hg hat; have EV21 := Aside0.mk (EV20.out.grown IN20.out.r12 hg hb); have IN21 := Aside0.mk (IN20.out.grown ho hg); have BK21 := Aside0.mk (blk_grown BK20.out hg (fun e => Kd.R_ne IN20.out.r12 BK20.out (by decide) e)); clear ho hb hg hat EV20 IN20 BK20)
                    have hc0 : w21.cell? ⟨g19, 4, none⟩ = some (.int .u64 y.f1.f0) := (blk_cell BK21.out 4).trans rfl
                    have hc1 : w21.cell? ⟨g19, 5, none⟩ = some (.int .u64 y.f1.f1) := (blk_cell BK21.out 5).trans rfl
                    have hc2 : w21.cell? ⟨g19, 6, none⟩ = some (.int .i64 y.f2) := (blk_cell BK21.out 6).trans rfl
                    have hd0 : w21.cell? ⟨g13, 0, none⟩ = some (.int .u64 e0) := (blk_cell IN21.out.b13 0).trans rfl
                    have hd1 : w21.cell? ⟨g13, 1, none⟩ = some (.int .u64 e1) := (blk_cell IN21.out.b13 1).trans rfl
                    by_cases hv : y.f2 = 0
                    · have hvb : (y.f2 != 0) = false := bne_eq_false_iff_eq.mpr hv
                      have hn : ¬ (y.f2 ≠ 0 ∧ lt2 e0 e1 y.f1.f0 y.f1.f1) := fun h => h.1 hv
                      rw [if_neg hn, if_neg hn, if_neg hn] at HMD
                      clear hn hv
                      go_wp2
                      go_roundw
                      case rel => exact ⟨j + 1, _, t0, t1, _, e0, e1, v, by omega, rfl, by go_num, EV21, ⟨by rw [HC9.out]; exact IN21.out⟩, HMD⟩
                      case measure => simp [intOf]; omega
                    · have hvb : (y.f2 != 0) = true := bne_iff_ne.mpr hv
                      by_cases hlt2 : lt2 e0 e1 y.f1.f0 y.f1.f1
                      · have HLS := Aside0.mk (show winnowref11_Less.f e0 e1 y.f1.f0 y.f1.f1 = some true from by rw [rless_eq, decide_eq_true hlt2])
                        have hn : y.f2 ≠ 0 ∧ lt2 e0 e1 y.f1.f0 y.f1.f1 := ⟨hv, hlt2⟩
                        rw [if_pos hn, if_pos hn, if_pos hn] at HMD
                        clear hn hv hlt2
                        go_wp2_with fail
                        refine (winnowref11_Less.calls e0 e1 y.f1.f0 y.f1.f1 true _ HLS.out).mono ?_
                        rintro e w22 ⟨rfl, hb⟩
                        have EV22 := Aside0.mk (EV21.out.below hb)
                        have IN22 := Aside0.mk (IN21.out.below hb)
                        have BK22 := Aside0.mk (blk_below BK21.out hb)
                        clear hb EV21 IN21 BK21 hc0 hc1 hc2 hd0 hd1
                        go_upto_region 31 with (fail)
                        have hc0 : w22.cell? ⟨g19, 4, none⟩ = some (.int .u64 y.f1.f0) := (blk_cell BK22.out 4).trans rfl
                        have hc1 : w22.cell? ⟨g19, 5, none⟩ = some (.int .u64 y.f1.f1) := (blk_cell BK22.out 5).trans rfl
                        have hc2 : w22.cell? ⟨g19, 6, none⟩ = some (.int .i64 y.f2) := (blk_cell BK22.out 6).trans rfl
                        have hd0 : w22.cell? ⟨g13, 0, none⟩ = some (.int .u64 e0) := (blk_cell IN22.out.b13 0).trans rfl
                        have hd1 : w22.cell? ⟨g13, 1, none⟩ = some (.int .u64 e1) := (blk_cell IN22.out.b13 1).trans rfl
                        have hf0 := blk_frozen IN22.out.b13 0
                        have hf1 := blk_frozen IN22.out.b13 1
                        have hn1' := NE19.out.2.2.2.2
                        have hn2' : g19 ≠ g13 := fun e => NE19.out.2.2.2.2 e.symm
                        go_region
                        all_goals
                          go_wp2
                          go_roundw
                          case rel => exact ⟨j + 1, _, t0, t1, _, y.f1.f0, y.f1.f1, y.f2, by omega, rfl, by go_num, ⟨(EV22.out.put13 IN22.out N713.out _ _).below (below_drew (Below.refl _ _))⟩, ⟨by rw [HC9.out]; exact (IN22.out.put13 _ _).below (below_drew (Below.refl _ _))⟩, HMD⟩
                          case measure => simp [intOf]; omega
                      · have HLS := Aside0.mk (show winnowref11_Less.f e0 e1 y.f1.f0 y.f1.f1 = some false from by rw [rless_eq, decide_eq_false hlt2])
                        have hn : ¬ (y.f2 ≠ 0 ∧ lt2 e0 e1 y.f1.f0 y.f1.f1) := fun h => hlt2 h.2
                        rw [if_neg hn, if_neg hn, if_neg hn] at HMD
                        clear hn hv hlt2
                        go_wp2_with fail
                        refine (winnowref11_Less.calls e0 e1 y.f1.f0 y.f1.f1 false _ HLS.out).mono ?_
                        rintro e w22 ⟨rfl, hb⟩
                        have EV22 := Aside0.mk (EV21.out.below hb)
                        have IN22 := Aside0.mk (IN21.out.below hb)
                        clear hb EV21 IN21 BK21 hc0 hc1 hc2 hd0 hd1
                        go_wp2
                        go_roundw
                        case rel => exact ⟨j + 1, _, t0, t1, _, e0, e1, v, by omega, rfl, by go_num, EV22, ⟨by rw [HC9.out]; exact IN22.out⟩, HMD⟩
                        case measure => simp [intOf]; omega
                  · obtain ⟨m0, m1, hmx, hm⟩ := max_two2 t0 t1 q.f0.f0 q.f0.f1
                    have HMX := Aside0.mk hmx
                    have HMD := Aside0.mk (MD.out.not_ hx0n HY.out hm)
                    clear hmx hm hno
                    have hd0 : W20.cell? ⟨g7, 0, none⟩ = some (.int .u64 t0) := (blk_cell EV20.out.b7 0).trans rfl
                    have hd1 : W20.cell? ⟨g7, 1, none⟩ = some (.int .u64 t1) := (blk_cell EV20.out.b7 1).trans rfl
                    go_wp2_with (first
                      | ((with_reducible refine gate_dst (N := 138) rfl ?_); (try (refine gate_guard (by rfl) ?_; dsimp only)); refine Kd.R_lit k24 _ 24 ?hg (N := 138) ?hd (xs := [(⟨t0, t1⟩ : S24), ⟨q.f0.f0, q.f0.f1⟩]) (inner := [.int .u64 t0, .int .u64 t1, .int .u64 q.f0.f0, .int .u64 q.f0.f1]) (ok := fun _ => True) (okp := fun _ => True) ?hr ?hp (fun _ hk => hk) trivial (Below.refl _ _) (Nat.le_refl _) (by simp) ?_; (case hd => rfl); (case hg => rfl); (case hr => first | (go_simp; done) | (go_simp; rfl)); (case hp => exact (Reps.c2 (show Kd.M k24 _ _ _ (⟨t0, t1⟩ : S24) [.int .u64 t0, .int .u64 t1] from (k24_mkM _ _ _ (⟨t0, t1⟩ : S24))) (Reps.c2 (show Kd.M k24 _ _ _ (⟨q.f0.f0, q.f0.f1⟩ : S24) [.int .u64 q.f0.f0, .int .u64 q.f0.f1] from (k24_mkM _ _ _ (⟨q.f0.f0, q.f0.f1⟩ : S24))) (Reps.none _ _)))); intro vM w21 ho hb hg_ hnew_; have EV21 := Aside0.mk (EV20.out.below hb); have IN21 := Aside0.mk (IN20.out.below hb); have HM := Aside0.mk ho; clear hg_ hnew_ ho hb hd0 hd1 hc0 hc1 EV20 IN20 BK20))
                    obtain ⟨AM, cM, rfl, hleM, hCM⟩ := Kd.R_reads HM.out
                    refine (winnowref11_Max.calls 5 AM cM _ m0 m1 _ hCM hleM HMX.out).mono ?_
                    rintro e w22 ⟨rfl, hb⟩
                    have EV22 := Aside0.mk (EV21.out.below hb)
                    have IN22 := Aside0.mk (IN21.out.below hb)
                    clear hb EV21 IN21 HM hleM hCM
                    have hd0 : w22.cell? ⟨g7, 0, none⟩ = some (.int .u64 t0) := (blk_cell EV22.out.b7 0).trans rfl
                    have hd1 : w22.cell? ⟨g7, 1, none⟩ = some (.int .u64 t1) := (blk_cell EV22.out.b7 1).trans rfl
                    have hf0 := blk_frozen EV22.out.b7 0
                    have hf1 := blk_frozen EV22.out.b7 1
                    go_wp2
                    go_roundw
                    case rel => exact ⟨j + 1, _, m0, m1, ak, e0, e1, v, by omega, rfl, by go_num, ⟨EV22.out.put7 m0 m1⟩, ⟨by rw [HC9.out]; exact IN22.out.put7 EV22.out N710.out N713.out m0 m1⟩, HMD⟩
                    case measure => simp [intOf]; omega
            · as_aux_lemma =>
                obtain rfl : j = x.f2.length := by omega
                obtain ⟨A12, c12, rfl, hle12, hC12⟩ := Kd.R_reads IN.out.r12
                clear hle12 hC12
                by_cases hmj : 2 * ak.length ≤ n
                · have hmb : decide (2 * (ak.length : Int) ≤ (n : Int)) = true := decide_eq_true (by omega)
                  have hst := Aside0.mk (MD.out.stop GD.out)
                  have hw0 : IntKind.i64.wrap (2 * (ak.length : Int)) = 2 * (ak.length : Int) := i64_small (by omega) (by omega)
                  -- [slow
                  as_aux_lemma =>
                    go_upto_region 32 with (fail)
                    go_quiet (fail)
                    go_wp2
                    go_roundw
                    case rel => exact ⟨i + 1, L', cs, t0, t1, by omega, by go_num, ⟨EV.out.below (pw_below_drewN (Below.refl _ _) _)⟩, hst⟩
                    case measure => simp [intOf]; omega
                  -- slow]
                have hmb : decide (2 * (ak.length : Int) ≤ (n : Int)) = false := decide_eq_false (by omega)
                have HMJ := Aside0.mk (show n < 2 * ak.length by omega)
                have hakl : (ak.length : Int) ≤ 20 := by have := MD.out.few; have := HL20.out; omega
                have hw0 : IntKind.i64.wrap (2 * (ak.length : Int)) = 2 * (ak.length : Int) := i64_small (by omega) (by omega)
                obtain ⟨ru, hru, hun⟩ := used_eq (l.take i) (b0 := s0 + 1) MD.out.ok HX64.out (by have := MD.out.len; omega)
                have HRU := Aside0.mk hru
                have HUN := Aside0.mk hun
                obtain ⟨c9, hc9⟩ : ∃ c9, #[Value.int .u64 x.f0, .int .i64 x.f1, .slice A2 x.f2.length c2, .slice A3 x.f3.length c3, .int .i64 x.f4] = c9 := ⟨_, rfl⟩
                rw [hc9] at IN
                have HC9 := Aside0.mk hc9
                have HUS := Aside0.mk (show ∀ W, Env w W (.slice (some ⟨g5, 0, none⟩) n cap5) u6 L' cs g7 t0 t1 → Calls Try.prog 34 #[.slice (some ad) i c1, .slice (some ⟨g5, 0, none⟩) n cap5, .agg #[.int .u64 (s0 + 1), .int .u64 x.f0]] W fun e W' => e = .returned (.bool ru) ∧ Below W.heap.size W W' from fun W hE => by
                  have h5 := Kd.R_reads' hE.r5
                  have h1 := Kd.C_take (Kd.C_below HR1.out hE.hb) hi
                  have hl : (l.take i).length = i := by rw [List.length_take]; omega
                  have := winnowlaw12_used.calls 2000 (some ad) c1 (l.take i) (some ⟨g5, 0, none⟩) cap5 L' (s0 + 1) x.f0 ru W h1 (by rw [hl]; have := HC1.out; omega) h5.2.2 (by rw [← h5.1]; exact h5.2.1) HRU.out
                  rw [hl, ← h5.1] at this
                  exact this)
                have hsl1 : (0 : Int) ≤ (i : Int) := by omega
                have hsl2 : (i : Int) ≤ (c1 : Int) := by have := HC1.out; omega
                clear hru hun hc9
                go_upto_region 32 with (fail)
                -- REGION 32
                refine start_ (n := 13) (S := fun w' => Env w w' (.slice (some ⟨g5, 0, none⟩) n cap5) u6 L' cs g7 t0 t1 ∧ Inn w w' (.slice A12 ak.length c12) ak g9 c9 g10 (s0 + 1) x.f0 g13 e0 e1) (ds := []) #[false, false, false, false, false, false, false, false, false, false, false, false, false] (by kernel_rfl) rfl rfl ⟨EV.out.below (below_drew (Below.refl _ _)), IN.out.below (below_drew (Below.refl _ _))⟩ (fun hHeld => ?_)
                refine with_tabW winnowlaw12_RegisterOnce.tab32 winnowlaw12_RegisterOnce.bits32 (fun HT_ HW_ => ?_)
                generalize wr.drew = wd at hHeld ⊢
                refine pure_ (i := 0) (N := some 157) (v := ?_) (a' := ?_) #[true, false, false, false, false, false, false, false, false, false, false, false, false] rfl rfl (any_of HT_.out (by kernel_rfl)) (fun _ _ _ h => h) (Or.inl ⟨by rfl, ?_⟩) ?_ ?_
                rotate_left
                · intro w'
                  go_simp
                  with_reducible rfl
                rotate_left
                · simp only [Act.put, List.setIfInBounds_toArray, List.set_cons_zero, List.set_cons_succ, i64_w, i32_w]
                  rfl
                refine pure_ (i := 1) (N := some 158) (v := ?_) (a' := ?_) #[true, true, false, false, false, false, false, false, false, false, false, false, false] rfl rfl (any_of HT_.out (by kernel_rfl)) (fun _ _ _ h => h) (Or.inl ⟨by rfl, ?_⟩) ?_ ?_
                rotate_left
                · intro w'
                  go_simp
                  with_reducible rfl
                rotate_left
                · simp only [Act.put, List.setIfInBounds_toArray, List.set_cons_zero, List.set_cons_succ, i64_w, i32_w]
                  rfl
                refine pure_ (i := 2) (N := some 159) (v := ?_) (a' := ?_) #[true, true, true, false, false, false, false, false, false, false, false, false, false] rfl rfl (any_of HT_.out (by kernel_rfl)) (fun _ _ _ h => h) (Or.inl ⟨by rfl, ?_⟩) ?_ ?_
                rotate_left
                · intro w'
                  go_simp
                  with_reducible rfl
                rotate_left
                · simp only [Act.put, List.setIfInBounds_toArray, List.set_cons_zero, List.set_cons_succ, i64_w, i32_w]
                  rfl
                refine pure_ (i := 3) (N := some 160) (v := ?_) (a' := ?_) #[true, true, true, true, false, false, false, false, false, false, false, false, false] rfl rfl (any_of HT_.out (by kernel_rfl)) (fun _ _ _ h => h) (Or.inl ⟨by rfl, ?_⟩) ?_ ?_
                rotate_left
                · intro w'
                  go_simp
                  with_reducible rfl
                rotate_left
                · simp only [Act.put, List.setIfInBounds_toArray, List.set_cons_zero, List.set_cons_succ, i64_w, i32_w]
                  rfl
                refine pure_ (i := 4) (N := some 161) (v := ?_) (a' := ?_) #[true, true, true, true, true, false, false, false, false, false, false, false, false] rfl rfl (any_of HT_.out (by kernel_rfl)) (fun _ _ _ h => h) (Or.inl ⟨by rfl, ?_⟩) ?_ ?_
                rotate_left
                · intro w'
                  go_simp
                  with_reducible rfl
                rotate_left
                · simp only [Act.put, List.setIfInBounds_toArray, List.set_cons_zero, List.set_cons_succ, i64_w, i32_w]
                  rfl
                refine pure_ (i := 5) (N := some 162) (v := ?_) (a' := ?_) #[true, true, true, true, true, true, false, false, false, false, false, false, false] rfl rfl (any_of HT_.out (by kernel_rfl)) (fun _ _ _ h => h) (Or.inl ⟨by rfl, ?_⟩) ?_ ?_
                rotate_left
                · intro w'
                  go_simp
                  with_reducible rfl
                rotate_left
                · simp only [Act.put, List.setIfInBounds_toArray, List.set_cons_zero, List.set_cons_succ, i64_w, i32_w]
                  rfl
                refine pure_ (i := 6) (N := some 163) (v := ?_) (a' := ?_) #[true, true, true, true, true, true, true, false, false, false, false, false, false] rfl rfl (any_of HT_.out (by kernel_rfl)) (fun _ _ _ h => h) (Or.inl ⟨by rfl, ?_⟩) ?_ ?_
                rotate_left
                · intro w'
                  go_simp
                  with_reducible rfl
                rotate_left
                · simp only [Act.put, List.setIfInBounds_toArray, List.set_cons_zero, List.set_cons_succ, i64_w, i32_w]
                  rfl
                refine pure_ (i := 7) (N := some 164) (v := ?_) (a' := ?_) #[true, true, true, true, true, true, true, true, false, false, false, false, false] rfl rfl (any_of HT_.out (by kernel_rfl)) (fun _ _ _ h => h) (Or.inl ⟨by rfl, ?_⟩) ?_ ?_
                rotate_left
                · intro w'
                  go_simp
                  with_reducible rfl
                rotate_left
                · simp only [Act.put, List.setIfInBounds_toArray, List.set_cons_zero, List.set_cons_succ, i64_w, i32_w]
                  rfl
                refine pure_ (i := 8) (N := some 165) (v := ?_) (a' := ?_) #[true, true, true, true, true, true, true, true, true, false, false, false, false] rfl rfl (any_of HT_.out (by kernel_rfl)) (fun _ _ _ h => h) (Or.inl ⟨by rfl, ?_⟩) ?_ ?_
                rotate_left
                · intro w'
                  go_simp
                  with_reducible rfl
                rotate_left
                · simp only [Act.put, List.setIfInBounds_toArray, List.set_cons_zero, List.set_cons_succ, i64_w, i32_w]
                  rfl
                refine pure_ (i := 9) (N := some 166) (v := ?_) (a' := ?_) #[true, true, true, true, true, true, true, true, true, true, false, false, false] rfl rfl (any_of HT_.out (by kernel_rfl)) (fun _ _ _ h => h) (Or.inl ⟨by rfl, ?_⟩) ?_ ?_
                rotate_left
                · intro w'
                  go_simp
                  with_reducible rfl
                rotate_left
                · simp only [Act.put, List.setIfInBounds_toArray, List.set_cons_zero, List.set_cons_succ, i64_w, i32_w]
                  rfl
                refine take_ (i := 10) (N := some 167) (v := ?_) (a' := ?_) #[true, true, true, true, true, true, true, true, true, true, true, false, false] rfl rfl (take_ofW HT_.out HW_.out (by kernel_rfl)) (fun _ _ _ h => h) (Or.inl ⟨by rfl, ?_⟩) hHeld ?_ ?_
                rotate_left
                · rintro w' ⟨E, I⟩
                  have z0 : w'.cell? ⟨g10, 0, none⟩ = some (.int .u64 (s0 + 1)) := (blk_cell I.b10 0).trans rfl
                  have z1 : w'.cell? ⟨g10, 1, none⟩ = some (.int .u64 x.f0) := (blk_cell I.b10 1).trans rfl
                  go_simp
                  with_reducible rfl
                rotate_left
                · simp only [Act.put, List.setIfInBounds_toArray, List.set_cons_zero, List.set_cons_succ, i64_w, i32_w]
                  rfl
                refine one_ (i := 11) (N := some 168) #[true, true, true, true, true, true, true, true, true, true, true, true, false] rfl rfl (one_of HT_.out (by kernel_rfl)) (by decide) (fun K hK => ?_)
                refine goes_ Try.func34 (by kernel_rfl) rfl #[.slice (some ad) i c1, .slice (some ⟨g5, 0, none⟩) n cap5, .agg #[.int .u64 (s0 + 1), .int .u64 x.f0]] (by rfl) rfl rfl (by (try simp only [List.map_toArray, List.map_cons, List.map_nil]); first | done | rfl) ?_
                with_reducible refine (HUS.out _ hHeld.1).mono ?_
                rintro e wu ⟨rfl, hb⟩
                refine ⟨_, rfl, ?_⟩
                refine hK.out _ _ ⟨hHeld.1.below hb, hHeld.2.below hb⟩ (fun hHeld => ?_)
                clear hK K
                refine norm_ (a' := ?_) ?_ ?_
                rotate_left
                · show Act.put _ (some 168) _ = _
                  simp only [Act.put, List.setIfInBounds_toArray, List.set_cons_zero, List.set_cons_succ, i64_w, i32_w]
                  rfl
                refine pure_ (i := 12) (N := some 169) (v := ?_) (a' := ?_) #[true, true, true, true, true, true, true, true, true, true, true, true, true] rfl rfl (any_of HT_.out (by kernel_rfl)) (fun _ _ _ h => h) (Or.inl ⟨by rfl, ?_⟩) ?_ ?_
                rotate_left
                · intro w'
                  go_simp
                  with_reducible rfl
                rotate_left
                · simp only [Act.put, List.setIfInBounds_toArray, List.set_cons_zero, List.set_cons_succ, i64_w, i32_w]
                  rfl
                refine done_ (done_of HT_.out (by kernel_rfl)) ?_
                obtain ⟨hE, hI⟩ := hHeld
                have EV32 := Aside0.mk hE
                have IN32 := Aside0.mk hI
                clear hE hI hb EV IN
                -- END REGION 32
                have HB9 := Aside0.mk (show ∀ W : World, W.heap[g9]? = some (.cells c9 69 (0, 0)) → W.cell? ⟨g9, 3, none⟩ = some (.slice A3 x.f3.length c3) from fun W h => by
                  rw [← HC9.out] at h
                  exact (blk_cell h 3).trans rfl)
                clear HC9 HRU HUS hsl1 hsl2 hmb hw0 hakl
                rcases Bool.eq_false_or_eq_true ru with rfl | rfl
                · have hst := Aside0.mk (MD.out.stop GD.out)
                  -- [slow
                  as_aux_lemma =>
                    go_wp2
                    go_roundw
                    case rel => exact ⟨i + 1, L', cs, t0, t1, by omega, by go_num, EV32, hst⟩
                    case measure => simp [intOf]; omega
                  -- slow]
                · as_aux_lemma =>
                    have HUN2 := Aside0.mk (HUN.out rfl)
                    clear HUN
                    go_wp2_with fail
                    go_loopw [20] (fun kv wq => ∃ (k : Nat) (U : List S42), k ≤ x.f3.length ∧ kv = .int .i64 k ∧ Aside0 (Env w wq (.slice (some ⟨g5, 0, none⟩) n cap5) u6 U cs g7 t0 t1) ∧ Aside0 (Inn w wq (.slice A12 ak.length c12) ak g9 c9 g10 (s0 + 1) x.f0 g13 e0 e1) ∧ Aside0 (Tel n i L' U (s0 + 1) x.f0 v)) (fun kv _ => x.f3.length - (intOf kv).toNat)
                    case atStart => exact ⟨0, L', Nat.zero_le _, rfl, EV32, IN32, ⟨Tel.start MD.out⟩⟩
                    case round =>
                      clear EV32 IN32
                      obtain ⟨k, U, hk, rfl, EV, IN, TL⟩ := hrel
                      have hy3 := HB9.out _ IN.out.b9
                      by_cases hkl : k < x.f3.length
                      · obtain ⟨ad3, rfl, hx⟩ := Kd.at_int HC3.out (k : Int) (by omega) (by omega)
                        rw [Int.toNat_natCast] at hx
                        replace hx := pw_cell_below EV.out.hb hx
                        generalize rd x.f3 (k : Int) = a at *
                        by_cases ha0 : 0 ≤ a
                        · have hb0 : decide (0 ≤ a) = true := decide_eq_true ha0
                          by_cases ha1 : a < (n : Int)
                          · as_aux_lemma =>
                              have hb1 : decide (a < (n : Int)) = true := decide_eq_true ha1
                              obtain ⟨x0, rfl⟩ : ∃ m : Nat, a = m := ⟨a.toNat, by omega⟩
                              have hx0n : x0 < n := by omega
                              obtain ⟨y, hy⟩ : ∃ y, U.getD x0 z42 = y := ⟨_, rfl⟩
                              have HY := Aside0.mk hy
                              obtain ⟨q, rb, hpr, hcase⟩ := acc_told y (s0 + 1) x.f0 v
                              have HPR := Aside0.mk hpr
                              have HTL := Aside0.mk (TL.out.more hx0n hy hcase (by have := GD.out.seen.1; have := GD.out.seen.2.1; omega) HX64.out (by omega))
                              clear hy hpr hcase
                              go_upto_region 38 with (fail)
                              have q0 : (0 ≤ (x0 : Int)) = True := eq_true (by omega)
                              have q1 : ((x0 : Int) < (n : Int)) = True := eq_true (by omega)
                              -- REGION 38
                              refine start_ (n := 13) (S := fun w' => Env w w' (.slice (some ⟨g5, 0, none⟩) n cap5) u6 U cs g7 t0 t1 ∧ Inn w w' (.slice A12 ak.length c12) ak g9 c9 g10 (s0 + 1) x.f0 g13 e0 e1) (ds := []) #[false, false, false, false, false, false, false, false, false, false, false, false, false] (by kernel_rfl) rfl rfl ⟨EV.out.below (below_drew (Below.refl _ _)), IN.out.below (below_drew (Below.refl _ _))⟩ (fun hHeld => ?_)
                              refine with_tabW winnowlaw12_RegisterOnce.tab38 winnowlaw12_RegisterOnce.bits38 (fun HT_ HW_ => ?_)
                              generalize wr.drew = wd at hHeld ⊢
                              refine pure_ (i := 0) (N := some 190) (v := ?_) (a' := ?_) #[true, false, false, false, false, false, false, false, false, false, false, false, false] rfl rfl (any_of HT_.out (by kernel_rfl)) (fun _ _ _ h => h) (Or.inl ⟨by rfl, ?_⟩) ?_ ?_
                              rotate_left
                              · intro w'
                                go_simp
                                with_reducible rfl
                              rotate_left
                              · simp only [Act.put, List.setIfInBounds_toArray, List.set_cons_zero, List.set_cons_succ, i64_w, i32_w]
                                rfl
                              refine pure_ (i := 1) (N := some 191) (v := ?_) (a' := ?_) #[true, true, false, false, false, false, false, false, false, false, false, false, false] rfl rfl (any_of HT_.out (by kernel_rfl)) (fun _ _ _ h => h) (Or.inl ⟨by rfl, ?_⟩) ?_ ?_
                              rotate_left
                              · intro w'
                                go_simp
                                with_reducible rfl
                              rotate_left
                              · simp only [Act.put, List.setIfInBounds_toArray, List.set_cons_zero, List.set_cons_succ, i64_w, i32_w]
                                rfl
                              refine pure_ (i := 2) (N := some 192) (v := ?_) (a' := ?_) #[true, true, true, false, false, false, false, false, false, false, false, false, false] rfl rfl (any_of HT_.out (by kernel_rfl)) (fun _ _ _ h => h) (Or.inl ⟨by rfl, ?_⟩) ?_ ?_
                              rotate_left
                              · intro w'
                                go_simp
                                with_reducible rfl
                              rotate_left
                              · simp only [Act.put, List.setIfInBounds_toArray, List.set_cons_zero, List.set_cons_succ, i64_w, i32_w]
                                rfl
                              refine take_ (i := 3) (N := some 193) (v := ?_) (a' := ?_) #[true, true, true, true, false, false, false, false, false, false, false, false, false] rfl rfl (take_ofW HT_.out HW_.out (by kernel_rfl)) (fun _ _ _ h => h) (Or.inl ⟨by rfl, ?_⟩) hHeld ?_ ?_
                              rotate_left
                              · rintro w' ⟨E, I⟩
                                obtain ⟨z0, z1, z2, z3, z4⟩ := E.cells5 x0 hx0n
                                rw [HY.out] at z0 z1 z2 z3 z4
                                go_simp
                                with_reducible rfl
                              rotate_left
                              · simp only [Act.put, List.setIfInBounds_toArray, List.set_cons_zero, List.set_cons_succ, i64_w, i32_w]
                                rfl
                              refine take_ (i := 4) (N := some 194) (v := ?_) (a' := ?_) #[true, true, true, true, true, false, false, false, false, false, false, false, false] rfl rfl (take_ofW HT_.out HW_.out (by kernel_rfl)) (fun _ _ _ h => h) (Or.inl ⟨by rfl, ?_⟩) hHeld ?_ ?_
                              rotate_left
                              · rintro w' ⟨E, I⟩
                                have z0 : w'.cell? ⟨g10, 0, none⟩ = some (.int .u64 (s0 + 1)) := (blk_cell I.b10 0).trans rfl
                                have z1 : w'.cell? ⟨g10, 1, none⟩ = some (.int .u64 x.f0) := (blk_cell I.b10 1).trans rfl
                                go_simp
                                with_reducible rfl
                              rotate_left
                              · simp only [Act.put, List.setIfInBounds_toArray, List.set_cons_zero, List.set_cons_succ, i64_w, i32_w]
                                rfl
                              refine pure_ (i := 5) (N := some 195) (v := ?_) (a' := ?_) #[true, true, true, true, true, true, false, false, false, false, false, false, false] rfl rfl (any_of HT_.out (by kernel_rfl)) (fun _ _ _ h => h) (Or.inl ⟨by rfl, ?_⟩) ?_ ?_
                              rotate_left
                              · intro w'
                                go_simp
                                with_reducible rfl
                              rotate_left
                              · simp only [Act.put, List.setIfInBounds_toArray, List.set_cons_zero, List.set_cons_succ, i64_w, i32_w]
                                rfl
                              refine join_ (σ := Nat) 2 #[true, true, true, true, true, true, true, true, true, true, true, false, false] (fun b => [(196, .tuple #[.agg #[.int .u64 (q).f0.f0, .int .u64 (q).f0.f1, .int .u64 (q).f1.f0, .int .u64 (q).f1.f1, .int .i64 (q).f2], .bool rb]), (22, .pointer (some ⟨b, 0, none⟩)), (189, .tuple #[.agg #[.int .u64 (q).f0.f0, .int .u64 (q).f0.f1, .int .u64 (q).f1.f0, .int .u64 (q).f1.f1, .int .i64 (q).f2], .bool rb]), (197, .agg #[.int .u64 (q).f0.f0, .int .u64 (q).f0.f1, .int .u64 (q).f1.f0, .int .u64 (q).f1.f1, .int .i64 (q).f2]), (198, .bool rb)]) (fun (b : Nat) w' => (Env w w' (.slice (some ⟨g5, 0, none⟩) n cap5) u6 U cs g7 t0 t1 ∧ Inn w w' (.slice A12 ak.length c12) ak g9 c9 g10 (s0 + 1) x.f0 g13 e0 e1) ∧ w'.heap[b]? = some (.cells #[.int .u64 0, .int .u64 0, .int .u64 0, .int .u64 0, .int .i64 0] 42 (0, 0)) ∧ (g5 ≠ b ∧ g7 ≠ b ∧ g9 ≠ b ∧ g10 ≠ b ∧ g13 ≠ b) ∧ w.heap.size ≤ b) ?_ ?_
                              rotate_left
                              · intro hCont
                                refine two_ (i := 6) (j := 10) (Ni := some 196) (Nj := some 22) #[true, true, true, true, true, true, true, false, false, false, false, false, false] #[true, true, true, true, true, true, false, false, false, false, true, false, false] rfl rfl rfl rfl (two_of HT_.out (by kernel_rfl)) (by decide) (by decide) (fun K hK => ?_) (fun K hK => ?_)
                                · refine goes_ Try.func24 (by kernel_rfl) rfl #[.agg #[.int .u64 (y).f0.f0, .int .u64 (y).f0.f1, .int .u64 (y).f1.f0, .int .u64 (y).f1.f1, .int .i64 (y).f2], .agg #[.int .u64 (s0 + 1), .int .u64 x.f0], .int .i64 v] (by rfl) rfl rfl (by (try simp only [List.map_toArray, List.map_cons, List.map_nil]); first | done | rfl) ?_
                                  with_reducible refine (register_Accept.calls 3 (y).f0.f0 (y).f0.f1 (y).f1.f0 (y).f1.f1 (y).f2 (s0 + 1) x.f0 v (q).f0.f0 (q).f0.f1 (q).f1.f0 (q).f1.f1 (q).f2 rb _ HPR.out).mono ?_
                                  rintro e wc2 ⟨rfl, hb⟩
                                  refine ⟨_, rfl, ?_⟩
                                  refine hK.out _ _ ⟨hHeld.1.below hb, hHeld.2.below hb⟩ (fun hHeld => ?_)
                                  clear hK K
                                  refine norm_ (a' := ?_) ?_ ?_
                                  rotate_left
                                  · show Act.put _ (some 196) _ = _
                                    simp only [Act.put, List.setIfInBounds_toArray, List.set_cons_zero, List.set_cons_succ, i64_w, i32_w]
                                    rfl
                                  refine pure_ (i := 7) (N := some 189) (v := ?_) (a' := ?_) #[true, true, true, true, true, true, true, true, false, false, false, false, false] rfl rfl (any_of HT_.out (by kernel_rfl)) (fun _ _ _ h => h) (Or.inl ⟨by rfl, ?_⟩) ?_ ?_
                                  rotate_left
                                  · intro w'
                                    go_simp
                                    with_reducible rfl
                                  rotate_left
                                  · simp only [Act.put, List.setIfInBounds_toArray, List.set_cons_zero, List.set_cons_succ, i64_w, i32_w]
                                    rfl
                                  refine pure_ (i := 8) (N := some 197) (v := ?_) (a' := ?_) #[true, true, true, true, true, true, true, true, true, false, false, false, false] rfl rfl (any_of HT_.out (by kernel_rfl)) (fun _ _ _ h => h) (Or.inl ⟨by rfl, ?_⟩) ?_ ?_
                                  rotate_left
                                  · intro w'
                                    go_simp
                                    with_reducible rfl
                                  rotate_left
                                  · simp only [Act.put, List.setIfInBounds_toArray, List.set_cons_zero, List.set_cons_succ, i64_w, i32_w]
                                    rfl
                                  refine pure_ (i := 9) (N := some 198) (v := ?_) (a' := ?_) #[true, true, true, true, true, true, true, true, true, true, false, false, false] rfl rfl (any_of HT_.out (by kernel_rfl)) (fun _ _ _ h => h) (Or.inl ⟨by rfl, ?_⟩) ?_ ?_
                                  rotate_left
                                  · intro w'
                                    go_simp
                                    with_reducible rfl
                                  rotate_left
                                  · simp only [Act.put, List.setIfInBounds_toArray, List.set_cons_zero, List.set_cons_succ, i64_w, i32_w]
                                    rfl
                                  refine one_ (i := 10) (N := some 22) #[true, true, true, true, true, true, true, true, true, true, true, false, false] rfl rfl (one_of HT_.out (by kernel_rfl)) (by decide) (fun K hK => ?_)
                                  refine box_step ?hg (N := 22) ?hd (cs := #[.int .u64 0, .int .u64 0, .int .u64 0, .int .u64 0, .int .i64 0]) (t := 42) ?hr ?_; (case hd => rfl); (case hg => rfl); (case hr => first | (go_simp; done) | (go_simp; rfl))
                                  intro gb hg wb2 hbox hb2
                                  have hne : g5 ≠ gb ∧ g7 ≠ gb ∧ g9 ≠ gb ∧ g10 ≠ gb ∧ g13 ≠ gb := ⟨Nat.ne_of_lt (Nat.lt_of_lt_of_eq (hHeld.1.lt5 hn1) hg.symm), Nat.ne_of_lt (Nat.lt_of_lt_of_eq (blk_lt hHeld.1.b7) hg.symm), Nat.ne_of_lt (Nat.lt_of_lt_of_eq (blk_lt hHeld.2.b9) hg.symm), Nat.ne_of_lt (Nat.lt_of_lt_of_eq (blk_lt hHeld.2.b10) hg.symm), Nat.ne_of_lt (Nat.lt_of_lt_of_eq (blk_lt hHeld.2.b13) hg.symm)⟩
                                  have hge : w.heap.size ≤ gb := by rw [hg]; exact hHeld.1.hb.size
                                  refine hK.out _ _ ⟨hHeld.1.below hb2, hHeld.2.below hb2⟩ (fun hHeld => ?_)
                                  clear hK K
                                  refine norm_ (a' := ?_) ?_ ?_
                                  rotate_left
                                  · show Act.put _ (some 22) _ = _
                                    simp only [Act.put, List.setIfInBounds_toArray, List.set_cons_zero, List.set_cons_succ, i64_w, i32_w]
                                    rfl
                                  exact norm_ (by simp only [putAll, Act.put, List.setIfInBounds_toArray, List.set_cons_zero, List.set_cons_succ]) (hCont gb _ ⟨hHeld, hbox, hne, hge⟩)
                                · refine box_step ?hg (N := 22) ?hd (cs := #[.int .u64 0, .int .u64 0, .int .u64 0, .int .u64 0, .int .i64 0]) (t := 42) ?hr ?_; (case hd => rfl); (case hg => rfl); (case hr => first | (go_simp; done) | (go_simp; rfl))
                                  intro gb hg wb2 hbox hb2
                                  have hne : g5 ≠ gb ∧ g7 ≠ gb ∧ g9 ≠ gb ∧ g10 ≠ gb ∧ g13 ≠ gb := ⟨Nat.ne_of_lt (Nat.lt_of_lt_of_eq (hHeld.1.lt5 hn1) hg.symm), Nat.ne_of_lt (Nat.lt_of_lt_of_eq (blk_lt hHeld.1.b7) hg.symm), Nat.ne_of_lt (Nat.lt_of_lt_of_eq (blk_lt hHeld.2.b9) hg.symm), Nat.ne_of_lt (Nat.lt_of_lt_of_eq (blk_lt hHeld.2.b10) hg.symm), Nat.ne_of_lt (Nat.lt_of_lt_of_eq (blk_lt hHeld.2.b13) hg.symm)⟩
                                  have hge : w.heap.size ≤ gb := by rw [hg]; exact hHeld.1.hb.size
                                  refine hK.out _ _ ⟨hHeld.1.below hb2, hHeld.2.below hb2⟩ (fun hHeld => ?_)
                                  clear hK K
                                  refine norm_ (a' := ?_) ?_ ?_
                                  rotate_left
                                  · show Act.put _ (some 22) _ = _
                                    simp only [Act.put, List.setIfInBounds_toArray, List.set_cons_zero, List.set_cons_succ, i64_w, i32_w]
                                    rfl
                                  refine one_ (i := 6) (N := some 196) #[true, true, true, true, true, true, true, false, false, false, true, false, false] rfl rfl (one_of HT_.out (by kernel_rfl)) (by decide) (fun K hK => ?_)
                                  refine goes_ Try.func24 (by kernel_rfl) rfl #[.agg #[.int .u64 (y).f0.f0, .int .u64 (y).f0.f1, .int .u64 (y).f1.f0, .int .u64 (y).f1.f1, .int .i64 (y).f2], .agg #[.int .u64 (s0 + 1), .int .u64 x.f0], .int .i64 v] (by rfl) rfl rfl (by (try simp only [List.map_toArray, List.map_cons, List.map_nil]); first | done | rfl) ?_
                                  with_reducible refine (register_Accept.calls 3 (y).f0.f0 (y).f0.f1 (y).f1.f0 (y).f1.f1 (y).f2 (s0 + 1) x.f0 v (q).f0.f0 (q).f0.f1 (q).f1.f0 (q).f1.f1 (q).f2 rb _ HPR.out).mono ?_
                                  rintro e wc2 ⟨rfl, hb⟩
                                  refine ⟨_, rfl, ?_⟩
                                  refine hK.out _ _ ⟨hHeld.1.below hb, hHeld.2.below hb⟩ (fun hHeld => ?_)
                                  clear hK K
                                  refine norm_ (a' := ?_) ?_ ?_
                                  rotate_left
                                  · show Act.put _ (some 196) _ = _
                                    simp only [Act.put, List.setIfInBounds_toArray, List.set_cons_zero, List.set_cons_succ, i64_w, i32_w]
                                    rfl
                                  have hbox2 := blk_below hbox hb
                                  refine pure_ (i := 7) (N := some 189) (v := ?_) (a' := ?_) #[true, true, true, true, true, true, true, true, false, false, true, false, false] rfl rfl (any_of HT_.out (by kernel_rfl)) (fun _ _ _ h => h) (Or.inl ⟨by rfl, ?_⟩) ?_ ?_
                                  rotate_left
                                  · intro w'
                                    go_simp
                                    with_reducible rfl
                                  rotate_left
                                  · simp only [Act.put, List.setIfInBounds_toArray, List.set_cons_zero, List.set_cons_succ, i64_w, i32_w]
                                    rfl
                                  refine pure_ (i := 8) (N := some 197) (v := ?_) (a' := ?_) #[true, true, true, true, true, true, true, true, true, false, true, false, false] rfl rfl (any_of HT_.out (by kernel_rfl)) (fun _ _ _ h => h) (Or.inl ⟨by rfl, ?_⟩) ?_ ?_
                                  rotate_left
                                  · intro w'
                                    go_simp
                                    with_reducible rfl
                                  rotate_left
                                  · simp only [Act.put, List.setIfInBounds_toArray, List.set_cons_zero, List.set_cons_succ, i64_w, i32_w]
                                    rfl
                                  refine pure_ (i := 9) (N := some 198) (v := ?_) (a' := ?_) #[true, true, true, true, true, true, true, true, true, true, true, false, false] rfl rfl (any_of HT_.out (by kernel_rfl)) (fun _ _ _ h => h) (Or.inl ⟨by rfl, ?_⟩) ?_ ?_
                                  rotate_left
                                  · intro w'
                                    go_simp
                                    with_reducible rfl
                                  rotate_left
                                  · simp only [Act.put, List.setIfInBounds_toArray, List.set_cons_zero, List.set_cons_succ, i64_w, i32_w]
                                    rfl
                                  exact norm_ (by simp only [putAll, Act.put, List.setIfInBounds_toArray, List.set_cons_zero, List.set_cons_succ]) (hCont gb _ ⟨hHeld, hbox2, hne, hge⟩)
                              rintro g17 w86 ⟨⟨hE, hI⟩, hbox, hne, hge⟩
                              have EV86 := Aside0.mk hE
                              have IN86 := Aside0.mk hI
                              have BK86 := Aside0.mk hbox
                              have NE17 := Aside0.mk hne
                              have GE17 := Aside0.mk hge
                              have hHeld : Env w w86 (.slice (some ⟨g5, 0, none⟩) n cap5) u6 U cs g7 t0 t1 ∧ Inn w w86 (.slice A12 ak.length c12) ak g9 c9 g10 (s0 + 1) x.f0 g13 e0 e1 := ⟨hE, hI⟩
                              clear hE hI hne hge EV IN hy3 hx q0 q1
                              refine norm_ (a' := ?_) ?_ ?_
                              rotate_left
                              · simp only [putAll, Act.put, List.setIfInBounds_toArray, List.set_cons_zero, List.set_cons_succ]
                                rfl
                              refine one_ (i := 11) (N := none) #[true, true, true, true, true, true, true, true, true, true, true, true, false] rfl rfl (one_of HT_.out (by kernel_rfl)) (by decide) (fun K hK => ?_)
                              have hs0 : w86.cell? ⟨g17, 0, none⟩ = some (.int .u64 0) := (blk_cell hbox 0).trans rfl
                              have hs1 : w86.cell? ⟨g17, 1, none⟩ = some (.int .u64 0) := (blk_cell hbox 1).trans rfl
                              have hs2 : w86.cell? ⟨g17, 2, none⟩ = some (.int .u64 0) := (blk_cell hbox 2).trans rfl
                              have hs3 : w86.cell? ⟨g17, 3, none⟩ = some (.int .u64 0) := (blk_cell hbox 3).trans rfl
                              have hs4 : w86.cell? ⟨g17, 4, none⟩ = some (.int .i64 0) := (blk_cell hbox 4).trans rfl
                              have hf0 := blk_frozen hbox 0
                              have hf1 := blk_frozen hbox 1
                              have hf2 := blk_frozen hbox 2
                              have hf3 := blk_frozen hbox 3
                              have hf4 := blk_frozen hbox 4
                              refine skip_ (w1 := ?_) (by rfl) rfl ?_ ?_
                              rotate_left
                              · go_simp
                                rfl
                              refine hK.out _ _ ⟨(EV86.out.box (keep5 _ g17 _ _ _ _ _) BK86.out NE17.out.1 NE17.out.2.1 (by decide) (below_set5 EV86.out.hb GE17.out _ _ _ _ _)), (IN86.out.box (keep5 _ g17 _ _ _ _ _) BK86.out NE17.out.2.2.1 NE17.out.2.2.2.1 NE17.out.2.2.2.2 (by decide))⟩ (fun hHeld => ?_)
                              clear hK K
                              refine pure_ (i := 12) (N := some 23) (v := ?_) (a' := ?_) #[true, true, true, true, true, true, true, true, true, true, true, true, true] rfl rfl (any_of HT_.out (by kernel_rfl)) (fun _ _ _ h => h) (Or.inl ⟨by rfl, ?_⟩) ?_ ?_
                              rotate_left
                              · intro w'
                                go_simp
                                with_reducible rfl
                              rotate_left
                              · simp only [Act.put, List.setIfInBounds_toArray, List.set_cons_zero, List.set_cons_succ, i64_w, i32_w]
                                rfl
                              refine done_ (done_of HT_.out (by kernel_rfl)) ?_
                              clear hs0 hs1 hs2 hs3 hs4 hf0 hf1 hf2 hf3 hf4 hbox
                              obtain ⟨W17, hW17⟩ : ∃ W, (((((w86.setCell ⟨g17, 0, none⟩ (.int .u64 (q).f0.f0)).setCell ⟨g17, 1, none⟩ (.int .u64 (q).f0.f1)).setCell ⟨g17, 2, none⟩ (.int .u64 (q).f1.f0)).setCell ⟨g17, 3, none⟩ (.int .u64 (q).f1.f1)).setCell ⟨g17, 4, none⟩ (.int .i64 (q).f2)) = W := ⟨_, rfl⟩
                              rw [hW17] at hHeld ⊢
                              have BK17 := Aside0.mk (show W17.heap[g17]? = some (.cells #[.int .u64 (q).f0.f0, .int .u64 (q).f0.f1, .int .u64 (q).f1.f0, .int .u64 (q).f1.f1, .int .i64 (q).f2] 42 (0, 0)) from by rw [← hW17]; exact put5 BK86.out)
                              obtain ⟨hE, hI⟩ := hHeld
                              have EV17 := Aside0.mk hE
                              have IN17 := Aside0.mk hI
                              have q0 : (0 ≤ (x0 : Int)) = True := eq_true (by omega)
                              have q1 : ((x0 : Int) < (n : Int)) = True := eq_true (by omega)
                              clear hE hI hW17 EV86 IN86 BK86
                              -- END REGION 38
                              have hz0 : W17.cell? ⟨g17, 0, none⟩ = some (.int .u64 q.f0.f0) := (blk_cell BK17.out 0).trans rfl
                              have hz1 : W17.cell? ⟨g17, 1, none⟩ = some (.int .u64 q.f0.f1) := (blk_cell BK17.out 1).trans rfl
                              have hz2 : W17.cell? ⟨g17, 2, none⟩ = some (.int .u64 q.f1.f0) := (blk_cell BK17.out 2).trans rfl
                              have hz3 : W17.cell? ⟨g17, 3, none⟩ = some (.int .u64 q.f1.f1) := (blk_cell BK17.out 3).trans rfl
                              have hz4 : W17.cell? ⟨g17, 4, none⟩ = some (.int .i64 q.f2) := (blk_cell BK17.out 4).trans rfl
                              obtain ⟨hy0, hy1, hy2, hy3, hy4⟩ := EV17.out.cells5 x0 hx0n
                              have hf0 := EV17.out.free5 x0 hx0n 0
                              have hf1 := EV17.out.free5 x0 hx0n 1
                              have hf2 := EV17.out.free5 x0 hx0n 2
                              have hf3 := EV17.out.free5 x0 hx0n 3
                              have hf4 := EV17.out.free5 x0 hx0n 4
                              rw [Nat.add_zero] at hf0
                              go_wp2
                              go_roundw
                              case rel => exact ⟨k + 1, U.set x0 q, by omega, by go_num, ⟨EV17.out.reg x0 hx0n q⟩, ⟨IN17.out.reg EV17.out x0 hx0n q⟩, HTL⟩
                              case measure => simp [intOf]; omega
                          · have hb1 : decide (a < (n : Int)) = false := decide_eq_false ha1
                            go_wp2
                            go_roundw
                            case rel => exact ⟨k + 1, U, by omega, by go_num, EV, IN, TL⟩
                            case measure => simp [intOf]; omega
                        · have hb0 : decide (0 ≤ a) = false := decide_eq_false ha0
                          go_wp2
                          go_roundw
                          case rel => exact ⟨k + 1, U, by omega, by go_num, EV, IN, TL⟩
                          case measure => simp [intOf]; omega
                      · obtain rfl : k = x.f3.length := by omega
                        obtain ⟨m, hmf, hmost⟩ := most_eq TL.out.ok (by have := TL.out.len; omega)
                        have HALL := Aside0.mk (TL.out.stop MD.out GD.out HMJ.out HX64.out HUN2.out HWANT.out hmost)
                        have HMS := Aside0.mk (show ∀ W, Env w W (.slice (some ⟨g5, 0, none⟩) n cap5) u6 U cs g7 t0 t1 → Calls Try.prog 35 #[.slice (some ⟨g5, 0, none⟩) n cap5] W fun e W' => e = .returned (.int .i64 m) ∧ Drawn0 W W' from fun W hE => by
                          have h5 := Kd.R_reads' hE.r5
                          have := winnowlaw12_most.calls 200 (some ⟨g5, 0, none⟩) cap5 U m W h5.2.2 (by rw [← h5.1]; exact h5.2.1) hmf
                          rw [← h5.1] at this
                          exact this)
                        clear hmf hmost IN
                        go_wp2_with fail
                        refine (HMS.out _ EV.out).mono ?_
                        rintro e w40 ⟨rfl, hd⟩
                        have EV40 := Aside0.mk (EV.out.below (Drawn0.below hd))
                        clear hd EV HMS hy3
                        go_upto_if 206 with fail
                        go_cut [6] (fun v6 wc => ∃ cs' : List Int, Aside0 (Env w wc (.slice (some ⟨g5, 0, none⟩) n cap5) v6 U cs' g7 t0 t1) ∧ Aside0 (Good n (i + 1) U cs' t0 t1 ∧ ∀ x ∈ cs', ∀ y ∈ cs', x = y))
                        case first =>
                          by_cases hm0 : m = 0
                          · have hmb : (m != 0) = false := bne_eq_false_iff_eq.mpr hm0
                            rw [if_pos hm0] at HALL
                            (first | rw [hmb] | skip)
                            go_wp2
                            go_meet
                            exact ⟨cs, EV40, HALL⟩
                          · have hmb : (m != 0) = true := bne_iff_ne.mpr hm0
                            rw [if_neg hm0] at HALL
                            have HAL6 := Aside0.mk (show (cs.length + 1) * 8 ≤ 140737488355328 by have := GD.out.few; omega)
                            (first | rw [hmb] | skip)
                            go_wp2_with (at_builtin; refine Kd.R_append KI (w0 := w) w.heap.size rfl (.tmp 207) (.tmp 209) 66 38 (.int .i64 0) 8 rfl Try.underlying66 info38 rfl (by decide) (by omega) u6 cs m [.int .i64 m] (fun _ => True) (fun _ => False) rfl rfl rfl (fun _ hk => hk.elim) (fun _ _ => trivial) EV40.out.r6 EV40.out.hb EV40.out.hb.size HAL6.out ?_; intro v6 w41 ho hb hg hat; have EV41 := Aside0.mk (EV40.out.chosen ho hg hb); clear ho hb hg hat EV40)
                            go_meet
                            exact ⟨cs ++ [m], EV41, HALL⟩
                        case rest =>
                          clear EV40 HALL
                          obtain ⟨cs', EVc, HG⟩ := hcut
                          obtain ⟨A6, c6, rfl, hle6, hC6⟩ := Kd.R_reads EVc.out.r6
                          clear hle6 hC6
                          have hcl : cs'.length ≤ 31 := by have := HG.out.1.few; omega
                          go_wp2_with fail
                          go_loopw [25] (fun kv wq => ∃ k : Nat, 1 ≤ k ∧ k ≤ 31 ∧ kv = .int .i64 k ∧ Aside0 (Env w wq (.slice (some ⟨g5, 0, none⟩) n cap5) (.slice A6 cs'.length c6) U cs' g7 t0 t1)) (fun kv _ => cs'.length - (intOf kv).toNat)
                          case atStart => exact ⟨1, Nat.le_refl _, by omega, rfl, EVc⟩
                          case round =>
                            clear EVc
                            obtain ⟨k, hk1, hk2, rfl, EV⟩ := hrel
                            by_cases hkl : k < cs'.length
                            · have hC := (Kd.R_reads' EV.out.r6).2.2
                              obtain ⟨ad6, rfl, hx⟩ := Kd.at_int hC (k : Int) (by omega) (by omega)
                              obtain ⟨ad7, had, hx0⟩ := Kd.at_int hC 0 (by omega) (by omega)
                              cases had
                              rw [Int.toNat_natCast] at hx
                              rw [Int.toNat_zero, Addr.add_zero'] at hx0
                              have he : rd cs' (k : Int) = rd cs' 0 := by
                                refine HG.out.2 _ ?_ _ ?_
                                · have e : rd cs' (k : Int) = cs'[k] := by simp [rd, List.getD_eq_getElem?_getD, List.getElem?_eq_getElem hkl]
                                  rw [e]; exact List.getElem_mem hkl
                                · have e : rd cs' 0 = cs'[0] := by simp [rd, List.getD_eq_getElem?_getD, List.getElem?_eq_getElem (show 0 < cs'.length by omega)]
                                  rw [e]; exact List.getElem_mem _
                              rw [he] at hx
                              generalize rd cs' 0 = z at *
                              clear he hC
                              have q0 : (0 ≤ (k : Int)) = True := eq_true (by omega)
                              have q1 : (k < cs'.length) = True := eq_true hkl
                              have q2 : (0 < cs'.length) = True := eq_true (by omega)
                              go_wp2
                              go_quiet (fail)
                              go_wp2
                              go_roundw
                              case rel => exact ⟨k + 1, by omega, by omega, by go_num, ⟨EV.out.below (pw_below_drewN (Below.refl _ _) _)⟩⟩
                              case measure => simp [intOf]; omega
                            · go_wp2
                              go_roundw
                              case rel => exact ⟨i + 1, U, cs', t0, t1, by omega, by go_num, EV, ⟨HG.out.1⟩⟩
                              case measure => simp [intOf]; omega
    · obtain rfl : i = l.length := by omega
      go_wp2_with fail
      refine (HAL.out _).mono ?_
      rintro e w4 ⟨rfl, hb⟩
      have HB4 := Aside0.mk (below_then EV.out.hb EV.out.hb.size hb)
      clear hb
      go_wp2
      go_ret
      exact ⟨rfl, HB4.out⟩
theorem walk_RegisterOnce (W : World) (b0 : Int) (ok_0 : (Lit.int .i64 b0).wf = true)
    (a1 : Option Addr) (cap1 : Nat) (x1 : (List S69)) (hl1 : x1.length ≤ cap1) (hC1 : Kd.C k69 W a1 x1.length x1) (ok_1 : x1.length ≤ maxLen ∧ ∀ y_x1 ∈ x1, (ok69 y_x1)) :
    Calls Try.prog 12 #[.int .i64 b0, .slice a1 x1.length cap1] W fun e W' => e = .returned (.bool true) ∧ Below W.heap.size W W' :=
  once_walk b0 a1 cap1 x1 W hC1 hl1 fun y hy => by
    have o := (ok_1.2 y hy).1
    simp [Lit.wf, IntKind.min, IntKind.max, IntKind.signed, IntKind.bits] at o
    unfold In64
    omega
end Go.Proofs.Ytjnhmdmcmmffeaa.PAll
