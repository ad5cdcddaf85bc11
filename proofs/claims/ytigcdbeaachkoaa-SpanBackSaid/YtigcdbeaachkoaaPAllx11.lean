-- Laid by the kit's print.py, called for several functions at once (our call).
import Derived.Test.YtigcdbeaachkoaaPAllx0
namespace Go.Proofs.Ytigcdbeaachkoaa.PAll
open Go.RowKit Go.Proofs.YtigcdbeaachkoaaW.PrintWords Go.Proofs.YtigcdbeaachkoaaW.PrintLast Go.Proofs.YtigcdbeaachkoaaW.PrintMore
attribute [local go_sem] max2_int min2_int max_two min_two max_three min_three max_four min_four   -- for this text's walks alone
set_option linter.unusedVariables false
set_option linter.unusedSimpArgs false

/-! ### winnowref03_cutText: function 40 -/
def winnowref03_cutText.j0 : Nat → List Int → Int → Bool → Option (ByteArray × List Int × Int)
  | 0, _, _, _ => none
  | k + 1, x0, x5, x18 => if x18 = true then (some ((⟨#[]⟩ : ByteArray), ([] : List Int), 6)) else (if (wrap64 ((x0.length : Int) - 1)) < x5 then (some ((⟨#[]⟩ : ByteArray), ([] : List Int), 3)) else (if 1 ≤ (wrap64 (x5 + 1)) then (if (wrap64 (x5 + 1)) ≤ (x0.length : Int) then (if 0 ≤ (wrap64 (x5 + 1)) then (some (strOfNums ((x0.take ((wrap64 (x5 + 1)) : Int).toNat).drop 1), (x0.drop ((wrap64 (x5 + 1)) : Int).toNat), 0)) else (none)) else (none)) else (none)))
def winnowref03_cutText.f (k : Nat) (l0 : List Int) : Option (ByteArray × List Int × Int) := if (l0.length : Int) = 0 then (some ((⟨#[]⟩ : ByteArray), ([] : List Int), 3)) else (if 0 < (l0.length : Int) then (if (wrap64 (rd l0 0)) < 1 then (winnowref03_cutText.j0 k l0 (wrap64 (rd l0 0)) true) else (winnowref03_cutText.j0 k l0 (wrap64 (rd l0 0)) (decide ((wrap64 (rd l0 0)) > 32)))) else (none))
theorem winnowref03_cutText.mono_l : ∀ k, (∀ y0 y1 y2, LeO (winnowref03_cutText.j0 k y0 y1 y2) (winnowref03_cutText.j0 (k + 1) y0 y1 y2))
  | 0 => fun _ _ _ r h => by simp [winnowref03_cutText.j0] at h
  | k + 1 => by
    have ih0 := winnowref03_cutText.mono_l k
    · intro y0 y1 y2
      unfold winnowref03_cutText.j0
      repeat' first
      | (with_reducible exact ih0 _ _ _)
      | (with_reducible exact LeO.refl _)
      | (with_reducible exact LeO.none _)
      | (with_reducible refine LeO.ite ?_ ?_)
      | (with_reducible refine LeO.bind ?_ (fun _ => ?_))
      | exact ih0 _ _ _
      | exact LeO.none _
      | refine LeO.ite ?_ ?_
      | refine LeO.bind ?_ (fun _ => ?_)
theorem winnowref03_cutText.mono : ∀ a0 k, LeO (winnowref03_cutText.f k a0) (winnowref03_cutText.f (k + 1) a0) := by
  intro a0 k
  have ih0 := winnowref03_cutText.mono_l k
  unfold winnowref03_cutText.f
  repeat' first
      | (with_reducible exact ih0 _ _ _)
      | (with_reducible exact LeO.refl _)
      | (with_reducible exact LeO.none _)
      | (with_reducible refine LeO.ite ?_ ?_)
      | (with_reducible refine LeO.bind ?_ (fun _ => ?_))
      | exact ih0 _ _ _
      | exact LeO.none _
      | refine LeO.ite ?_ ?_
      | refine LeO.bind ?_ (fun _ => ?_)
set_option maxHeartbeats 40000000 in
set_option maxRecDepth 100000 in
theorem winnowref03_cutText.calls (k : Nat) (P0_ : Nat → Prop) (A0 : Option Addr) (c0 : Nat) (l0 : List Int) (r1 : ByteArray) (r2 : List Int) (r3 : Int) (w : World) (hs0 : Kd.V (Kd.int .u8) 5 w w.heap.size (fun k_ => P0_ k_) (.slice A0 l0.length c0) l0) (h : winnowref03_cutText.f k l0 = some (r1, r2, r3)) :
    Calls Try.prog 40 #[.slice A0 l0.length c0] w fun e w' => ∃ v1_ : Value, e = .returned (.tuple #[.string r1, v1_, .int .i64 r3]) ∧ Kd.V (Kd.int .u8) 5 w' w.heap.size (fun k_ => (P0_ k_ ∨ w.heap.size ≤ k_)) v1_ r2 ∧ Below w.heap.size w w' := by
  have HO0 := Aside0.mk (show Kd.V (Kd.int .u8) 5 w w.heap.size (fun k_ => (P0_ k_ ∨ w.heap.size ≤ k_)) (.slice A0 l0.length c0) l0 from Kd.V_mono hs0 (fun k_ hk => .inl hk))
  have HB := Aside0.mk (Below.refl w.heap.size w)
  have H : (if (l0.length : Int) = 0 then (some ((⟨#[]⟩ : ByteArray), ([] : List Int), 3)) else (if 0 < (l0.length : Int) then (if (wrap64 (rd l0 0)) < 1 then (winnowref03_cutText.j0 k l0 (wrap64 (rd l0 0)) true) else (winnowref03_cutText.j0 k l0 (wrap64 (rd l0 0)) (decide ((wrap64 (rd l0 0)) > 32)))) else (none))) = some (r1, r2, r3) := h
  clear h
  by_cases c2 : (l0.length : Int) = 0
  · rw [if_pos c2] at H
    have c2b0 : ((l0.length : Int) == 0) = true := beq_iff_eq.mpr c2
    have c2b1 : ((l0.length : Int) != 0) = false := bne_eq_false_iff_eq.mpr c2
    clear c2
    simp only [Option.some.injEq, Prod.mk.injEq] at H
    obtain ⟨rfl, rfl, rfl⟩ := H
    go_enter Try.func40, Try.ntmps40
    go_wp2
    repeat (go_quiet (fail); try go_wp2)
    go_ret3
    exact ⟨_, by first | rfl | (simp [errW_none, errW_some] <;> rfl) | (simp [*, errW_none, errW_some] <;> rfl), Kd.V_nil _ _ _ _ _, by repeat (first | (with_reducible first | exact HB.out | apply below_alloc | apply pw_below_drewN | apply below_drew1) | exact HB.out)⟩
  · rw [if_neg c2] at H
    have c2b0 : ((l0.length : Int) == 0) = false := beq_eq_false_iff_ne.mpr c2
    have c2b1 : ((l0.length : Int) != 0) = true := bne_iff_ne.mpr c2
    have c2b2 : ¬ (l0 = []) := fun h_ => c2 (by rw [h_]; rfl)
    by_cases c3 : 0 < (l0.length : Int)
    · rw [if_pos c3] at H
      have c3b0 : decide (0 < (l0.length : Int)) = true := decide_eq_true c3
      have c3b1 : decide (0 < l0.length) = true := decide_eq_true (by omega)
      clear c3
      have HC4 := Aside0.mk H
      clear H
      have p236 : 0 ≤ (0 : Int) := (by omega)
      have q236 : 0 < (l0.length : Int) := of_decide_eq_true (by first | (with_reducible assumption) | assumption)
      obtain ⟨ad236, e236, hx236_0⟩ := Kd.at_int (Kd.V_reads' HO0.out).2.2 0 p236 q236
      cases e236
      have qi236 : (0 < l0.length) = True := eq_true (by omega)
      (try rw [show ((0 : Int)).toNat = 0 from rfl] at hx236_0)
      (try rw [Addr.add_zero'] at hx236_0)
      replace p236 := eq_true p236
      replace q236 := eq_true q236
      go_enter Try.func40, Try.ntmps40
      go_upto_region 4 with (fail)
      repeat (go_quiet (fail); go_upto_region 4 with (fail))
      go_cut [18] (fun v18 wc => ∃ (kq : Nat) (x18_3 : Bool), v18 = .bool x18_3 ∧ Aside0 (winnowref03_cutText.j0 kq l0 (wrap64 (rd l0 0)) x18_3 = some (r1, r2, r3)) ∧ Aside0 (kq ≤ k) ∧ Aside0 (Kd.V (Kd.int .u8) 5 wc w.heap.size (fun k_ => (P0_ k_ ∨ w.heap.size ≤ k_)) (.slice (some ad236) l0.length c0) l0) ∧ Aside0 (Below w.heap.size w wc))
      case first =>
        have H := HC4.out
        clear HC4
        by_cases c5 : (wrap64 (rd l0 0)) < 1
        · rw [if_pos c5] at H
          have c5b0 : decide ((wrap64 (rd l0 0)) < 1) = true := decide_eq_true c5
          clear c5
          (first | rw [c5b0] | (simp only [i64_w, i32_w]; rw [c5b0]) | skip)
          have H' := Aside0.mk H
          clear H
          go_wp2
          repeat (go_quiet (fail); try go_wp2)
          go_meet
          case rel => exact ⟨_, (true), (by first | rfl | (simp; done) | (simp [*]; done)), H', ⟨by first | omega | exact Nat.le_refl _⟩, ⟨by (with_reducible repeat (first | apply Kd.V_alloc | apply Kd.V_drewN | apply Kd.V_drew)); exact HO0.out⟩, ⟨by repeat (first | (with_reducible first | exact HB.out | apply below_alloc | apply pw_below_drewN | apply below_drew1) | exact HB.out)⟩⟩
        · rw [if_neg c5] at H
          have c5b0 : decide ((wrap64 (rd l0 0)) < 1) = false := decide_eq_false c5
          clear c5
          (first | rw [c5b0] | (simp only [i64_w, i32_w]; rw [c5b0]) | skip)
          have H' := Aside0.mk H
          clear H
          go_wp2
          repeat (go_quiet (fail); try go_wp2)
          go_meet
          case rel => exact ⟨_, (decide ((wrap64 (rd l0 0)) > 32)), (by first | rfl | (simp; done) | (simp [*]; done)), H', ⟨by first | omega | exact Nat.le_refl _⟩, ⟨by (with_reducible repeat (first | apply Kd.V_alloc | apply Kd.V_drewN | apply Kd.V_drew)); exact HO0.out⟩, ⟨by repeat (first | (with_reducible first | exact HB.out | apply below_alloc | apply pw_below_drewN | apply below_drew1) | exact HB.out)⟩⟩
      case rest =>
        clear HC4
        try clear c2
        try clear c2b0
        try clear c2b1
        try clear c2b2
        try clear p2
        try clear q2
        try clear hx2
        try clear qi2
        try clear c3
        try clear c3b0
        try clear c3b1
        try clear c4
        try clear c5
        try clear c5b0
        try clear hx236_0
        try clear p236
        try clear q236
        obtain ⟨kq, x18_3, rfl, HA, HJ3, HO_0, HB⟩ := hcut
        cases kq with
        | zero => exact absurd HA.out (by simp [winnowref03_cutText.j0])
        | succ kj3 =>
          have H := HA.out
          clear HA
          simp only [winnowref03_cutText.j0] at H
          by_cases c6 : x18_3 = true
          · subst c6
            have H1 : (some ((⟨#[]⟩ : ByteArray), ([] : List Int), 6)) = some (r1, r2, r3) := by rw [if_pos rfl] at H; exact H
            clear H
            have H := H1
            clear H1
            simp only [Option.some.injEq, Prod.mk.injEq] at H
            obtain ⟨rfl, rfl, rfl⟩ := H
            go_wp2
            repeat (go_quiet (fail); try go_wp2)
            go_ret3
            exact ⟨_, by first | rfl | (simp [errW_none, errW_some] <;> rfl) | (simp [*, errW_none, errW_some] <;> rfl), Kd.V_nil _ _ _ _ _, by repeat (first | (with_reducible first | exact HB.out | apply below_alloc | apply pw_below_drewN | apply below_drew1) | exact HB.out)⟩
          · replace c6 := Bool.eq_false_iff.mpr c6
            subst c6
            have H1 : (if (wrap64 ((l0.length : Int) - 1)) < (wrap64 (rd l0 0)) then (some ((⟨#[]⟩ : ByteArray), ([] : List Int), 3)) else (if 1 ≤ (wrap64 ((wrap64 (rd l0 0)) + 1)) then (if (wrap64 ((wrap64 (rd l0 0)) + 1)) ≤ (l0.length : Int) then (if 0 ≤ (wrap64 ((wrap64 (rd l0 0)) + 1)) then (some (strOfNums ((l0.take ((wrap64 ((wrap64 (rd l0 0)) + 1)) : Int).toNat).drop 1), (l0.drop ((wrap64 ((wrap64 (rd l0 0)) + 1)) : Int).toNat), 0)) else (none)) else (none)) else (none))) = some (r1, r2, r3) := by rw [if_neg (show ¬ (false = true) by decide)] at H; exact H
            clear H
            have H := H1
            clear H1
            by_cases c7 : (wrap64 ((l0.length : Int) - 1)) < (wrap64 (rd l0 0))
            · rw [if_pos c7] at H
              have c7b0 : decide ((wrap64 ((l0.length : Int) - 1)) < (wrap64 (rd l0 0))) = true := decide_eq_true c7
              clear c7
              simp only [Option.some.injEq, Prod.mk.injEq] at H
              obtain ⟨rfl, rfl, rfl⟩ := H
              go_wp2
              repeat (go_quiet (fail); try go_wp2)
              go_ret3
              exact ⟨_, by first | rfl | (simp [errW_none, errW_some] <;> rfl) | (simp [*, errW_none, errW_some] <;> rfl), Kd.V_nil _ _ _ _ _, by repeat (first | (with_reducible first | exact HB.out | apply below_alloc | apply pw_below_drewN | apply below_drew1) | exact HB.out)⟩
            · rw [if_neg c7] at H
              have c7b0 : decide ((wrap64 ((l0.length : Int) - 1)) < (wrap64 (rd l0 0))) = false := decide_eq_false c7
              clear c7
              by_cases c8 : 1 ≤ (wrap64 ((wrap64 (rd l0 0)) + 1))
              · rw [if_pos c8] at H
                have c8b0 := eq_true c8
                have c8b1 : decide (1 ≤ (wrap64 ((wrap64 (rd l0 0)) + 1))) = true := decide_eq_true c8
                by_cases c9 : (wrap64 ((wrap64 (rd l0 0)) + 1)) ≤ (l0.length : Int)
                · rw [if_pos c9] at H
                  have c9b0 := eq_true c9
                  have c9b1 : decide ((wrap64 ((wrap64 (rd l0 0)) + 1)) ≤ (l0.length : Int)) = true := decide_eq_true c9
                  obtain ⟨y237, hy237⟩ : ∃ y_ : List Int, y_ = ((l0.take ((wrap64 ((wrap64 (rd l0 0)) + 1)) : Int).toNat).drop 1) := ⟨_, rfl⟩
                  replace H : (if 0 ≤ (wrap64 ((wrap64 (rd l0 0)) + 1)) then (some (strOfNums y237, (l0.drop ((wrap64 ((wrap64 (rd l0 0)) + 1)) : Int).toNat), 0)) else (none)) = some (r1, r2, r3) := by first | (rw [hy237]; with_reducible exact H) | (have H2_ := (Option.bind_some _ _).symm.trans H; rw [hy237]; with_reducible exact H2_) | (have H2_ := (Option.bind_some _ _).symm.trans H; with_reducible exact H2_) | with_reducible exact H | (rw [hy237]; exact H) | exact H
                  have Ny237 := Aside0.mk hy237
                  clear hy237
                  obtain ⟨ji10, hji10⟩ : ∃ j_ : Int, (wrap64 ((wrap64 (rd l0 0)) + 1)) = j_ := ⟨_, rfl⟩
                  replace H : (if 0 ≤ (ji10) then (some (strOfNums y237, (l0.drop ((ji10) : Int).toNat), 0)) else (none)) = some (r1, r2, r3) := by first | (rw [hji10] at H; exact H) | (simp only [hji10] at H ⊢; exact H)
                  (try rw [hji10] at c8b0)
                  (try rw [hji10] at c8b1)
                  (try rw [hji10] at c8)
                  (try rw [hji10] at c9b0)
                  (try rw [hji10] at c9b1)
                  (try rw [hji10] at c9)
                  (try rw [hji10] at Ny237)
                  (try rw [hji10] at Ny237)
                  have hji10w : (IntKind.i64.wrap ((wrap64 (rd l0 0)) + 1)) = ji10 := (i64_w _).trans hji10
                  by_cases c11 : 0 ≤ (ji10)
                  · rw [if_pos c11] at H
                    have c11b0 := eq_true c11
                    have c11b1 : decide (0 ≤ (ji10)) = true := decide_eq_true c11
                    clear c11
                    have c12b0 := eq_true (of_decide_eq_true (by first | (with_reducible assumption) | assumption) : (ji10) ≤ (l0.length : Int))
                    obtain ⟨y242, hy242⟩ : ∃ y_ : List Int, y_ = (l0.drop ((ji10) : Int).toNat) := ⟨_, rfl⟩
                    replace H : (some (strOfNums y237, y242, 0)) = some (r1, r2, r3) := by first | (rw [hy242]; with_reducible exact H) | (have H2_ := (Option.bind_some _ _).symm.trans H; rw [hy242]; with_reducible exact H2_) | (have H2_ := (Option.bind_some _ _).symm.trans H; with_reducible exact H2_) | with_reducible exact H | (rw [hy242]; exact H) | exact H
                    have Ny242 := Aside0.mk hy242
                    clear hy242
                    simp only [Option.some.injEq, Prod.mk.injEq] at H
                    obtain ⟨rfl, rfl, rfl⟩ := H
                    have q13 : ((ji10) : Int) ≤ ((l0.length : Int) : Int) := of_decide_eq_true (by first | (with_reducible assumption) | assumption)
                    obtain ⟨i013, hi013, _, hsz13, _⟩ := info_parts info5
                    have hroom13 : l0.length ≤ c0 := (Kd.V_reads' HO_0.out).2.1
                    have hC13 : Kd.F (Kd.int .u8) _ _ (some ad236) l0.length l0 := (Kd.V_at (base := w.heap.size) HO_0.out).2.2
                    have ql13 : (1 : Int) ≤ ((ji10) : Int) := of_decide_eq_true (by first | (with_reducible assumption) | assumption)
                    have hcut13 := cut_mid (P := Try.prog) 31 5 .i64 .i64 Try.underlying31 hi013 1 hsz13 (some ad236) l0.length c0 1 (ji10) (by omega) ql13 q13 hroom13
                    have hr13 := Kd.F_mid (lo := (1 : Int).toNat) (hi := ((ji10) : Int).toNat) (c := c0) hC13 (by omega) (by omega) hroom13
                    obtain ⟨A13, hA13⟩ : ∃ A1, A1 = (if c0 = (1 : Int).toNat then (some ad236) else ((some ad236) : Option Addr).map (·.add ((1 : Int).toNat * 1))) := ⟨_, rfl⟩
                    obtain ⟨c13, hc13⟩ : ∃ c1, c1 = c0 - (1 : Int).toNat := ⟨_, rfl⟩
                    have hy13 : y237.length = ((ji10) : Int).toNat - (1 : Int).toNat := (by rw [Ny237.out, List.length_drop, List.length_take] <;> omega)
                    rw [show ((l0).take ((ji10) : Int).toNat).drop (1 : Int).toNat = y237 from Ny237.out.symm] at hr13
                    replace hr13 : Kd.F (Kd.int .u8) _ _ A13 y237.length y237 := (by rw [hA13]; exact hr13)
                    rw [← hy13, ← hA13, ← hc13] at hcut13
                    have HO241 := Aside0.mk (show Kd.V (Kd.int .u8) 5 _ w.heap.size _ (.slice A13 y237.length c13) y237 from Kd.V_mk (by rw [hy13, hc13]; exact Nat.sub_le_sub_right (Nat.le_trans (by omega) hroom13) _) hr13)
                    have HC241 := Aside0.mk (show y237.length ≤ c13 from by rw [hy13, hc13]; exact Nat.sub_le_sub_right (Nat.le_trans (by omega) hroom13) _)
                    clear hr13 hC13 hroom13 hi013 hsz13 hc13
                    have KY13 := Aside0.mk hy13
                    have KA13 := Aside0.mk hA13
                    clear hy13 hA13
                    replace q13 := eq_true q13
                    have hcv14 := fun c_ : Nat => Kd.C_string (c := c_) (P := Try.prog) Try.underlying31 Try.underlying5 Try.underlying9 (Kd.V_reads' HO241.out).2.2
                    have hcv15 := fun c_ n_ : Nat => Kd.C_string (c := c_) (P := Try.prog) Try.underlying31 Try.underlying5 Try.underlying9 (Kd.V_reads' (Kd.V_drewN HO241.out n_)).2.2
                    have q16 : ((ji10) : Int) ≤ ((l0.length : Int) : Int) := of_decide_eq_true (by first | (with_reducible assumption) | assumption)
                    obtain ⟨i016, hi016, _, hsz16, _⟩ := info_parts info5
                    have hroom16 : l0.length ≤ c0 := (Kd.V_reads' HO_0.out).2.1
                    have hC16 : Kd.F (Kd.int .u8) _ _ (some ad236) l0.length l0 := (Kd.V_at (base := w.heap.size) HO_0.out).2.2
                    have q016 : (0 : Int) ≤ ((ji10) : Int) := of_decide_eq_true (by first | (with_reducible assumption) | assumption)
                    have hcut16 := cut_from (P := Try.prog) 31 5 .i64 Try.underlying31 hi016 1 hsz16 (some ad236) l0.length c0 (ji10) q016 q16
                    have hr16 := Kd.F_cut (m := ((ji10) : Int).toNat) (c := c0) hC16 (by omega) hroom16
                    obtain ⟨A16, hA16⟩ : ∃ A1, A1 = (if c0 = ((ji10) : Int).toNat then (some ad236) else ((some ad236) : Option Addr).map (·.add (((ji10) : Int).toNat * 1))) := ⟨_, rfl⟩
                    obtain ⟨c16, hc16⟩ : ∃ c1, c1 = c0 - ((ji10) : Int).toNat := ⟨_, rfl⟩
                    have hy16 : y242.length = l0.length - ((ji10) : Int).toNat := (by rw [Ny242.out, List.length_drop] <;> omega)
                    rw [show (l0).drop ((ji10) : Int).toNat = y242 from Ny242.out.symm] at hr16
                    replace hr16 : Kd.F (Kd.int .u8) _ _ A16 y242.length y242 := (by rw [hA16]; exact hr16)
                    rw [← hy16, ← hA16, ← hc16] at hcut16
                    have HO246 := Aside0.mk (show Kd.V (Kd.int .u8) 5 _ w.heap.size _ (.slice A16 y242.length c16) y242 from Kd.V_mk (by rw [hy16, hc16]; exact Nat.sub_le_sub_right hroom16 _) hr16)
                    have HC246 := Aside0.mk (show y242.length ≤ c16 from by rw [hy16, hc16]; exact Nat.sub_le_sub_right hroom16 _)
                    clear hr16 hC16 hroom16 hi016 hsz16 hc16
                    have KY16 := Aside0.mk hy16
                    have KA16 := Aside0.mk hA16
                    clear hy16 hA16
                    replace q16 := eq_true q16
                    go_wp2
                    repeat (go_quiet (fail); try go_wp2)
                    go_ret3
                    exact ⟨_, by first | rfl | (simp [errW_none, errW_some] <;> rfl) | (simp only [← hji10]; first | rfl | (simp [errW_none, errW_some] <;> rfl)) | (simp [*, errW_none, errW_some] <;> rfl), by (with_reducible repeat (first | apply Kd.V_alloc | apply Kd.V_drewN | apply Kd.V_drew)); exact HO246.out, by repeat (first | (with_reducible first | exact HB.out | apply below_alloc | apply pw_below_drewN | apply below_drew1) | exact HB.out)⟩
                  · rw [if_neg c11] at H
                    exact absurd H (by simp)
                · rw [if_neg c9] at H
                  exact absurd H (by simp)
              · rw [if_neg c8] at H
                exact absurd H (by simp)
    · rw [if_neg c3] at H
      exact absurd H (by simp)

-- NOT PRINTED: function 22 (winnowref03_Cut)

-- NOT PRINTED: function 7 (winnowlaw03_SpanCuts)

end Go.Proofs.Ytigcdbeaachkoaa.PAll
