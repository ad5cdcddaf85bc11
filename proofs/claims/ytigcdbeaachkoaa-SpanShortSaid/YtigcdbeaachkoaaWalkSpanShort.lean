/-
  The law SpanShort, called with anything that its parameters' kinds hold, returns true and writes nothing that was there.
  Conditions: none.
-/
import Derived.Test.YtigcdbeaachkoaaSpanCutPure
import Derived.Test.YtigcdbeaachkoaaOpsAll
import Derived.Test.YtigcdbeaachkoaaPAllx10
import Derived.Test.YtigcdbeaachkoaaPAllx4
namespace Go.Proofs.Ytigcdbeaachkoaa.PAll
open Go.RowKit Go.Proofs.YtigcdbeaachkoaaW.PrintWords Go.Proofs.YtigcdbeaachkoaaW.PrintLast Go.Proofs.YtigcdbeaachkoaaW.PrintMore
set_option linter.unusedVariables false
set_option linter.unusedSimpArgs false
set_option maxHeartbeats 4000000 in
set_option maxRecDepth 100000 in
theorem short_walk (a0 a1 a2 a3 a4 : Int) (a5 a6 : ByteArray) (a7 : Bool) (cut : Int) (w : World) (hr : ∀ x ∈ [a0, a1, a2, a3, a4], 0 ≤ x ∧ x < 18446744073709551616) :
    Calls Try.prog 9 #[.agg #[.int .u64 a0, .int .u64 a1, .int .u64 a2, .int .u64 a3, .int .u64 a4, .string a5, .string a6, .bool a7], .int .i64 cut] w fun e W' => e = .returned (.bool true) ∧ Below w.heap.size w W' := by
  have hu28 := Try.underlying28
  have HRG := Aside0.mk hr
  clear hr
  go_enter Try.func9, Try.ntmps9
  go_upto_region 1 with (first | ((with_reducible refine gate_dst (N := 2) rfl ?_); refine box_event ?hg (N := 2) ?hd (cs := #[.int .u64 a0, .int .u64 a1, .int .u64 a2, .int .u64 a3, .int .u64 a4, .string a5, .string a6, .bool a7]) (t := 28) ?hr ?_; (case hd => rfl); (case hg => rfl); (case hr => first | (go_simp; done) | (go_simp; rfl)); intro g hg w3 hbox hb3; have BK := Aside0.mk hbox; have HB := Aside0.mk (show Below w.heap.size w w3 from hb3); clear hg hbox hb3))
  (try simp only [Act.put, List.setIfInBounds_toArray, List.set_cons_zero, List.set_cons_succ])
  have hcz_0 : w3.cell? ⟨g, 0, none⟩ = some (.int .u64 a0) := (blk_cell BK.out 0).trans rfl
  have hcz_1 : w3.cell? ⟨g, 1, none⟩ = some (.int .u64 a1) := (blk_cell BK.out 1).trans rfl
  have hcz_2 : w3.cell? ⟨g, 2, none⟩ = some (.int .u64 a2) := (blk_cell BK.out 2).trans rfl
  have hcz_3 : w3.cell? ⟨g, 3, none⟩ = some (.int .u64 a3) := (blk_cell BK.out 3).trans rfl
  have hcz_4 : w3.cell? ⟨g, 4, none⟩ = some (.int .u64 a4) := (blk_cell BK.out 4).trans rfl
  have hcz_5 : w3.cell? ⟨g, 5, none⟩ = some (.string a5) := (blk_cell BK.out 5).trans rfl
  have hcz_6 : w3.cell? ⟨g, 6, none⟩ = some (.string a6) := (blk_cell BK.out 6).trans rfl
  have hcz_7 : w3.cell? ⟨g, 7, none⟩ = some (.bool a7) := (blk_cell BK.out 7).trans rfl
  by_cases h6 : 1000 < a6.size
  · have h6b : decide (1000 < (a6.size : Int)) = true := decide_eq_true (by omega)
    go_wp2_with fail
    refine (winnowlaw03_alive.calls true _ alive_true).mono ?_
    rintro e w4 ⟨rfl, hb⟩
    have HB4 := Aside0.mk (below_then HB.out HB.out.size hb)
    clear hb
    go_wp2
    go_ret
    exact ⟨rfl, HB4.out⟩
  have h6b : decide (1000 < (a6.size : Int)) = false := decide_eq_false (by omega)
  by_cases h5 : 1000 < a5.size
  · have h5b : decide (1000 < (a5.size : Int)) = true := decide_eq_true (by omega)
    go_wp2_with fail
    refine (winnowlaw03_alive.calls true _ alive_true).mono ?_
    rintro e w4 ⟨rfl, hb⟩
    have HB4 := Aside0.mk (below_then HB.out HB.out.size hb)
    clear hb
    go_wp2
    go_ret
    exact ⟨rfl, HB4.out⟩
  have h5b : decide (1000 < (a5.size : Int)) = false := decide_eq_false (by omega)
  obtain ⟨v, hv⟩ := rightN_some a0 a1 a3 a4 a5 a6
  have hP := put_eq [] a0 a1 a2 a3 a4 a5 a6 a7 (by simp) (by omega) (by omega)
  unfold putN at hP
  rw [hv] at hP
  simp only [Option.bind_some, List.nil_append] at hP
  have HP := Aside0.mk hP
  have HV := Aside0.mk hv
  clear hP hv
  go_wp2_with fail
  by_cases hk : v = 0
  · subst hk
    have hP := HP.out
    rw [if_pos rfl] at hP
    have HP2 := Aside0.mk hP
    clear hP HP
    refine (span_Put.calls none 0 [] a0 a1 a2 a3 a4 a5 a6 a7 _ _ _ (Kd.C_nil _ _) (Nat.le_refl _) HP2.out).mono ?_
    rintro e w4 ⟨v4, rfl, hR, hb⟩
    obtain ⟨A, c, rfl, hle, hC⟩ := Kd.R_reads hR
    have hsz := spanL_len a0 a1 a2 a3 a4 a5 a6 a7
    have HB4 := Aside0.mk (below_then HB.out HB.out.size hb)
    have HC4 := Aside0.mk hC
    have HCT := Aside0.mk (cut_take a0 a1 a2 a3 a4 a5 a6 a7 HRG.out HV.out [] (by simp))
    rw [List.append_nil] at HCT
    obtain ⟨b, hbb⟩ : ∃ b, spanL a0 a1 a2 a3 a4 a5 a6 a7 = b := ⟨_, rfl⟩
    rw [hbb] at HC4 HCT hsz
    rw [hbb] at hle ⊢
    have HLE := Aside0.mk hle
    have HSZ := Aside0.mk hsz
    clear hsz hR hb hC hle hbb hcz_0 hcz_1 hcz_2 hcz_3 hcz_4 hcz_5 hcz_6 hcz_7 HP2
    by_cases g0 : cut < 0
    · have g0b : decide (cut < 0) = true := decide_eq_true g0
      go_wp2_with fail
      refine (winnowlaw03_alive.calls true _ alive_true).mono ?_
      rintro e w5 ⟨rfl, hb⟩
      have HB5 := Aside0.mk (below_then HB4.out HB4.out.size hb)
      clear hb
      go_wp2
      go_ret
      exact ⟨rfl, HB5.out⟩
    have g0b : decide (cut < 0) = false := decide_eq_false g0
    by_cases g1 : (b.length : Int) ≤ cut
    · have g1b : decide ((b.length : Int) ≤ cut) = true := decide_eq_true g1
      go_wp2_with fail
      refine (winnowlaw03_alive.calls true _ alive_true).mono ?_
      rintro e w5 ⟨rfl, hb⟩
      have HB5 := Aside0.mk (below_then HB4.out HB4.out.size hb)
      clear hb
      go_wp2
      go_ret
      exact ⟨rfl, HB5.out⟩
    have g1b : decide ((b.length : Int) ≤ cut) = false := decide_eq_false g1
    obtain ⟨m, rfl⟩ := Int.eq_ofNat_of_zero_le (show 0 ≤ cut by omega)
    have hm : m < b.length := by omega
    have hcc := HCT.out m
    rw [if_pos (by have := HSZ.out; omega)] at hcc
    obtain ⟨i0, hi, hzz⟩ := Option.map_eq_some_iff.1 info5
    have hto := fun W => Hand.run_slice_to (P := Try.prog) 31 5 .i64 Try.underlying31 hi A b.length c m (by have := HLE.out; omega) W
    have ht := Kd.C_take HC4.out (show m ≤ b.length by omega)
    have hlt : (b.take m).length = m := by rw [List.length_take]; omega
    have hcalls := span_Cut.calls A c (b.take m) _ _ _ _ _ _ _ _ _ _ w4 ht (by rw [hlt]; have := HLE.out; omega) hcc
    rw [hlt] at hcalls
    have HCA := Aside0.mk hcalls
    clear hcc hcalls ht hlt hzz HCT
    go_wp2_with fail
    refine HCA.out.mono ?_
    rintro e w5 ⟨v5, rfl, hR, hb⟩
    obtain ⟨A5, c5, rfl, hle5, hC5⟩ := Kd.R_reads hR
    have HB5 := Aside0.mk (below_then HB4.out HB4.out.size hb)
    clear hR hb hle5 hC5 HCA hto
    go_wp2_with fail
    refine (winnowlaw03_alive.calls true _ alive_true).mono ?_
    rintro e w6 ⟨rfl, hb⟩
    have HB6 := Aside0.mk (below_then (below_alloc HB5.out _) (below_alloc HB5.out _).size hb)
    clear hb
    go_wp2
    go_ret
    exact ⟨rfl, HB6.out⟩
  · have hP := HP.out
    rw [if_neg hk] at hP
    have HP2 := Aside0.mk hP
    clear hP HP
    have hkb : (v != 0) = true := bne_iff_ne.mpr hk
    refine (span_Put.calls none 0 [] a0 a1 a2 a3 a4 a5 a6 a7 _ _ _ (Kd.C_nil _ _) (Nat.le_refl _) HP2.out).mono ?_
    rintro e w4 ⟨v4, rfl, hR, hb⟩
    obtain ⟨A, c, rfl, hle, hC⟩ := Kd.R_reads hR
    have HB4 := Aside0.mk (below_then HB.out HB.out.size hb)
    clear hR hb hC hle
    go_wp2_with fail
    refine (winnowlaw03_alive.calls true _ alive_true).mono ?_
    rintro e w5 ⟨rfl, hb⟩
    have HB5 := Aside0.mk (below_then HB4.out HB4.out.size hb)
    clear hb
    go_wp2
    go_ret
    exact ⟨rfl, HB5.out⟩
theorem walk_SpanShort (W : World) (cs0 : Array Value) (x0 : S28) (hK0 : k28.K W x0 cs0.toList) (ok_0 : ok28 x0) (b1 : Int) (ok_1 : (Lit.int .i64 b1).wf = true) :
    Calls Try.prog 9 #[.agg cs0, .int .i64 b1] W fun e W' => e = .returned (.bool true) ∧ Below W.heap.size W W' := by
  obtain rfl := arr_of (k28_open hK0)
  exact short_walk x0.f0 x0.f1 x0.f2 x0.f3 x0.f4 x0.f5 x0.f6 x0.f7 b1 W (five ok_0.1 ok_0.2.1 ok_0.2.2.1 ok_0.2.2.2.1 ok_0.2.2.2.2.1)
end Go.Proofs.Ytigcdbeaachkoaa.PAll
