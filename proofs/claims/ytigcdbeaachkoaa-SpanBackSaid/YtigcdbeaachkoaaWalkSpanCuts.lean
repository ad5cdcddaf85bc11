/-
  The law SpanCuts, called with anything that its parameter's kind holds, returns true and writes nothing that was there.
  Conditions: none.
-/
import Derived.Test.YtigcdbeaachkoaaSpanCutsPure
import Derived.Test.YtigcdbeaachkoaaRefCut
import Derived.Test.YtigcdbeaachkoaaOpsAll
import Derived.Test.YtigcdbeaachkoaaPAllx10
import Derived.Test.YtigcdbeaachkoaaPAllx4
import Derived.Test.YtigcdbeaachkoaaPAllx7
namespace Go.Proofs.Ytigcdbeaachkoaa.PAll
open Go.RowKit Go.Proofs.YtigcdbeaachkoaaW.PrintWords Go.Proofs.YtigcdbeaachkoaaW.PrintLast Go.Proofs.YtigcdbeaachkoaaW.PrintMore
set_option linter.unusedVariables false
set_option linter.unusedSimpArgs false
theorem tk_some {rest : List Int} (hb : Bytes rest) (k : Int) (n : Nat) : Bytes (span_Cut.tk rest k n).1 ∧ Bytes (span_Cut.tk rest k n).2.1 ∧ (span_Cut.tk rest k n).2.1.length ≤ rest.length := by
  have hz : Bytes (List.replicate n 0) := fun x hx => by rw [(List.mem_replicate.1 hx).2]; decide
  unfold span_Cut.tk
  split
  · split
    · exact ⟨hz, hb, Nat.le_refl _⟩
    · exact ⟨hb.take _, hb.drop _, by simp⟩
  · exact ⟨hz, hb, Nat.le_refl _⟩
theorem nm_some {rest : List Int} (hb : Bytes rest) (k : Int) : ∃ n r k', span_Cut.nm rest k = some (n, r, k') ∧ Bytes r ∧ r.length ≤ rest.length := by
  obtain ⟨h1, h2, h3⟩ := tk_some hb k 8
  refine ⟨num_U64.to (span_Cut.tk rest k 8).1 8, (span_Cut.tk rest k 8).2.1, (span_Cut.tk rest k 8).2.2, ?_, h2, h3⟩
  unfold span_Cut.nm num_U64.f
  rw [if_pos ⟨by rw [span_Cut.tk_len]; omega, fun x hx => h1 x (List.mem_of_mem_take hx)⟩]
  rfl
theorem tx_len {rest : List Int} (hb : Bytes rest) (k : Int) : Bytes (span_Cut.tx rest k).2.1 ∧ (span_Cut.tx rest k).2.1.length ≤ rest.length := by
  obtain ⟨_, h2, h3⟩ := tk_some hb k 1
  have e : (span_Cut.sm rest k 1 32).2.1 = (span_Cut.tk rest k 1).2.1 := rfl
  unfold span_Cut.tx
  split
  · obtain ⟨_, g2, g3⟩ := tk_some (rest := (span_Cut.sm rest k 1 32).2.1) (by rw [e]; exact h2) 0 (span_Cut.sm rest k 1 32).1.toNat
    exact ⟨g2, Nat.le_trans g3 (by rw [e]; exact h3)⟩
  · exact ⟨h2, h3⟩
theorem span_some {l : List Int} (hb : Bytes l) (hl : l.length ≤ 140737488355328) : ∃ r1 r2 r3 r4 r5 r6 r7 r8 r9 r10, span_Cut.f l = some (r1, r2, r3, r4, r5, r6, r7, r8, r9, r10) ∧ r9.length ≤ l.length := by
  unfold span_Cut.f
  obtain ⟨n0, m0, k0, e0, b0, l0⟩ := nm_some hb 0
  rw [e0]
  simp only [Option.bind_some]
  obtain ⟨n1, m1, k1, e1, b1, l1⟩ := nm_some b0 k0
  rw [e1]
  simp only [Option.bind_some]
  obtain ⟨n2, m2, k2, e2, b2, l2⟩ := nm_some b1 k1
  rw [e2]
  simp only [Option.bind_some]
  obtain ⟨n3, m3, k3, e3, b3, l3⟩ := nm_some b2 k2
  rw [e3]
  simp only [Option.bind_some]
  obtain ⟨n4, m4, k4, e4, b4, l4⟩ := nm_some b3 k3
  rw [e4]
  simp only [Option.bind_some]
  obtain ⟨_, b5, l5⟩ := tk_some b4 k4 1
  have es : (span_Cut.sm m4 k4 0 1).2.1 = (span_Cut.tk m4 k4 1).2.1 := rfl
  rw [← es] at b5 l5
  generalize span_Cut.sm m4 k4 0 1 = s at *
  obtain ⟨b6, l6⟩ := tx_len b5 s.2.2
  generalize span_Cut.tx s.2.1 s.2.2 = t at *
  obtain ⟨b7, l7⟩ := tx_len b6 t.2.2
  generalize span_Cut.tx t.2.1 t.2.2 = u at *
  have hk : ∃ kd, (if u.2.2 = 0 then span_Right.f 1000 n0 n1 n2 n3 n4 t.1 u.1 (s.1 == 1) else some u.2.2) = some kd := by
    split
    · rw [right_eq _ _ _ _ _ _ _ _ (by omega)]
      exact rightN_some _ _ _ _ _ _
    · exact ⟨_, rfl⟩
  obtain ⟨kd, ek⟩ := hk
  rw [ek]
  simp only [Option.bind_some]
  split
  · unfold slices_Clone_byte_byte.f
    rw [if_pos (by omega)]
    exact ⟨_, _, _, _, _, _, _, _, _, _, rfl, by omega⟩
  · exact ⟨_, _, _, _, _, _, _, _, _, _, rfl, by simp⟩
set_option maxHeartbeats 4000000 in
set_option maxRecDepth 100000 in
theorem cuts_walk (A0 : Option Addr) (c0 : Nat) (l0 : List Int) (w : World) (hr0 : Kd.C (Kd.int .u8) w A0 l0.length l0) (hc0 : l0.length ≤ c0) (hb : Bytes l0) :
    Calls Try.prog 7 #[.slice A0 l0.length c0] w fun e W' => e = .returned (.bool true) ∧ Below w.heap.size w W' := by
  have hu28 := Try.underlying28
  have HR0 := Aside0.mk hr0
  have HC0 := Aside0.mk hc0
  clear hr0 hc0
  by_cases h5 : 5000 < l0.length
  · have h5b : decide (5000 < (l0.length : Int)) = true := decide_eq_true (by omega)
    go_enter Try.func7, Try.ntmps7
    go_wp2_with fail
    refine (winnowlaw03_alive.calls true _ alive_true).mono ?_
    rintro e w4 ⟨rfl, hb⟩
    have HB4 := Aside0.mk hb
    clear hb
    go_wp2
    go_ret
    exact ⟨rfl, HB4.out⟩
  have h5b : decide (5000 < (l0.length : Int)) = false := decide_eq_false (by omega)
  obtain ⟨r1, r2, r3, r4, r5, r6, r7, r8, r9, r10, hf, hl9⟩ := span_some hb (by omega)
  have hrf := (cuts_eq hb (by omega) (k := 1000) (by omega)).trans hf
  have hsm := same_eq r9 r9 (by omega) (k := 6000) (by omega)
  rw [show decide (r9 = r9) = true by simp] at hsm
  have HF := Aside0.mk hf
  have HRF := Aside0.mk hrf
  have HSM := Aside0.mk hsm
  clear hf hrf hsm hb
  go_enter Try.func7, Try.ntmps7
  go_wp2_with fail
  refine (span_Cut.calls A0 c0 l0 _ _ _ _ _ _ _ _ _ _ _ HR0.out HC0.out HF.out).mono ?_
  rintro e w4 ⟨v4, rfl, hR, hb⟩
  obtain ⟨A4, c4, rfl, hle4, hC4⟩ := Kd.R_reads hR
  have HB4 := Aside0.mk hb
  have HC4 := Aside0.mk hC4
  have HLE4 := Aside0.mk hle4
  clear hR hb hC4 hle4
  go_wp2_with fail
  obtain ⟨W, hW⟩ : ∃ W, w4.alloc (.cells #[.int .u64 r1, .int .u64 r2, .int .u64 r3, .int .u64 r4, .int .u64 r5, .string r6, .string r7, .bool r8] 28) = W := ⟨_, rfl⟩
  rw [hW]
  have BK := Aside0.mk (show W.heap[w4.heap.size]? = some (.cells #[.int .u64 r1, .int .u64 r2, .int .u64 r3, .int .u64 r4, .int .u64 r5, .string r6, .string r7, .bool r8] 28 (0, 0)) from by rw [← hW]; exact blk_new w4 _)
  have HW4 := Aside0.mk (show Below w4.heap.size w4 W from by rw [← hW]; exact below_alloc (Below.refl _ _) _)
  have HB5 := Aside0.mk (below_then HB4.out HB4.out.size HW4.out)
  clear hW
  obtain ⟨gs, hgs⟩ : ∃ gs, w4.heap.size = gs := ⟨_, rfl⟩
  rw [hgs] at BK ⊢
  refine (winnowref03_Cut.calls 1000 (fun k => k < W.heap.size) A0 c0 l0 _ _ _ _ _ _ _ _ _ _ _ (Kd.V_mk HC0.out (Kd.C_F (Kd.heap_int _) (Kd.C_below HR0.out HB5.out))) HRF.out).mono ?_
  rintro e w6 ⟨v6, rfl, hV, hb⟩
  obtain ⟨A6, c6, rfl, hle6, hF6⟩ := hV
  have HC6 := Aside0.mk (Kd.F_now hF6)
  have HLE6 := Aside0.mk hle6
  have BK6 := Aside0.mk (blk_below BK.out hb)
  have HB6 := Aside0.mk (below_then HB5.out HB5.out.size hb)
  have HB46 := Aside0.mk (below_then HW4.out HW4.out.size hb)
  clear hF6 hle6 hb BK
  have hlt : gs < w6.heap.size := blk_lt BK6.out
  have hcz_0 : w6.cell? ⟨gs, 0, none⟩ = some (.int .u64 r1) := (blk_cell BK6.out 0).trans rfl
  have hcz_1 : w6.cell? ⟨gs, 1, none⟩ = some (.int .u64 r2) := (blk_cell BK6.out 1).trans rfl
  have hcz_2 : w6.cell? ⟨gs, 2, none⟩ = some (.int .u64 r3) := (blk_cell BK6.out 2).trans rfl
  have hcz_3 : w6.cell? ⟨gs, 3, none⟩ = some (.int .u64 r4) := (blk_cell BK6.out 3).trans rfl
  have hcz_4 : w6.cell? ⟨gs, 4, none⟩ = some (.int .u64 r5) := (blk_cell BK6.out 4).trans rfl
  have hcz_5 : w6.cell? ⟨gs, 5, none⟩ = some (.string r6) := (blk_cell BK6.out 5).trans rfl
  have hcz_6 : w6.cell? ⟨gs, 6, none⟩ = some (.string r7) := (blk_cell BK6.out 6).trans rfl
  have hcz_7 : w6.cell? ⟨gs, 7, none⟩ = some (.bool r8) := (blk_cell BK6.out 7).trans rfl
  go_wp2_with fail
  refine (winnowref01_Same.calls 6000 A4 c4 r9 A6 c6 r9 true _ (Kd.C_alloc (Kd.C_below HC4.out HB46.out) _) HLE4.out (Kd.C_alloc HC6.out _) HLE6.out HSM.out).mono ?_
  rintro e w7 ⟨rfl, hd⟩
  have HB7 := Aside0.mk (below_then (below_alloc HB6.out _) (below_alloc HB6.out _).size (Drawn0.below hd))
  clear hd
  go_wp2_with fail
  refine (winnowlaw03_alive.calls true _ alive_true).mono ?_
  rintro e w8 ⟨rfl, hb⟩
  have HB8 := Aside0.mk (below_then HB7.out HB7.out.size hb)
  clear hb
  go_wp2
  go_ret
  exact ⟨rfl, HB8.out⟩
theorem bytes_of {l : List Int} (h : ∀ x ∈ l, (Lit.int .u8 x).wf = true) : Bytes l := fun x hx => by
  simpa [Lit.wf, IntKind.min, IntKind.max, IntKind.signed, IntKind.bits] using h x hx
theorem walk_SpanCuts (W : World) (a0 : Option Addr) (cap0 : Nat) (x0 : (List Int)) (hl0 : x0.length ≤ cap0) (hC0 : Kd.C (Kd.int .u8) W a0 x0.length x0) (ok_0 : x0.length ≤ maxLen ∧ ∀ y_x0 ∈ x0, ((Lit.int .u8 y_x0).wf = true)) :
    Calls Try.prog 7 #[.slice a0 x0.length cap0] W fun e W' => e = .returned (.bool true) ∧ Below W.heap.size W W' :=
  cuts_walk a0 cap0 x0 W hC0 hl0 (bytes_of ok_0.2)
end Go.Proofs.Ytigcdbeaachkoaa.PAll
