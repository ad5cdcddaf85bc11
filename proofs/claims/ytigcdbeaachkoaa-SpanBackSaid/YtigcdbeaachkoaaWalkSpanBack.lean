/-
  The law SpanBack, called with anything that its parameters' kinds hold, returns true and writes nothing that was there.
  Conditions: none.
-/
import Derived.Test.YtigcdbeaachkoaaSpanBackPure
import Derived.Test.YtigcdbeaachkoaaWalkSpanCuts
import Derived.Test.YtigcdbeaachkoaaPAllx0
import Derived.Test.YtigcdbeaachkoaaPAllx10
import Derived.Test.YtigcdbeaachkoaaPAllx4
import Derived.Test.YtigcdbeaachkoaaPAllx7
namespace Go.Proofs.Ytigcdbeaachkoaa.PAll
open Go.RowKit Go.Proofs.YtigcdbeaachkoaaW.PrintWords Go.Proofs.YtigcdbeaachkoaaW.PrintLast Go.Proofs.YtigcdbeaachkoaaW.PrintMore
set_option linter.unusedVariables false
set_option linter.unusedSimpArgs false
/-! ### spans that were put -/
def okS (x : S28) : Bool := decide (rightN x.f0 x.f1 x.f3 x.f4 x.f5 x.f6 = some 0)
def spanS (x : S28) : List Int := spanL x.f0 x.f1 x.f2 x.f3 x.f4 x.f5 x.f6 x.f7
def flatS (xs : List S28) : List Int := (xs.map spanS).flatten
def wantS (L : List S28) (i : Nat) : List S28 := (L.take i).filter okS
theorem want_succ (L : List S28) (i : Nat) (h : i < L.length) : wantS L (i + 1) = wantS L i ++ (if okS (rd_T28 L i) = true then [rd_T28 L i] else []) := by
  unfold wantS
  have e : rd_T28 L (i : Int) = L[i] := by simp [rd_T28, List.getD_eq_getElem?_getD, List.getElem?_eq_getElem h]
  rw [List.take_succ_eq_append_getElem h, List.filter_append, e]
  congr 1
  by_cases ho : okS L[i] = true <;> simp [ho]
theorem want_ok {L : List S28} {i : Nat} : ∀ x ∈ wantS L i, x ∈ L ∧ okS x = true := fun x hx => by
  obtain ⟨h1, h2⟩ := List.mem_filter.1 hx
  exact ⟨List.mem_of_mem_take h1, h2⟩
theorem want_len (L : List S28) (i : Nat) : (wantS L i).length ≤ L.length := Nat.le_trans (List.length_filter_le _ _) (by rw [List.length_take]; omega)
theorem flatS_snoc (xs : List S28) (x : S28) : flatS (xs ++ [x]) = flatS xs ++ spanS x := by simp [flatS]
theorem flatS_len {xs : List S28} (h : ∀ x ∈ xs, okS x = true) : (flatS xs).length ≤ xs.length * 107 := by
  induction xs with
  | nil => simp [flatS]
  | cons x xs ih =>
    have h1 := h x (List.mem_cons_self ..)
    have h2 := ih fun y hy => h y (List.mem_cons_of_mem _ hy)
    obtain ⟨⟨_, s2⟩, ⟨_, t2⟩⟩ := right_zero (of_decide_eq_true h1)
    have e : (flatS (x :: xs)).length = (spanS x).length + (flatS xs).length := by simp [flatS]
    have e2 : (spanS x).length = 43 + x.f5.size + x.f6.size := spanL_len ..
    rw [e, e2, List.length_cons, Nat.succ_mul]
    omega
theorem cut_flat {x : S28} {xs : List S28} (hr : ∀ y ∈ [x.f0, x.f1, x.f2, x.f3, x.f4], 0 ≤ y ∧ y < 18446744073709551616) (ho : okS x = true) (hl : (flatS xs).length ≤ 140737488355328) :
    span_Cut.f (flatS (x :: xs)) = some (x.f0, x.f1, x.f2, x.f3, x.f4, x.f5, x.f6, x.f7, flatS xs, 0) := by
  have e : flatS (x :: xs) = spanL x.f0 x.f1 x.f2 x.f3 x.f4 x.f5 x.f6 x.f7 ++ flatS xs := by simp [flatS, spanS]
  rw [e]
  exact cut_span _ _ _ _ _ _ _ _ hr (of_decide_eq_true ho) _ hl
def rngS (x : S28) : Prop := ∀ y ∈ [x.f0, x.f1, x.f2, x.f3, x.f4], 0 ≤ y ∧ y < 18446744073709551616
set_option maxHeartbeats 4000000 in
set_option maxRecDepth 100000 in
theorem back_walk (A0 : Option Addr) (c0 : Nat) (L : List S28) (A1 : Option Addr) (c1 : Nat) (l1 : List Int) (w : World) (hr0 : Kd.C k28 w A0 L.length L) (hc0 : L.length ≤ c0) (hr1 : Kd.C (Kd.int .u8) w A1 l1.length l1) (hc1 : l1.length ≤ c1) (hb : Bytes l1) (hrg : ∀ x ∈ L, rngS x) :
    Calls Try.prog 8 #[.slice A0 L.length c0, .slice A1 l1.length c1] w fun e W' => e = .returned (.bool true) ∧ Below w.heap.size w W' := by
  have hu28 := Try.underlying28
  have HR0 := Aside0.mk hr0
  have HC0 := Aside0.mk hc0
  have HR1 := Aside0.mk hr1
  have HC1 := Aside0.mk hc1
  have HBY := Aside0.mk hb
  have HRG := Aside0.mk hrg
  clear hr0 hc0 hr1 hc1 hb hrg
  by_cases h50 : 50 < L.length
  · have hb1 : decide (50 < (L.length : Int)) = true := decide_eq_true (by omega)
    go_enter Try.func8, Try.ntmps8
    go_wp2_with fail
    refine (winnowlaw03_alive.calls true _ alive_true).mono ?_
    rintro e w4 ⟨rfl, hb⟩
    have HB4 := Aside0.mk hb
    clear hb
    go_wp2
    go_ret
    exact ⟨rfl, HB4.out⟩
  have hb1 : decide (50 < (L.length : Int)) = false := decide_eq_false (by omega)
  by_cases h5 : 5000 < l1.length
  · have hb2 : decide (5000 < (l1.length : Int)) = true := decide_eq_true (by omega)
    go_enter Try.func8, Try.ntmps8
    go_wp2_with fail
    refine (winnowlaw03_alive.calls true _ alive_true).mono ?_
    rintro e w4 ⟨rfl, hb⟩
    have HB4 := Aside0.mk hb
    clear hb
    go_wp2
    go_ret
    exact ⟨rfl, HB4.out⟩
  have hb2 : decide (5000 < (l1.length : Int)) = false := decide_eq_false (by omega)
  have HL50 := Aside0.mk (show L.length ≤ 50 by omega)
  have HL5 := Aside0.mk (show l1.length ≤ 5000 by omega)
  go_enter Try.func8, Try.ntmps8
  go_wp2_with fail
  go_loopw [5, 6, 7] (fun v5 v6 i wr => ∃ k : Nat, k ≤ L.length ∧ i = .int .i64 k ∧ Aside0 (Kd.R (Kd.int .u8) 5 wr w.heap.size (fun _ => True) v5 (flatS (wantS L k))) ∧ Aside0 (Kd.R k28 28 wr w.heap.size (fun _ => True) v6 (wantS L k)) ∧ Aside0 (Below w.heap.size w wr)) (fun _ _ i _ => L.length - (intOf i).toNat)
  case atStart => exact ⟨0, Nat.zero_le _, rfl, ⟨Kd.R_nil _ _ _ _ _⟩, ⟨Kd.R_nil _ _ _ _ _⟩, ⟨Below.refl _ _⟩⟩
  case round =>
    obtain ⟨i, hi, rfl, HO5, HO6, HB⟩ := hrel
    obtain ⟨A5, c5, rfl, hle5, hC5⟩ := Kd.R_reads HO5.out
    obtain ⟨A6, c6, rfl, hle6, hC6⟩ := Kd.R_reads HO6.out
    have HC5 := Aside0.mk hC5
    have HLE5 := Aside0.mk hle5
    clear hC5 hC6 hle5 hle6
    by_cases hlt : i < L.length
    · obtain ⟨ad, rfl, hx0, hx1, hx2, hx3, hx4, hx5, hx6, hx7⟩ := at_T28 (Kd.C_below HR0.out HB.out) (i : Int) (by omega) (by omega)
      rw [Int.toNat_natCast] at hx0 hx1 hx2 hx3 hx4 hx5 hx6 hx7
      have hws := want_succ L i hlt
      have hxm : rd_T28 L (i : Int) ∈ L := by
        have e : rd_T28 L (i : Int) = L[i] := by simp [rd_T28, List.getD_eq_getElem?_getD, List.getElem?_eq_getElem hlt]
        rw [e]; exact List.getElem_mem hlt
      have hwl := want_len L i
      have hfl := flatS_len (xs := wantS L i) (fun x hx => (want_ok x hx).2)
      generalize rd_T28 L (i : Int) = x at *
      generalize wantS L i = ws at *
      have HWS := Aside0.mk hws
      have HFL := Aside0.mk (show (flatS ws).length ≤ 6000 by have := HL50.out; omega)
      have HWL := Aside0.mk hwl
      clear hws hfl hwl hxm
      by_cases g6 : 1000 < x.f6.size
      · have g6b : decide (1000 < (x.f6.size : Int)) = true := decide_eq_true (by omega)
        go_wp2_with fail
        refine (winnowlaw03_alive.calls true _ alive_true).mono ?_
        rintro e w4 ⟨rfl, hb⟩
        have HB4 := Aside0.mk (below_then HB.out HB.out.size hb)
        clear hb
        go_wp2
        go_ret
        exact ⟨rfl, HB4.out⟩
      have g6b : decide (1000 < (x.f6.size : Int)) = false := decide_eq_false (by omega)
      by_cases g5 : 1000 < x.f5.size
      · have g5b : decide (1000 < (x.f5.size : Int)) = true := decide_eq_true (by omega)
        go_wp2_with fail
        refine (winnowlaw03_alive.calls true _ alive_true).mono ?_
        rintro e w4 ⟨rfl, hb⟩
        have HB4 := Aside0.mk (below_then HB.out HB.out.size hb)
        clear hb
        go_wp2
        go_ret
        exact ⟨rfl, HB4.out⟩
      have g5b : decide (1000 < (x.f5.size : Int)) = false := decide_eq_false (by omega)
      obtain ⟨v, hv⟩ := rightN_some x.f0 x.f1 x.f3 x.f4 x.f5 x.f6
      have hP := put_eq (flatS ws) x.f0 x.f1 x.f2 x.f3 x.f4 x.f5 x.f6 x.f7 (by have := HFL.out; omega) (by omega) (by omega)
      unfold putN at hP
      rw [hv] at hP
      simp only [Option.bind_some] at hP
      by_cases hz : v = 0
      · subst hz
        have hok : okS x = true := decide_eq_true hv
        rw [if_pos hok] at HWS
        rw [if_pos rfl] at hP
        have HP := Aside0.mk hP
        have HN := Aside0.mk (show flatS (wantS L (i + 1)) = flatS ws ++ spanL x.f0 x.f1 x.f2 x.f3 x.f4 x.f5 x.f6 x.f7 by rw [HWS.out, flatS_snoc]; rfl)
        have HLA := Aside0.mk (show (ws.length + 1) * 80 ≤ 140737488355328 by have := HWL.out; have := HL50.out; omega)
        clear hP hv hok
        go_wp2_with fail
        refine (span_Put.calls A5 c5 (flatS ws) x.f0 x.f1 x.f2 x.f3 x.f4 x.f5 x.f6 x.f7 _ _ _ HC5.out HLE5.out HP.out).mono ?_
        rintro e w4 ⟨v4, rfl, hR, hb⟩
        have HO54 := Aside0.mk (Kd.R_lower hR HB.out.size)
        have HO64 := Aside0.mk (Kd.R_below HO6.out hb)
        have HB4 := Aside0.mk (below_then HB.out HB.out.size hb)
        have hz0 := pw_cell_below hb hx0
        have hz1 := pw_cell_below hb hx1
        have hz2 := pw_cell_below hb hx2
        have hz3 := pw_cell_below hb hx3
        have hz4 := pw_cell_below hb hx4
        have hz5 := pw_cell_below hb hx5
        have hz6 := pw_cell_below hb hx6
        have hz7 := pw_cell_below hb hx7
        clear hR hb hx0 hx1 hx2 hx3 hx4 hx5 hx6 hx7 HO5 HO6 HB HC5 HLE5
        go_wp2_with (at_builtin; refine Kd.R_append k28 (w0 := w) w.heap.size rfl (.tmp 63) (.tmp 68) 41 28 (.agg #[.int .u64 0, .int .u64 0, .int .u64 0, .int .u64 0, .int .u64 0, .string ⟨#[]⟩, .string ⟨#[]⟩, .bool false]) 80 rfl Try.underlying41 info28 rfl (by decide) (by decide) _ ws x [.int .u64 x.f0, .int .u64 x.f1, .int .u64 x.f2, .int .u64 x.f3, .int .u64 x.f4, .string x.f5, .string x.f6, .bool x.f7] (fun _ => True) (fun _ => False) rfl rfl (k28_mkM _ _ _ x) (fun _ hk => hk.elim) (fun _ _ => trivial) HO64.out HB4.out HB4.out.size HLA.out ?_; intro v6 w5 ho hb hg hat; have HO65 := Aside0.mk ho; have HO55 := Aside0.mk (Kd.R_over HO54.out HO64.out (by decide) hg); have HB5 := Aside0.mk hb; clear ho hb hg hat)
        go_roundw
        case rel => exact ⟨i + 1, by omega, by go_num, ⟨by rw [HN.out]; exact HO55.out⟩, ⟨by rw [HWS.out]; exact HO65.out⟩, HB5⟩
        case measure => simp [intOf]; omega
      · have hok : ¬ okS x = true := fun h => by
          have h2 : rightN x.f0 x.f1 x.f3 x.f4 x.f5 x.f6 = some 0 := of_decide_eq_true h
          rw [hv] at h2
          exact hz (Option.some.inj h2)
        rw [if_neg hok, List.append_nil] at HWS
        rw [if_neg hz] at hP
        have HP := Aside0.mk hP
        have hzb : (v == 0) = false := beq_eq_false_iff_ne.mpr hz
        clear hP hv hok
        go_wp2_with fail
        refine (span_Put.calls A5 c5 (flatS ws) x.f0 x.f1 x.f2 x.f3 x.f4 x.f5 x.f6 x.f7 _ _ _ HC5.out HLE5.out HP.out).mono ?_
        rintro e w4 ⟨v4, rfl, hR, hb⟩
        have HO54 := Aside0.mk (Kd.R_below HO5.out hb)
        have HO64 := Aside0.mk (Kd.R_below HO6.out hb)
        have HB4 := Aside0.mk (below_then HB.out HB.out.size hb)
        clear hR hb hx0 hx1 hx2 hx3 hx4 hx5 hx6 hx7 HO5 HO6 HB HC5 HLE5
        go_wp2
        go_roundw
        case rel => exact ⟨i + 1, by omega, by go_num, ⟨by rw [HWS.out]; exact HO54.out⟩, ⟨by rw [HWS.out]; exact HO64.out⟩, HB4⟩
        case measure => simp [intOf]; omega
    · obtain rfl : i = L.length := by omega
      have hwo : ∀ x ∈ wantS L L.length, x ∈ L ∧ okS x = true := want_ok
      have hwl := want_len L L.length
      generalize wantS L L.length = ws at *
      have HWO := Aside0.mk hwo
      have HWL := Aside0.mk hwl
      clear hwo hwl HC5 HLE5
      go_wp2_with fail
      go_loopw [5, 10] (fun v5 jv wq => ∃ k : Nat, k ≤ ws.length ∧ jv = .int .i64 k ∧ Aside0 (Kd.R (Kd.int .u8) 5 wq w.heap.size (fun _ => True) v5 (flatS (ws.drop k))) ∧ Aside0 (Kd.R k28 28 wq w.heap.size (fun _ => True) (.slice A6 ws.length c6) ws) ∧ Aside0 (Below w.heap.size w wq)) (fun _ jv _ => ws.length - (intOf jv).toNat)
      case atStart => exact ⟨0, Nat.zero_le _, rfl, ⟨by rw [List.drop_zero]; exact HO5.out⟩, HO6, HB⟩
      case round =>
        clear HO5 HO6 HB
        obtain ⟨j, hj, rfl, HO5, HO6, HB⟩ := hrel
        by_cases hjl : j < ws.length
        · have hjb : j < 50 := by have := HWL.out; have := HL50.out; omega
          have hdr : ws.drop j = rd_T28 ws j :: ws.drop (j + 1) := by
            rw [List.drop_eq_getElem_cons hjl]
            simp [rd_T28, List.getD_eq_getElem?_getD, List.getElem?_eq_getElem hjl]
          have hxm : rd_T28 ws (j : Int) ∈ ws := List.mem_of_mem_drop (by rw [hdr]; exact List.mem_cons_self ..)
          obtain ⟨hxL, hxo⟩ := HWO.out _ hxm
          have hrl := (Kd.R_reads' HO6.out).2.2
          obtain ⟨ad, rfl, hx0, hx1, hx2, hx3, hx4, hx5, hx6, hx7⟩ := at_T28 hrl (j : Int) (by omega) (by omega)
          rw [Int.toNat_natCast] at hx0 hx1 hx2 hx3 hx4 hx5 hx6 hx7
          rw [hdr] at HO5
          have hfl := flatS_len (xs := ws.drop (j + 1)) (fun y hy => (HWO.out y (List.mem_of_mem_drop hy)).2)
          generalize rd_T28 ws (j : Int) = x at *
          have hcf := cut_flat (x := x) (xs := ws.drop (j + 1)) (HRG.out x hxL) hxo (by rw [List.length_drop] at hfl; have := HWL.out; have := HL50.out; omega)
          have HCF := Aside0.mk hcf
          clear hcf hfl hdr hxm hxL hxo hrl
          obtain ⟨A7, c7, rfl, hle7, hC7⟩ := Kd.R_reads HO5.out
          have HC7 := Aside0.mk hC7
          have HLE7 := Aside0.mk hle7
          clear hC7 hle7
          go_wp2_with fail
          refine (span_Cut.calls A7 c7 (flatS (x :: ws.drop (j + 1))) _ _ _ _ _ _ _ _ _ _ _ HC7.out HLE7.out HCF.out).mono ?_
          rintro e w4 ⟨v4, rfl, hR, hb⟩
          have HO54 := Aside0.mk (Kd.R_lower hR HB.out.size)
          have HO64 := Aside0.mk (Kd.R_below HO6.out hb)
          have HB4 := Aside0.mk (below_then HB.out HB.out.size hb)
          have hz0 := pw_cell_below hb hx0
          have hz1 := pw_cell_below hb hx1
          have hz2 := pw_cell_below hb hx2
          have hz3 := pw_cell_below hb hx3
          have hz4 := pw_cell_below hb hx4
          have hz5 := pw_cell_below hb hx5
          have hz6 := pw_cell_below hb hx6
          have hz7 := pw_cell_below hb hx7
          clear hR hb hx0 hx1 hx2 hx3 hx4 hx5 hx6 hx7 HO5 HO6 HB HC7 HLE7 HCF
          go_wp2_with fail
          obtain ⟨W, hW⟩ : ∃ W, w4.alloc (.cells #[.int .u64 x.f0, .int .u64 x.f1, .int .u64 x.f2, .int .u64 x.f3, .int .u64 x.f4, .string x.f5, .string x.f6, .bool x.f7] 28) = W := ⟨_, rfl⟩
          rw [hW]
          have BK := Aside0.mk (show W.heap[w4.heap.size]? = some (.cells #[.int .u64 x.f0, .int .u64 x.f1, .int .u64 x.f2, .int .u64 x.f3, .int .u64 x.f4, .string x.f5, .string x.f6, .bool x.f7] 28 (0, 0)) from by rw [← hW]; exact blk_new w4 _)
          have hW4 : Below w4.heap.size w4 W := by rw [← hW]; exact below_alloc (Below.refl _ _) _
          have HO5W := Aside0.mk (Kd.R_below HO54.out hW4)
          have HO6W := Aside0.mk (Kd.R_below HO64.out hW4)
          have HBW := Aside0.mk (below_then HB4.out HB4.out.size hW4)
          have hy0 := pw_cell_below hW4 hz0
          have hy1 := pw_cell_below hW4 hz1
          have hy2 := pw_cell_below hW4 hz2
          have hy3 := pw_cell_below hW4 hz3
          have hy4 := pw_cell_below hW4 hz4
          have hy5 := pw_cell_below hW4 hz5
          have hy6 := pw_cell_below hW4 hz6
          have hy7 := pw_cell_below hW4 hz7
          clear hW hW4 hz0 hz1 hz2 hz3 hz4 hz5 hz6 hz7 HO54 HO64 HB4
          obtain ⟨gs, hgs⟩ : ∃ gs, w4.heap.size = gs := ⟨_, rfl⟩
          rw [hgs] at BK ⊢
          have hcz_0 : W.cell? ⟨gs, 0, none⟩ = some (.int .u64 x.f0) := (blk_cell BK.out 0).trans rfl
          have hcz_1 : W.cell? ⟨gs, 1, none⟩ = some (.int .u64 x.f1) := (blk_cell BK.out 1).trans rfl
          have hcz_2 : W.cell? ⟨gs, 2, none⟩ = some (.int .u64 x.f2) := (blk_cell BK.out 2).trans rfl
          have hcz_3 : W.cell? ⟨gs, 3, none⟩ = some (.int .u64 x.f3) := (blk_cell BK.out 3).trans rfl
          have hcz_4 : W.cell? ⟨gs, 4, none⟩ = some (.int .u64 x.f4) := (blk_cell BK.out 4).trans rfl
          have hcz_5 : W.cell? ⟨gs, 5, none⟩ = some (.string x.f5) := (blk_cell BK.out 5).trans rfl
          have hcz_6 : W.cell? ⟨gs, 6, none⟩ = some (.string x.f6) := (blk_cell BK.out 6).trans rfl
          have hcz_7 : W.cell? ⟨gs, 7, none⟩ = some (.bool x.f7) := (blk_cell BK.out 7).trans rfl
          have qi : (j < ws.length) = True := eq_true hjl
          go_quiet (fail)
          go_wp2
          go_roundw
          case rel => exact ⟨j + 1, by omega, by go_num, ⟨Kd.R_drewN HO5W.out _⟩, ⟨Kd.R_drewN HO6W.out _⟩, ⟨pw_below_drewN HBW.out _⟩⟩
          case measure => simp [intOf]; omega
        · obtain rfl : j = ws.length := by omega
          have he : flatS (ws.drop ws.length) = [] := by rw [List.drop_eq_nil_of_le (Nat.le_refl _)]; rfl
          rw [he] at HO5
          obtain ⟨A7, c7, rfl, _, _⟩ := Kd.R_reads HO5.out
          obtain ⟨r1, r2, r3, r4, r5, r6, r7, r8, r9, r10, hf, hl9⟩ := span_some HBY.out (by have := HL5.out; omega)
          have HF := Aside0.mk hf
          have HL9 := Aside0.mk hl9
          clear hf hl9 he HO5 HO6
          go_wp2_with fail
          refine (span_Cut.calls A1 c1 l1 _ _ _ _ _ _ _ _ _ _ _ (Kd.C_below HR1.out HB.out) HC1.out HF.out).mono ?_
          rintro e w4 ⟨v4, rfl, hR, hb⟩
          obtain ⟨A8, c8, rfl, hle8, hC8⟩ := Kd.R_reads hR
          have HC8 := Aside0.mk hC8
          have HLE8 := Aside0.mk hle8
          have HB4 := Aside0.mk (below_then HB.out HB.out.size hb)
          clear hR hb hle8 hC8 HB
          by_cases hk : r10 = 0
          · subst hk
            obtain ⟨hR0, hbk, hrg5⟩ := cut_back HBY.out (by have := HL5.out; omega) HF.out
            have hsz := spanL_len r1 r2 r3 r4 r5 r6 r7 r8
            obtain ⟨⟨_, s2⟩, ⟨_, t2⟩⟩ := right_zero hR0
            have hP := put_eq [] r1 r2 r3 r4 r5 r6 r7 r8 (by simp) (by omega) (by omega)
            unfold putN at hP
            rw [hR0] at hP
            simp only [Option.bind_some, if_true, List.nil_append] at hP
            obtain ⟨sl, hsl⟩ : ∃ sl, spanL r1 r2 r3 r4 r5 r6 r7 r8 = sl := ⟨_, rfl⟩
            rw [hsl] at hP hbk hsz
            have HP := Aside0.mk hP
            have HBK := Aside0.mk hbk
            have HSL := Aside0.mk (show sl.length ≤ 107 by omega)
            have HRT := Aside0.mk (right_eq r1 r2 r3 r4 r5 r6 r7 r8 (k := 1000) (by omega) |>.trans hR0)
            have HSM := Aside0.mk (same_eq l1 l1 (by have := HL5.out; omega) (k := 6000) (by have := HL5.out; omega))
            clear hP hbk hsz hsl hR0 hrg5 s2 t2
            go_wp2_with fail
            obtain ⟨W, hW⟩ : ∃ W, w4.alloc (.cells #[.int .u64 r1, .int .u64 r2, .int .u64 r3, .int .u64 r4, .int .u64 r5, .string r6, .string r7, .bool r8] 28) = W := ⟨_, rfl⟩
            rw [hW]
            have BK := Aside0.mk (show W.heap[w4.heap.size]? = some (.cells #[.int .u64 r1, .int .u64 r2, .int .u64 r3, .int .u64 r4, .int .u64 r5, .string r6, .string r7, .bool r8] 28 (0, 0)) from by rw [← hW]; exact blk_new w4 _)
            have HW4 := Aside0.mk (show Below w4.heap.size w4 W from by rw [← hW]; exact below_alloc (Below.refl _ _) _)
            have HBW := Aside0.mk (below_then HB4.out HB4.out.size HW4.out)
            clear hW
            obtain ⟨gs, hgs⟩ : ∃ gs, w4.heap.size = gs := ⟨_, rfl⟩
            rw [hgs] at BK ⊢
            refine (span_Put.calls none 0 [] r1 r2 r3 r4 r5 r6 r7 r8 _ _ _ (Kd.C_nil _ _) (Nat.le_refl _) HP.out).mono ?_
            rintro e w8 ⟨v17, rfl, hR, hb⟩
            obtain ⟨A17, c17, rfl, hle17, hC17⟩ := Kd.R_reads hR
            have HC17 := Aside0.mk hC17
            have HLE17 := Aside0.mk hle17
            have BK8 := Aside0.mk (blk_below BK.out hb)
            have HB8 := Aside0.mk (below_then HBW.out HBW.out.size hb)
            have HC88 := Aside0.mk (Kd.C_below (Kd.C_below HC8.out HW4.out) hb)
            clear hR hb hle17 hC17 BK
            go_wp2_with (first
              | ((with_reducible refine gate_dst (N := 120) rfl ?_); (try (refine gate_guard (by rfl) ?_; dsimp only)); refine Kd.R_lit (Kd.int .u8) _ 5 ?hg (N := 120) ?hd (xs := ([] : List Int)) (inner := []) (ok := fun _ => True) (okp := fun _ => True) ?hr ?hp (fun _ hk => hk) trivial (Below.refl _ _) (Nat.le_refl _) (by simp) ?_; (case hd => rfl); (case hg => rfl); (case hr => first | (go_simp; done) | (go_simp; rfl)); (case hp => exact (Reps.none _ _)); intro v20 w9 ho hb hg_ hnew_; have HO9 := Aside0.mk ho; have HB9 := Aside0.mk hb; clear ho hb hg_ hnew_)
              | ((with_reducible refine gate_builtin (b := .append) (xs := #[.tmp 120, .tmp 121]) rfl ?_); (try (refine gate_guard (by rfl) ?_; dsimp only)); at_builtin; refine Kd.R_append_rows (Kd.int .u8) (w0 := w8) w8.heap.size rfl (.tmp 120) (.tmp 121) 31 5 (.int .u8 0) 1 rfl Try.underlying31 info5 rfl (by decide) (by decide) v20 ([] : List Int) sl A17 sl.length c17 (fun _ => True) (fun _ => False) rfl rfl HO9.out (Kd.C_below HC17.out HB9.out) (fun _ _ h => h) (fun _ h => h.elim) (fun _ _ => trivial) HB9.out HB9.out.size (by have := HSL.out; simp; omega) ?_; intro v22 w10 ho hb hg hat; have HO10 := Aside0.mk (show Kd.R (Kd.int .u8) 5 w10 w8.heap.size (fun _ => True) v22 sl from ho); have HB10 := Aside0.mk hb; clear ho hb hg hat)
              | ((with_reducible refine gate_builtin (b := .append) (xs := #[.tmp 122, .tmp 123]) rfl ?_); (try (refine gate_guard (by rfl) ?_; dsimp only)); at_builtin; refine Kd.R_append_rows (Kd.int .u8) (w0 := w8) w8.heap.size rfl (.tmp 122) (.tmp 123) 31 5 (.int .u8 0) 1 rfl Try.underlying31 info5 rfl (by decide) (by decide) v22 sl r9 A8 r9.length c8 (fun _ => True) (fun _ => False) rfl rfl HO10.out (Kd.C_below HC88.out HB10.out) (fun _ _ h => h) (fun _ h => h.elim) (fun _ _ => trivial) HB10.out HB10.out.size (by have := HSL.out; have := HL9.out; have := HL5.out; omega) ?_; intro v24 w11 ho hb hg hat; have HO11 := Aside0.mk (show Kd.R (Kd.int .u8) 5 w11 w8.heap.size (fun _ => True) v24 l1 from by rw [← HBK.out]; exact ho); have HB11 := Aside0.mk hb; clear ho hb hg hat))
            obtain ⟨A24, c24, rfl, hle24, hC24⟩ := Kd.R_reads HO11.out
            have HB12 := Aside0.mk (below_then HB8.out HB8.out.size HB11.out)
            have BK11 := Aside0.mk (blk_below BK8.out HB11.out)
            have HSM' : winnowref01_Same.f 6000 l1 l1 = some true := by
              rw [HSM.out]
              exact congrArg some (by simp)
            have HSMM := Aside0.mk HSM'
            clear HSM' HSM
            refine (winnowref01_Same.calls 6000 A24 c24 l1 A1 c1 l1 true _ hC24 hle24 (Kd.C_below HR1.out HB12.out) HC1.out HSMM.out).mono ?_
            rintro e w12 ⟨rfl, hd⟩
            have HB13 := Aside0.mk (below_then HB12.out HB12.out.size (Drawn0.below hd))
            have BK12 := Aside0.mk (blk_below BK11.out (Drawn0.below hd))
            clear hd hle24 hC24 HO9 HO10 HO11 HB9 HB10 HB11 HB12 BK11 BK8 HC17 HLE17 HC88
            have hlt : gs < w12.heap.size := blk_lt BK12.out
            have hcz_0 : w12.cell? ⟨gs, 0, none⟩ = some (.int .u64 r1) := (blk_cell BK12.out 0).trans rfl
            have hcz_1 : w12.cell? ⟨gs, 1, none⟩ = some (.int .u64 r2) := (blk_cell BK12.out 1).trans rfl
            have hcz_2 : w12.cell? ⟨gs, 2, none⟩ = some (.int .u64 r3) := (blk_cell BK12.out 2).trans rfl
            have hcz_3 : w12.cell? ⟨gs, 3, none⟩ = some (.int .u64 r4) := (blk_cell BK12.out 3).trans rfl
            have hcz_4 : w12.cell? ⟨gs, 4, none⟩ = some (.int .u64 r5) := (blk_cell BK12.out 4).trans rfl
            have hcz_5 : w12.cell? ⟨gs, 5, none⟩ = some (.string r6) := (blk_cell BK12.out 5).trans rfl
            have hcz_6 : w12.cell? ⟨gs, 6, none⟩ = some (.string r7) := (blk_cell BK12.out 6).trans rfl
            have hcz_7 : w12.cell? ⟨gs, 7, none⟩ = some (.bool r8) := (blk_cell BK12.out 7).trans rfl
            go_wp2_with fail
            refine (span_Right.calls 1000 r1 r2 r3 r4 r5 r6 r7 r8 0 _ HRT.out).mono ?_
            rintro e w13 ⟨rfl, hb⟩
            have HB14 := Aside0.mk (below_then HB13.out HB13.out.size hb)
            clear hb
            go_wp2_with fail
            refine (winnowlaw03_alive.calls true _ alive_true).mono ?_
            rintro e w14 ⟨rfl, hb⟩
            have HB15 := Aside0.mk (below_then HB14.out HB14.out.size hb)
            clear hb
            go_wp2
            go_ret
            exact ⟨rfl, HB15.out⟩
          · obtain ⟨rfl, rfl, rfl, rfl, rfl, rfl, rfl, rfl, rfl⟩ := cut_none HF.out hk
            have hkb : (r10 != 0) = true := bne_iff_ne.mpr hk
            go_wp2_with fail
            refine (winnowlaw03_alive.calls true _ alive_true).mono ?_
            rintro e w8 ⟨rfl, hb⟩
            have HB8 := Aside0.mk (below_then (below_alloc HB4.out _) (below_alloc HB4.out _).size hb)
            clear hb
            go_wp2
            go_ret
            exact ⟨rfl, HB8.out⟩
theorem walk_SpanBack (W : World) (a0 : Option Addr) (cap0 : Nat) (x0 : (List S28)) (hl0 : x0.length ≤ cap0) (hC0 : Kd.C k28 W a0 x0.length x0) (ok_0 : x0.length ≤ maxLen ∧ ∀ y_x0 ∈ x0, (ok28 y_x0))
    (a1 : Option Addr) (cap1 : Nat) (x1 : (List Int)) (hl1 : x1.length ≤ cap1) (hC1 : Kd.C (Kd.int .u8) W a1 x1.length x1) (ok_1 : x1.length ≤ maxLen ∧ ∀ y_x1 ∈ x1, ((Lit.int .u8 y_x1).wf = true)) :
    Calls Try.prog 8 #[.slice a0 x0.length cap0, .slice a1 x1.length cap1] W fun e W' => e = .returned (.bool true) ∧ Below W.heap.size W W' :=
  back_walk a0 cap0 x0 a1 cap1 x1 W hC0 hl0 hC1 hl1 (bytes_of ok_1.2) (fun y hy => by
    have o := ok_0.2 y hy
    exact five o.1 o.2.1 o.2.2.1 o.2.2.2.1 o.2.2.2.2.1)
end Go.Proofs.Ytigcdbeaachkoaa.PAll
