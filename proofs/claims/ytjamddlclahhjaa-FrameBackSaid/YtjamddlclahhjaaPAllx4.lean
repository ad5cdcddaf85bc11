-- Laid by the kit's print.py, called for several functions at once (our call).
import Derived.Test.YtjamddlclahhjaaPAllx0
import Derived.Test.YtjamddlclahhjaaPAllx3
namespace Go.Proofs.Ytjamddlclahhjaa.PAll
open Go.RowKit Go.Proofs.YtjamddlclahhjaaW.PrintWords Go.Proofs.YtjamddlclahhjaaW.PrintLast Go.Proofs.YtjamddlclahhjaaW.PrintMore
attribute [local go_sem] max2_int min2_int max_two min_two max_three min_three max_four min_four   -- for this text's walks alone
set_option linter.unusedVariables false
set_option linter.unusedSimpArgs false

/-! ### winnowlaw02_alive: function 9 -/
/-- The chapter's example. -/
def winnowlaw02_alive.f : Option Bool := some true
theorem winnowlaw02_alive.put : frame_Put.f 30 [] [97] = some ([1, 0, 0, 0, 97, 99, 143, 247, 193], 0) := by kernel_rfl
theorem winnowlaw02_alive.lit (w : World) : Kd.C (Kd.int .u8) (w.alloc (.cells #[.int .u8 97] 5 (1, 2))) (some ⟨w.heap.size, 0, none⟩) 1 [97] :=
  ⟨rfl, by decide, fun _ => ⟨_, rfl, fun j p hp => by
    have hj : j = 0 := by
      rcases Nat.eq_zero_or_pos j with h | h
      · exact h
      · rw [List.getElem?_eq_none (by simp; omega)] at hp; cases hp
    subst hj
    obtain rfl : (97 : Int) = p := by simpa using hp
    refine ⟨[.int .u8 97], rfl, rfl, fun i u hu => ?_⟩
    have hi : i = 0 := by
      rcases Nat.eq_zero_or_pos i with h | h
      · exact h
      · rw [List.getElem?_eq_none (by simp; omega)] at hu; cases hu
    subst hi
    obtain rfl : Value.int .u8 97 = u := by simpa using hu
    rw [show (0 : Nat) * (Kd.int .u8).sz + 0 = 0 from rfl, add_plain]
    exact cell_of_row _ _ 0 _ _ _ (heap_alloc_new w _)⟩⟩
set_option maxHeartbeats 4000000 in
set_option maxRecDepth 100000 in
theorem winnowlaw02_alive.calls (r : Bool) (w : World) (h : winnowlaw02_alive.f = some r) :
    Calls Try.prog 9 #[] w fun e w' => e = .returned (.bool r) ∧ Below w.heap.size w w' := by
  obtain rfl := Option.some.inj h
  clear h
  have kc := fun (w : World) (C : Array Value) (n c : Nat) => Lib.run_convert_bytes_const (P := Try.prog) w 22 5 C n c Try.underlying22 Try.underlying5
  have HL := Aside0.mk (winnowlaw02_alive.lit w)
  have HB := Aside0.mk (below_alloc (Below.refl w.heap.size w) (.cells #[.int .u8 97] 5 (1, 2)))
  go_enter Try.func9, Try.ntmps9
  go_wp2_with fail
  refine (frame_Put.calls 30 (fun _ => True) none 0 [] (some ⟨w.heap.size, 0, none⟩) 1 [97] _ _ _ (Kd.V_nil _ _ _ _ _) HL.out (by decide) winnowlaw02_alive.put).mono ?_
  rintro e w1 ⟨v0, rfl, hR, hb⟩
  obtain ⟨A, c, rfl, hle, hC⟩ := Kd.R_reads hR
  obtain ⟨ad, ha, h0⟩ := Kd.at_int hC 0 (by decide) (by decide)
  obtain ⟨ad', ha', h4⟩ := Kd.at_int hC 4 (by decide) (by decide)
  subst ha
  cases ha'
  have HB1 := Aside0.mk (below_then HB.out HB.out.size hb)
  clear hR hC hb HL HB hle kc
  have e0 : rd [1, 0, 0, 0, 97, 99, 143, 247, 193] 0 = 1 := rfl
  have e4 : rd [1, 0, 0, 0, 97, 99, 143, 247, 193] 4 = 97 := rfl
  replace h0 : w1.cell? ad = some (.int .u8 1) := h0
  replace h4 : w1.cell? ⟨ad.block, ad.off + 4, none⟩ = some (.int .u8 97) := h4
  clear e0 e4
  go_wp2
  go_ret
  exact ⟨rfl, HB1.out⟩


/-! ### winnowref02_four: function 22 -/
def winnowref02_four.f (a0 : Int) : Option (List Int) := some (([(Go.bits .and .u32 a0 255) % 256, (Go.bits .and .u32 (a0 / 256) 255) % 256, (Go.bits .and .u32 (a0 / 65536) 255) % 256, (a0 / 16777216) % 256] : List Int))
set_option maxHeartbeats 40000000 in
set_option maxRecDepth 100000 in
theorem winnowref02_four.calls (a0 : Int) (r : List Int) (w : World) (h : winnowref02_four.f a0 = some r) :
    Calls Try.prog 22 #[.int .u32 a0] w fun e w' => ∃ v0_ : Value, e = .returned (v0_) ∧ Kd.R (Kd.int .u8) 5 w' w.heap.size (fun _ => True) v0_ r ∧ Below w.heap.size w w' := by
  have HB := Aside0.mk (Below.refl w.heap.size w)
  have H : (some (([(Go.bits .and .u32 a0 255) % 256, (Go.bits .and .u32 (a0 / 256) 255) % 256, (Go.bits .and .u32 (a0 / 65536) 255) % 256, (a0 / 16777216) % 256] : List Int))) = some r := h
  clear h
  obtain ⟨y123, hy123⟩ : ∃ y_ : List Int, y_ = (([(Go.bits .and .u32 a0 255) % 256, (Go.bits .and .u32 (a0 / 256) 255) % 256, (Go.bits .and .u32 (a0 / 65536) 255) % 256, (a0 / 16777216) % 256] : List Int)) := ⟨_, rfl⟩
  replace H : (some y123) = some r := by first | (rw [hy123]; with_reducible exact H) | (have H2_ := (Option.bind_some _ _).symm.trans H; rw [hy123]; with_reducible exact H2_) | (have H2_ := (Option.bind_some _ _).symm.trans H; with_reducible exact H2_) | with_reducible exact H | (rw [hy123]; exact H) | exact H
  have Ny123 := Aside0.mk hy123
  clear hy123
  obtain rfl := Option.some.inj H
  go_enter Try.func22, Try.ntmps22
  go_wp2_with (first | ((with_reducible refine gate_dst (N := 17) rfl ?_); refine Kd.R_lit (Kd.int .u8) _ 5 ?hg (N := 17) ?hd (xs := ([(Go.bits .and .u32 a0 255) % 256, (Go.bits .and .u32 (a0 / 256) 255) % 256, (Go.bits .and .u32 (a0 / 65536) 255) % 256, (a0 / 16777216) % 256] : List Int)) (inner := [.int .u8 ((Go.bits .and .u32 a0 255) % 256), .int .u8 ((Go.bits .and .u32 (a0 / 256) 255) % 256), .int .u8 ((Go.bits .and .u32 (a0 / 65536) 255) % 256), .int .u8 ((a0 / 16777216) % 256)]) (ok := fun _ => True) (okp := fun _ => True) ?hr ?hp (fun _ hk => hk) trivial (Below.refl _ _) (Nat.le_refl _) (by simp) ?_; (case hd => rfl); (case hg => rfl); (case hr => first | (go_simp; done) | (go_simp; rfl)); (case hp => exact (Reps.one (show Kd.M (Kd.int .u8) _ _ _ ((Go.bits .and .u32 a0 255) % 256) [.int .u8 ((Go.bits .and .u32 a0 255) % 256)] from rfl) (Reps.one (show Kd.M (Kd.int .u8) _ _ _ ((Go.bits .and .u32 (a0 / 256) 255) % 256) [.int .u8 ((Go.bits .and .u32 (a0 / 256) 255) % 256)] from rfl) (Reps.one (show Kd.M (Kd.int .u8) _ _ _ ((Go.bits .and .u32 (a0 / 65536) 255) % 256) [.int .u8 ((Go.bits .and .u32 (a0 / 65536) 255) % 256)] from rfl) (Reps.one (show Kd.M (Kd.int .u8) _ _ _ ((a0 / 16777216) % 256) [.int .u8 ((a0 / 16777216) % 256)] from rfl) (Reps.none _ _)))))); intro v124 w2 ho3 hb hg_ hnew_; clear hg_ hnew_; (first | rw [← Ny123.out] at ho3 | (simp only [Int.reduceToNat] at ho3; rw [← Ny123.out] at ho3)); have n0_ := Aside0.mk (Kd.R_lower ho3 (below_size (by repeat (first | (with_reducible first | exact HB.out | apply below_alloc | apply pw_below_drewN | apply below_drew1) | exact HB.out)))); have n1_ := Aside0.mk (below_step (by repeat (first | (with_reducible first | exact HB.out | apply below_alloc | apply pw_below_drewN | apply below_drew1) | exact HB.out)) hb); clear HB; have HO125 := n0_; have HB := n1_; clear n0_ n1_; clear hb ho3))
  go_ret
  exact ⟨_, by first | rfl | (simp [errW_none, errW_some] <;> rfl) | (simp [*, errW_none, errW_some] <;> rfl), by (with_reducible repeat (first | apply Kd.R_alloc | apply Kd.R_drewN | apply Kd.R_drew)); exact HO125.out, by repeat (first | (with_reducible first | exact HB.out | apply below_alloc | apply pw_below_drewN | apply below_drew1) | exact HB.out)⟩

/-! ### winnowref01_step: function 31 -/
def winnowref01_step.f (a0 : Int) : Option (Int) := if (Go.bits .and .u32 a0 1) = 1 then (some (Go.bits .xor .u32 (a0 / 2) 3988292384)) else (some (a0 / 2))
set_option maxHeartbeats 40000000 in
set_option maxRecDepth 100000 in
theorem winnowref01_step.calls (a0 : Int) (r : Int) (w : World) (h : winnowref01_step.f a0 = some r) :
    Calls Try.prog 31 #[.int .u32 a0] w fun e w' => e = .returned (.int .u32 r) ∧ Drawn0 w w' := by
  have H : (if (Go.bits .and .u32 a0 1) = 1 then (some (Go.bits .xor .u32 (a0 / 2) 3988292384)) else (some (a0 / 2))) = some r := h
  clear h
  by_cases c2 : (Go.bits .and .u32 a0 1) = 1
  · rw [if_pos c2] at H
    have c2b0 : ((Go.bits .and .u32 a0 1) == 1) = true := beq_iff_eq.mpr c2
    have c2b1 : ((Go.bits .and .u32 a0 1) != 1) = false := bne_eq_false_iff_eq.mpr c2
    clear c2
    obtain rfl := Option.some.inj H
    go_enter Try.func31, Try.ntmps31
    go_wp2
    go_ret
    exact ⟨by first | rfl | (simp; done) | (simp [*]; done), by repeat (first | exact Drawn0.refl _ | apply Drawn0.step)⟩
  · rw [if_neg c2] at H
    have c2b0 : ((Go.bits .and .u32 a0 1) == 1) = false := beq_eq_false_iff_ne.mpr c2
    have c2b1 : ((Go.bits .and .u32 a0 1) != 1) = true := bne_iff_ne.mpr c2
    obtain rfl := Option.some.inj H
    go_enter Try.func31, Try.ntmps31
    go_wp2
    go_ret
    exact ⟨by first | rfl | (simp; done) | (simp [*]; done), by repeat (first | exact Drawn0.refl _ | apply Drawn0.step)⟩

end Go.Proofs.Ytjamddlclahhjaa.PAll
