import Derived.Test.YtlpnpnjjmpkapaaPAllx0
import Derived.Test.YtlpnpnjjmpkapaaPAllx9
namespace Go.Proofs.Ytlpnpnjjmpkapaa.PAll
open Go.RowKit Go.Proofs.YtlpnpnjjmpkapaaW.PrintWords Go.Proofs.YtlpnpnjjmpkapaaW.PrintLast Go.Proofs.YtlpnpnjjmpkapaaW.PrintMore
attribute [local go_sem] max2_int min2_int max_two min_two max_three min_three max_four min_four   -- for this text's walks alone
set_option linter.unusedVariables false
set_option linter.unusedSimpArgs false

/-- num.U32: of the first four bytes, the lowest first. -/
def num_U32.to (l0 : List Int) : Nat → Int
 | 0 => 0
 | k + 1 => num_U32.to l0 k + rd l0 k * 2 ^ (8 * k)
theorem num_U32.to_bd (l0 : List Int) (hb : ∀ k : Nat, k < 4 → 0 ≤ rd l0 k ∧ rd l0 k ≤ 255) : ∀ k, k ≤ 4 → 0 ≤ num_U32.to l0 k ∧ num_U32.to l0 k < 2 ^ (8 * k) := by
 intro k
 induction k with
 | zero => intro _; exact ⟨Int.le_refl _, (by decide : (0 : Int) < 2 ^ (8 * 0))⟩
 | succ k ih =>
  intro hk
  obtain ⟨h0, h1⟩ := ih (by omega)
  obtain ⟨b0, b1⟩ := hb k (by omega)
  have e : (2 : Int) ^ (8 * (k + 1)) = 256 * 2 ^ (8 * k) := by rw [Nat.mul_succ, Int.pow_add, Int.mul_comm]; rfl
  have hp : (0 : Int) < 2 ^ (8 * k) := Int.pow_pos (by decide); have m0 := Int.mul_nonneg b0 (Int.le_of_lt hp); have m1 := Int.mul_le_mul_of_nonneg_right b1 (Int.le_of_lt hp)
  rw [e]
  show 0 ≤ num_U32.to l0 k + rd l0 k * 2 ^ (8 * k) ∧ num_U32.to l0 k + rd l0 k * 2 ^ (8 * k) < _
  omega
theorem num_U32.step (l0 : List Int) (hb : ∀ k : Nat, k < 4 → 0 ≤ rd l0 k ∧ rd l0 k ≤ 255) (k : Nat) (hk : k < 4) : Go.bits .or .u32 (num_U32.to l0 k) (rd l0 k * 2 ^ (8 * k) % 4294967296) = num_U32.to l0 (k + 1) := by
 obtain ⟨h0, h1⟩ := num_U32.to_bd l0 hb k (by omega)
 obtain ⟨b0, b1⟩ := hb k hk
 obtain ⟨_, g1⟩ := num_U32.to_bd l0 hb (k + 1) (by omega)
 have hp : (0 : Int) < 2 ^ (8 * k) := Int.pow_pos (by decide); have m0 := Int.mul_nonneg b0 (Int.le_of_lt hp)
 have g2 : (2 : Int) ^ (8 * (k + 1)) ≤ 4294967296 := by
  have hc : k = 0 ∨ k = 1 ∨ k = 2 ∨ k = 3 := by omega
  rcases hc with rfl | rfl | rfl | rfl <;> decide
 have g3 : num_U32.to l0 (k + 1) = num_U32.to l0 k + rd l0 k * 2 ^ (8 * k) := rfl
 rw [g3] at g1 ⊢
 rw [Int.emod_eq_of_lt m0 (by omega)]
 exact Hand.or_apart (8 * k) _ _ h0 h1 b0 (by omega)
def num_U32.f (l0 : List Int) : Option Int := if 4 ≤ l0.length ∧ ∀ x ∈ l0.take 4, 0 ≤ x ∧ x ≤ 255 then some (num_U32.to l0 4) else none
set_option maxHeartbeats 4000000 in
set_option maxRecDepth 100000 in
theorem num_U32.calls (A0 : Option Addr) (c0 : Nat) (l0 : List Int) (r : Int) (w : World) (hr0 : Kd.C (Kd.int .u8) w A0 l0.length l0) (hc0 : l0.length ≤ c0) (h : num_U32.f l0 = some r) :
  Calls Try.prog 81 #[.slice A0 l0.length c0] w fun e w' => e = .returned (.int .u32 r) ∧ Drawn0 w w' := by
 unfold num_U32.f at h
 split at h
 ·rename_i hh
  obtain rfl := Option.some.inj h
  clear h
  obtain ⟨hl, hb⟩ := hh
  have hl' : (4 : Int) ≤ l0.length := by omega
  have hc' : (4 : Int) ≤ c0 := by omega
  have HR0 := Aside0.mk hr0
  have HB4 := Aside0.mk (show ∀ k : Nat, k < 4 → 0 ≤ rd l0 k ∧ rd l0 k ≤ 255 from fun k hk => hb _ (by
   have hk2 : k < (l0.take 4).length := by simp; omega
   have e : rd l0 k = (l0.take 4)[k] := by simp [rd, List.getD_eq_getElem?_getD, List.getElem?_eq_getElem (show k < l0.length by omega)]
   rw [e]; exact List.getElem_mem hk2))
  clear hr0 hb
  obtain ⟨ad, c, rfl, _, _, _⟩ := Kd.C_get HR0.out (0 : Int) 0 (by omega) (by omega)
  go_enter Try.func81, Try.ntmps81
  go_wp2
  go_loop [2, 8] (fun n i => ∃ k : Nat, k ≤ 4 ∧ i = .int .i64 k ∧ n = .int .u32 (num_U32.to l0 k)) (fun _ i => 4 - (intOf i).toNat)
  case atStart => exact ⟨0, by omega, rfl, rfl⟩
  case round =>
   obtain ⟨k, hk, rfl, rfl⟩ := hrel
   by_cases hlt : k < 4
   ·obtain ⟨ad', ead, hcell⟩ := Kd.at_int HR0.out (k : Int) (by omega) (by omega)
    cases ead
    have hx := HB4.out k hlt; have hx0 := hx.1; have hx1 := hx.2; clear hx
    rw [show ((k : Int)).toNat = k from by omega] at hcell
    go_wp2
    go_round
    case rel => exact ⟨k + 1, by omega, by go_num, congrArg (Value.int .u32) (num_U32.step l0 HB4.out k hlt)⟩
    case measure => simp [intOf]; omega
   ·obtain rfl : k = 4 := by omega
    go_wp2
    go_ret
    exact ⟨rfl, Drawn0.refl _⟩
 exact absurd h (by simp)


def frame_Cut.f (k : Nat) (l0 : List Int) : Option (List Int × List Int × Int) := if (l0.length : Int) < 4 then (some (([] : List Int), ([] : List Int), 3)) else ((num_U32.f l0).bind fun t166 => (if t166 > 8192 then (some (([] : List Int), ([] : List Int), 2)) else (if (wrap64 ((l0.length : Int) - 4)) < (wrap64 (4 + (wrap64 (t166)))) then (some (([] : List Int), ([] : List Int), 3)) else (if 0 ≤ (wrap64 (4 + (wrap64 (t166)))) then (if (wrap64 (4 + (wrap64 (t166)))) ≤ (l0.length : Int) then ((crc_Sum.f k (l0.take ((wrap64 (4 + (wrap64 (t166)))) : Int).toNat)).bind fun t168 => ((num_U32.f (l0.drop ((wrap64 (4 + (wrap64 (t166)))) : Int).toNat)).bind fun t170 => (if t168 = t170 then (if 4 ≤ (wrap64 (4 + (wrap64 (t166)))) then ((slices_Clone_byte_byte.f ((l0.take ((wrap64 (4 + (wrap64 (t166)))) : Int).toNat).drop 4)).bind fun t172 => (if 0 ≤ (wrap64 ((wrap64 (4 + (wrap64 (t166)))) + 4)) then (if (wrap64 ((wrap64 (4 + (wrap64 (t166)))) + 4)) ≤ (l0.length : Int) then ((slices_Clone_byte_byte.f (l0.drop ((wrap64 ((wrap64 (4 + (wrap64 (t166)))) + 4)) : Int).toNat)).bind fun t176 => (some (t172, t176, 0))) else (none)) else (none))) else (none)) else (some (([] : List Int), ([] : List Int), 2))))) else (none)) else (none)))))
def frame_Cut.T5 : Bool × List (List Nat × List Nat) := (true, [([], []), ([], []), ([], []), ([0, 1, 2], [0, 1, 2]), ([3], [3]), ([], []), ([], []), ([6], [6]), ([5, 7], [5, 7]), ([8, 4], [8]), ([4, 9, 0, 1, 2, 3, 4], [4]), ([9, 10, 0, 1, 2, 3, 4, 5, 6, 7, 8, 9, 10], [9]), ([11, 0, 1, 2, 3, 4, 5, 6, 7, 8, 9, 10, 11], [])])
def frame_Cut.B5 : List Nat := [0, 0, 0, 7, 15, 0, 0, 64, 224, 511, 1023, 2047, 4095]
theorem frame_Cut.tab5 : rtab .any (opsOf Try.f43 5) = frame_Cut.T5 := by kernel_rfl
theorem frame_Cut.bits5 : waitsOk frame_Cut.T5.2 frame_Cut.B5 = true := by kernel_rfl
def frame_Cut.T10 : Bool × List (List Nat × List Nat) := (true, [([], []), ([], []), ([0, 1], [0, 1]), ([2], [2]), ([], []), ([], []), ([4, 5], [4, 5]), ([6, 3], [6]), ([3, 7], [3, 7]), ([8, 7], [8])])
def frame_Cut.B10 : List Nat := [0, 0, 3, 7, 0, 0, 48, 127, 255, 511]
theorem frame_Cut.tab10 : rtab .any (opsOf Try.f43 10) = frame_Cut.T10 := by kernel_rfl
theorem frame_Cut.bits10 : waitsOk frame_Cut.T10.2 frame_Cut.B10 = true := by kernel_rfl
set_option maxHeartbeats 40000000 in
set_option maxRecDepth 100000 in
theorem frame_Cut.calls (k : Nat) (A0 : Option Addr) (c0 : Nat) (l0 : List Int) (r1 : List Int) (r2 : List Int) (r3 : Int) (w : World) (hr0 : Kd.C (Kd.int .u8) w A0 l0.length l0) (hc0 : l0.length ≤ c0) (h : frame_Cut.f k l0 = some (r1, r2, r3)) :
  Calls Try.prog 43 #[.slice A0 l0.length c0] w fun e w' => ∃ v0_ v1_ : Value, e = .returned (.tuple #[v0_, v1_, .int .i64 r3]) ∧ Kd.R (Kd.int .u8) 5 w' w.heap.size (fun k_ => some k_ ≠ (v1_ : Value).ownBlock) v0_ r1 ∧ Kd.R (Kd.int .u8) 5 w' w.heap.size (fun k_ => some k_ ≠ (v0_ : Value).ownBlock) v1_ r2 ∧ Below w.heap.size w w' := by
 have HR0 := Aside0.mk hr0; have HC0 := Aside0.mk hc0; clear hr0 hc0; have HB := Aside0.mk (Below.refl w.heap.size w)
 have H : (if (l0.length : Int) < 4 then (some (([] : List Int), ([] : List Int), 3)) else ((num_U32.f l0).bind fun t166 => (if t166 > 8192 then (some (([] : List Int), ([] : List Int), 2)) else (if (wrap64 ((l0.length : Int) - 4)) < (wrap64 (4 + (wrap64 (t166)))) then (some (([] : List Int), ([] : List Int), 3)) else (if 0 ≤ (wrap64 (4 + (wrap64 (t166)))) then (if (wrap64 (4 + (wrap64 (t166)))) ≤ (l0.length : Int) then ((crc_Sum.f k (l0.take ((wrap64 (4 + (wrap64 (t166)))) : Int).toNat)).bind fun t168 => ((num_U32.f (l0.drop ((wrap64 (4 + (wrap64 (t166)))) : Int).toNat)).bind fun t170 => (if t168 = t170 then (if 4 ≤ (wrap64 (4 + (wrap64 (t166)))) then ((slices_Clone_byte_byte.f ((l0.take ((wrap64 (4 + (wrap64 (t166)))) : Int).toNat).drop 4)).bind fun t172 => (if 0 ≤ (wrap64 ((wrap64 (4 + (wrap64 (t166)))) + 4)) then (if (wrap64 ((wrap64 (4 + (wrap64 (t166)))) + 4)) ≤ (l0.length : Int) then ((slices_Clone_byte_byte.f (l0.drop ((wrap64 ((wrap64 (4 + (wrap64 (t166)))) + 4)) : Int).toNat)).bind fun t176 => (some (t172, t176, 0))) else (none)) else (none))) else (none)) else (some (([] : List Int), ([] : List Int), 2))))) else (none)) else (none)))))) = some (r1, r2, r3) := h
 clear h
 by_cases c2 : (l0.length : Int) < 4
 ·rw [if_pos c2] at H
  have c2b0 : decide ((l0.length : Int) < 4) = true := decide_eq_true c2; have c2b1 : decide (l0.length < 4) = true := decide_eq_true (by omega); clear c2
  simp only [Option.some.injEq, Prod.mk.injEq] at H
  obtain ⟨rfl, rfl, rfl⟩ := H
  go_enter Try.func43, Try.ntmps43
  go_wp2
  go_ret3
  exact ⟨_, _, by (rfl), by (exact Kd.R_nil _ _ _ _ _), by (exact Kd.R_nil _ _ _ _ _), by repeat (with_reducible (exact HB.out))⟩
 rw [if_neg c2] at H
 have c2b0 : decide ((l0.length : Int) < 4) = false := decide_eq_false c2; have c2b1 : decide (l0.length < 4) = false := decide_eq_false (by omega); clear c2
 replace H := Option.bind_eq_some_iff.mp H
 obtain ⟨t166, A30, H⟩ := H
 (try dsimp only at H)
 have A3 := Aside0.mk A30; clear A30
 by_cases c4 : t166 > 8192
 ·rw [if_pos c4] at H
  have c4b0 : decide (8192 < t166) = true := decide_eq_true c4; clear c4
  simp only [Option.some.injEq, Prod.mk.injEq] at H
  obtain ⟨rfl, rfl, rfl⟩ := H
  go_enter Try.func43, Try.ntmps43
  go_wp2_with ((with_reducible refine gate_callee (f := 81) rfl ?_); refine goesL_ (some 11) rfl rfl Try.func81 (by kernel_rfl) rfl #[.slice A0 l0.length c0] rfl (by (try simp only [List.map_toArray, List.map_cons, List.map_nil]); (rfl)) ?_; (with_reducible refine (num_U32.calls _ _ l0 t166 _ ?side1 ?side2 A3.out).mono ?_); (case side1 => repeat (exact HR0.out)); (case side2 => exact HC0.out); rintro e w' ⟨rfl, ⟨nd, rfl⟩⟩; refine ⟨_, rfl, ?_⟩)
  go_ret3
  exact ⟨_, _, by (rfl), by (exact Kd.R_nil _ _ _ _ _), by (exact Kd.R_nil _ _ _ _ _), by repeat (with_reducible first | exact HB.out | apply pw_below_drewN)⟩
 rw [if_neg c4] at H
 have c4b0 : decide (8192 < t166) = false := decide_eq_false c4; clear c4
 by_cases c5 : (wrap64 ((l0.length : Int) - 4)) < (wrap64 (4 + (wrap64 (t166))))
 ·rw [if_pos c5] at H
  have c5b0 : decide ((wrap64 ((l0.length : Int) - 4)) < (wrap64 (4 + (wrap64 (t166))))) = true := decide_eq_true c5; clear c5
  simp only [Option.some.injEq, Prod.mk.injEq] at H
  obtain ⟨rfl, rfl, rfl⟩ := H
  go_enter Try.func43, Try.ntmps43
  go_wp2_with ((with_reducible refine gate_callee (f := 81) rfl ?_); refine goesL_ (some 11) rfl rfl Try.func81 (by kernel_rfl) rfl #[.slice A0 l0.length c0] rfl (by (try simp only [List.map_toArray, List.map_cons, List.map_nil]); (rfl)) ?_; (with_reducible refine (num_U32.calls _ _ l0 t166 _ ?side1 ?side2 A3.out).mono ?_); (case side1 => repeat (exact HR0.out)); (case side2 => exact HC0.out); rintro e w' ⟨rfl, ⟨nd, rfl⟩⟩; refine ⟨_, rfl, ?_⟩)
  go_ret3
  exact ⟨_, _, by (rfl), by (exact Kd.R_nil _ _ _ _ _), by (exact Kd.R_nil _ _ _ _ _), by repeat (with_reducible first | exact HB.out | apply pw_below_drewN)⟩
 rw [if_neg c5] at H
 have c5b0 : decide ((wrap64 ((l0.length : Int) - 4)) < (wrap64 (4 + (wrap64 (t166))))) = false := decide_eq_false c5; clear c5
 obtain ⟨ji6, hji6⟩ : ∃ j_ : Int, (wrap64 (4 + (wrap64 (t166)))) = j_ := ⟨_, rfl⟩
 replace H : (if 0 ≤ (ji6) then (if (ji6) ≤ (l0.length : Int) then ((crc_Sum.f k (l0.take ((ji6) : Int).toNat)).bind fun t168 => ((num_U32.f (l0.drop ((ji6) : Int).toNat)).bind fun t170 => (if t168 = t170 then (if 4 ≤ (ji6) then ((slices_Clone_byte_byte.f ((l0.take ((ji6) : Int).toNat).drop 4)).bind fun t172 => (if 0 ≤ (wrap64 ((ji6) + 4)) then (if (wrap64 ((ji6) + 4)) ≤ (l0.length : Int) then ((slices_Clone_byte_byte.f (l0.drop ((wrap64 ((ji6) + 4)) : Int).toNat)).bind fun t176 => (some (t172, t176, 0))) else (none)) else (none))) else (none)) else (some (([] : List Int), ([] : List Int), 2))))) else (none)) else (none)) = some (r1, r2, r3) := by (rw [hji6] at H; exact H)
 (try rw [hji6] at c5b0)
 have hji6w : (IntKind.i64.wrap (4 + (wrap64 (t166)))) = ji6 := (i64_w _).trans hji6
 by_cases c7 : 0 ≤ (ji6)
 ·rw [if_pos c7] at H
  have c7b0 := eq_true c7; have c7b1 : decide (0 ≤ (ji6)) = true := decide_eq_true c7; clear c7
  by_cases c8 : (ji6) ≤ (l0.length : Int)
  ·rw [if_pos c8] at H
   have c8b0 := eq_true c8; have c8b1 : decide ((ji6) ≤ (l0.length : Int)) = true := decide_eq_true c8; clear c8
   replace H := Option.bind_eq_some_iff.mp H
   obtain ⟨t168, A90, H⟩ := H
   (try dsimp only at H)
   have A9 := Aside0.mk A90; clear A90; have c10b0 := eq_true (of_decide_eq_true (by (with_reducible assumption)) : 0 ≤ (ji6)); have c11b0 := eq_true (of_decide_eq_true (by (with_reducible assumption)) : (ji6) ≤ (l0.length : Int))
   replace H := Option.bind_eq_some_iff.mp H
   obtain ⟨t170, A120, H⟩ := H
   (try dsimp only at H)
   have A12 := Aside0.mk A120; clear A120
   by_cases c13 : t168 = t170
   ·rw [if_pos c13] at H
    obtain ⟨c13b0, c13b1⟩ := Hand.Cz.eqT c13; clear c13
    by_cases c14 : 4 ≤ (ji6)
    ·rw [if_pos c14] at H
     have c14b0 := eq_true c14; have c14b1 : decide (4 ≤ (ji6)) = true := decide_eq_true c14; clear c14; have c15b0 := eq_true (of_decide_eq_true (by (with_reducible assumption)) : (ji6) ≤ (l0.length : Int))
     replace H := Option.bind_eq_some_iff.mp H
     obtain ⟨t172, A160, H⟩ := H
     (try dsimp only at H)
     have A16 := Aside0.mk A160; clear A160
     obtain ⟨ji17, hji17⟩ : ∃ j_ : Int, (wrap64 ((ji6) + 4)) = j_ := ⟨_, rfl⟩
     replace H : (if 0 ≤ (ji17) then (if (ji17) ≤ (l0.length : Int) then ((slices_Clone_byte_byte.f (l0.drop ((ji17) : Int).toNat)).bind fun t176 => (some (t172, t176, 0))) else (none)) else (none)) = some (r1, r2, r3) := by (rw [hji17] at H; exact H)
     have hji17w : (IntKind.i64.wrap ((ji6) + 4)) = ji17 := (i64_w _).trans hji17
     by_cases c18 : 0 ≤ (ji17)
     ·rw [if_pos c18] at H
      have c18b0 := eq_true c18; have c18b1 : decide (0 ≤ (ji17)) = true := decide_eq_true c18; clear c18
      by_cases c19 : (ji17) ≤ (l0.length : Int)
      ·rw [if_pos c19] at H
       have c19b0 := eq_true c19; have c19b1 : decide ((ji17) ≤ (l0.length : Int)) = true := decide_eq_true c19; clear c19
       replace H := Option.bind_eq_some_iff.mp H
       obtain ⟨t176, A200, H⟩ := H
       replace H : (some (t172, t176, 0)) = some (r1, r2, r3) := H
       have A20 := Aside0.mk A200; clear A200
       simp only [Option.some.injEq, Prod.mk.injEq] at H
       obtain ⟨rfl, rfl, rfl⟩ := H
       go_enter Try.func43, Try.ntmps43
       try go_wp2_with ((with_reducible refine gate_callee (f := 81) rfl ?_); refine goesL_ (some 11) rfl rfl Try.func81 (by kernel_rfl) rfl #[.slice A0 l0.length c0] rfl (by (try simp only [List.map_toArray, List.map_cons, List.map_nil]); (rfl)) ?_; (with_reducible refine (num_U32.calls _ _ l0 t166 _ ?side1 ?side2 A3.out).mono ?_); (case side1 => repeat (exact HR0.out)); (case side2 => exact HC0.out); rintro e w' ⟨rfl, ⟨nd, rfl⟩⟩; refine ⟨_, rfl, ?_⟩)
       have n0_ := Aside0.mk (below_drew1 HB.out); clear HB; have HB := n0_; clear n0_
       obtain ⟨i022, hi022, _, hsz22, _⟩ := info_parts info5
       obtain ⟨hcut22, hA22, hC22⟩ := print_take_of (P := Try.prog) (Value.int .u8) 0 35 5 .i64 Try.underlying35 hi022 hsz22 A0 c0 l0 (ji6) (of_decide_eq_true (by (with_reducible assumption))) (of_decide_eq_true (by (with_reducible assumption))) HC0.out
       have HR167 := Aside0.mk (Kd.C_of_reads (h1 := fun _ => rfl) (hA22 _ (Kd.reads_of_C HR0.out)))
       have HC167 := Aside0.mk hC22; clear hA22 hC22 hi022 hsz22
       obtain ⟨i023, hi023, _, hsz23, _⟩ := info_parts info5
       obtain ⟨A23, hcut23, hA23, hC23⟩ := print_drop_of (P := Try.prog) (Value.int .u8) 0 35 5 .i64 Try.underlying35 hi023 hsz23 A0 c0 l0 (ji6) (of_decide_eq_true (by (with_reducible assumption))) (of_decide_eq_true (by (with_reducible assumption))) HC0.out
       have HR169 := Aside0.mk (Kd.C_of_reads (h1 := fun _ => rfl) (hA23 _ (Kd.reads_of_C HR0.out)))
       have HC169 := Aside0.mk hC23; clear hA23 hC23 hi023 hsz23
       refine start_ (n := 10) (S := fun w' => True) (ds := []) #[false, false, false, false, false, false, false, false, false, false] (by kernel_rfl) rfl rfl trivial (fun hHeld => ?_); refine with_tabW frame_Cut.tab10 frame_Cut.bits10 (fun HT_ HW_ => ?_)
       generalize hq_ : World.drew _ = w21 at HR167 HR169 hHeld ⊢; have n_ : Aside0 (Below w.heap.size w w21) := ⟨by rw [← hq_]; exact below_drew1 (pw_below_drewN (Below.refl _ _) _)⟩; clear HB; have HB := n_; clear n_; clear hq_
       refine pure_ (i := 0) (N := some 35) (v := ?_) (a' := ?_) #[true, false, false, false, false, false, false, false, false, false] rfl rfl (any_of HT_.out (by kernel_rfl)) (fun _ _ _ h => h) (Or.inl ⟨by rfl, ?_⟩) ?_ ?_
       rotate_left
       ·intro w'; go_simp; with_reducible rfl
       rotate_left
       ·simp only [Act.put, List.setIfInBounds_toArray, List.set_cons_zero, List.set_cons_succ, i64_w, i32_w]; rfl
       refine pure_ (i := 1) (N := some 36) (v := ?_) (a' := ?_) #[true, true, false, false, false, false, false, false, false, false] rfl rfl (any_of HT_.out (by kernel_rfl)) (fun _ _ _ h => h) (Or.inl ⟨by rfl, ?_⟩) ?_ ?_
       rotate_left
       ·intro w'; go_simp; with_reducible rfl
       rotate_left
       ·simp only [Act.put, List.setIfInBounds_toArray, List.set_cons_zero, List.set_cons_succ, i64_w, i32_w]; rfl
       refine pure_ (i := 2) (N := some 37) (v := ?_) (a' := ?_) #[true, true, true, false, false, false, false, false, false, false] rfl rfl (any_of HT_.out (by kernel_rfl)) (fun _ _ _ h => h) (Or.inl ⟨by rfl, ?_⟩) ?_ ?_
       rotate_left
       ·intro w'; go_simp; with_reducible rfl
       rotate_left
       ·simp only [Act.put, List.setIfInBounds_toArray, List.set_cons_zero, List.set_cons_succ, i64_w, i32_w]; rfl
       refine pure_ (i := 4) (N := some 39) (v := ?_) (a' := ?_) #[true, true, true, false, true, false, false, false, false, false] rfl rfl (any_of HT_.out (by kernel_rfl)) (fun _ _ _ h => h) (Or.inl ⟨by rfl, ?_⟩) ?_ ?_
       rotate_left
       ·intro w'; go_simp; with_reducible rfl
       rotate_left
       ·simp only [Act.put, List.setIfInBounds_toArray, List.set_cons_zero, List.set_cons_succ, i64_w, i32_w]; rfl
       refine pure_ (i := 5) (N := some 40) (v := ?_) (a' := ?_) #[true, true, true, false, true, true, false, false, false, false] rfl rfl (any_of HT_.out (by kernel_rfl)) (fun _ _ _ h => h) (Or.inl ⟨by rfl, ?_⟩) ?_ ?_
       rotate_left
       ·intro w'; go_simp; with_reducible rfl
       rotate_left
       ·simp only [Act.put, List.setIfInBounds_toArray, List.set_cons_zero, List.set_cons_succ, i64_w, i32_w]; rfl
       refine pure_ (i := 6) (N := some 41) (v := ?_) (a' := ?_) #[true, true, true, false, true, true, true, false, false, false] rfl rfl (any_of HT_.out (by kernel_rfl)) (fun _ _ _ h => h) (Or.inl ⟨by rfl, ?_⟩) ?_ ?_
       rotate_left
       ·intro w'; go_simp; with_reducible rfl
       rotate_left
       ·simp only [Act.put, List.setIfInBounds_toArray, List.set_cons_zero, List.set_cons_succ, i64_w, i32_w]; rfl
       refine one_ (i := 3) (N := some 38) #[true, true, true, true, true, true, true, false, false, false] rfl rfl (one_of HT_.out (by kernel_rfl)) (by decide) (fun K hK => ?_)
       refine goes_ Try.func75 (by kernel_rfl) rfl #[.slice A0 (l0.take ((ji6) : Int).toNat).length c0] (by rfl) rfl rfl (by (try simp only [List.map_toArray, List.map_cons, List.map_nil]); (rw [show (l0.take ((ji6) : Int).toNat).length = (ji6).toNat from (by rw [List.length_take]; have h_ : ((ji6) : Int) ≤ (l0.length : Int) := of_decide_eq_true (by (with_reducible assumption)); omega)] <;> rfl)) ?_
       with_reducible refine (crc_Sum.calls k _ _ (l0.take ((ji6) : Int).toNat) t168 _ ?side1 ?side2 A9.out).mono ?_
       (case side1 => repeat (exact (Kd.C_below HR167.out HB.out)))
       (case side2 => exact HC167.out)
       rintro e w' ⟨rfl, ⟨nd, rfl⟩⟩
       refine ⟨_, rfl, ?_⟩
       refine hK.out _ _ trivial (fun hHeld => ?_)
       clear hK K
       refine norm_ (a' := ?_) ?_ ?_
       rotate_left
       ·show Act.put _ (some 38) _ = _; simp only [Act.put, List.setIfInBounds_toArray, List.set_cons_zero, List.set_cons_succ, i64_w, i32_w]; rfl
       refine one_ (i := 7) (N := some 42) #[true, true, true, true, true, true, true, true, false, false] rfl rfl (one_of HT_.out (by kernel_rfl)) (by decide) (fun K hK => ?_)
       refine goes_ Try.func81 (by kernel_rfl) rfl #[.slice A23 (l0.drop ((ji6) : Int).toNat).length (c0 - (ji6).toNat)] (by rfl) rfl rfl (by (try simp only [List.map_toArray, List.map_cons, List.map_nil]); (rw [show (l0.drop ((ji6) : Int).toNat).length = (l0.length - (ji6).toNat) from List.length_drop] <;> rfl)) ?_
       with_reducible refine (num_U32.calls _ _ (l0.drop ((ji6) : Int).toNat) t170 _ ?side1 ?side2 A12.out).mono ?_
       (case side1 => repeat (exact (Kd.C_below HR169.out (by repeat (with_reducible first | exact HB.out | apply pw_below_drewN)))))
       (case side2 => exact HC169.out)
       rintro e w' ⟨rfl, ⟨nd, rfl⟩⟩
       refine ⟨_, rfl, ?_⟩
       refine hK.out _ _ trivial (fun hHeld => ?_)
       clear hK K
       refine norm_ (a' := ?_) ?_ ?_
       rotate_left
       ·show Act.put _ (some 42) _ = _; simp only [Act.put, List.setIfInBounds_toArray, List.set_cons_zero, List.set_cons_succ, i64_w, i32_w]; rfl
       refine pure_ (i := 8) (N := some 43) (v := ?_) (a' := ?_) #[true, true, true, true, true, true, true, true, true, false] rfl rfl (any_of HT_.out (by kernel_rfl)) (fun _ _ _ h => h) (Or.inl ⟨by rfl, ?_⟩) ?_ ?_
       rotate_left
       ·intro w'; go_simp; with_reducible rfl
       rotate_left
       ·simp only [Act.put, List.setIfInBounds_toArray, List.set_cons_zero, List.set_cons_succ, i64_w, i32_w]; rfl
       refine pure_ (i := 9) (N := some 34) (v := ?_) (a' := ?_) #[true, true, true, true, true, true, true, true, true, true] rfl rfl (any_of HT_.out (by kernel_rfl)) (fun _ _ _ h => h) (Or.inl ⟨by rfl, ?_⟩) ?_ ?_
       rotate_left
       ·intro w'; go_simp; with_reducible rfl
       rotate_left
       ·simp only [Act.put, List.setIfInBounds_toArray, List.set_cons_zero, List.set_cons_succ, i64_w, i32_w]; rfl
       refine done_ (done_of HT_.out (by kernel_rfl)) ?_
       try go_wp2
       (try (rw [drewN_self w21]; generalize hq_ : World.drewN w21 _ = w21; have n0_ : Aside0 (Below w.heap.size w w21) := ⟨by rw [← hq_]; exact (by repeat (with_reducible first | exact HB.out | apply pw_below_drewN))⟩; clear HB hq_; have HB := n0_; clear n0_))
       (try (rw [drewN_self w21]; generalize hq_ : World.drewN w21 _ = w21; have n0_ : Aside0 (Below w.heap.size w w21) := ⟨by rw [← hq_]; exact (by repeat (with_reducible first | exact HB.out | apply pw_below_drewN))⟩; clear HB hq_; have HB := n0_; clear n0_))
       have n0_ := Aside0.mk (below_drew1 HB.out); clear HB; have HB := n0_; clear n0_
       obtain ⟨i025, hi025, _, hsz25, _⟩ := info_parts info5
       obtain ⟨A25, hcut25, hA25, hC25⟩ := Go.Proofs.Ytlpnpnjjmpkapaa.Hand.print_mid3_of (P := Try.prog) (Value.int .u8) 0 35 5 .i64 .i64 Try.underlying35 hi025 hsz25 A0 c0 l0 4 (ji6) (by omega) (by (exact of_decide_eq_true (by (with_reducible assumption)))) (of_decide_eq_true (by (with_reducible assumption))) HC0.out
       have HR171 := Aside0.mk (Kd.C_of_reads (h1 := fun _ => rfl) (hA25 _ (Kd.reads_of_C HR0.out)))
       have HC171 := Aside0.mk hC25; clear hA25 hC25 hi025 hsz25
       obtain ⟨i026, hi026, _, hsz26, _⟩ := info_parts info5
       obtain ⟨A26, hcut26, hA26, hC26⟩ := print_drop_of (P := Try.prog) (Value.int .u8) 0 35 5 .i64 Try.underlying35 hi026 hsz26 A0 c0 l0 (ji17) (of_decide_eq_true (by (with_reducible assumption))) (of_decide_eq_true (by (with_reducible assumption))) HC0.out
       have HR175 := Aside0.mk (Kd.C_of_reads (h1 := fun _ => rfl) (hA26 _ (Kd.reads_of_C HR0.out)))
       have HC175 := Aside0.mk hC26; clear hA26 hC26 hi026 hsz26
       refine start_ (n := 13) (S := fun w' => True) (ds := []) #[false, false, false, false, false, false, false, false, false, false, false, false, false] (by kernel_rfl) rfl rfl trivial (fun hHeld => ?_); refine with_tabW frame_Cut.tab5 frame_Cut.bits5 (fun HT_ HW_ => ?_)
       generalize w21.drew = w24 at HB HR171 HR175 hHeld ⊢
       refine pure_ (i := 0) (N := some 15) (v := ?_) (a' := ?_) #[true, false, false, false, false, false, false, false, false, false, false, false, false] rfl rfl (any_of HT_.out (by kernel_rfl)) (fun _ _ _ h => h) (Or.inl ⟨by rfl, ?_⟩) ?_ ?_
       rotate_left
       ·intro w'; go_simp; with_reducible rfl
       rotate_left
       ·simp only [Act.put, List.setIfInBounds_toArray, List.set_cons_zero, List.set_cons_succ, i64_w, i32_w]; rfl
       refine pure_ (i := 1) (N := some 16) (v := ?_) (a' := ?_) #[true, true, false, false, false, false, false, false, false, false, false, false, false] rfl rfl (any_of HT_.out (by kernel_rfl)) (fun _ _ _ h => h) (Or.inl ⟨by rfl, ?_⟩) ?_ ?_
       rotate_left
       ·intro w'; go_simp; with_reducible rfl
       rotate_left
       ·simp only [Act.put, List.setIfInBounds_toArray, List.set_cons_zero, List.set_cons_succ, i64_w, i32_w]; rfl
       refine pure_ (i := 2) (N := some 17) (v := ?_) (a' := ?_) #[true, true, true, false, false, false, false, false, false, false, false, false, false] rfl rfl (any_of HT_.out (by kernel_rfl)) (fun _ _ _ h => h) (Or.inl ⟨by rfl, ?_⟩) ?_ ?_
       rotate_left
       ·intro w'; go_simp; with_reducible rfl
       rotate_left
       ·simp only [Act.put, List.setIfInBounds_toArray, List.set_cons_zero, List.set_cons_succ, i64_w, i32_w]; rfl
       refine pure_ (i := 3) (N := some 18) (v := ?_) (a' := ?_) #[true, true, true, true, false, false, false, false, false, false, false, false, false] rfl rfl (any_of HT_.out (by kernel_rfl)) (fun _ _ _ h => h) (Or.inl ⟨by rfl, ?_⟩) ?_ ?_
       rotate_left
       ·intro w'; go_simp; with_reducible rfl
       rotate_left
       ·simp only [Act.put, List.setIfInBounds_toArray, List.set_cons_zero, List.set_cons_succ, i64_w, i32_w]; rfl
       refine pure_ (i := 5) (N := some 20) (v := ?_) (a' := ?_) #[true, true, true, true, false, true, false, false, false, false, false, false, false] rfl rfl (any_of HT_.out (by kernel_rfl)) (fun _ _ _ h => h) (Or.inl ⟨by rfl, ?_⟩) ?_ ?_
       rotate_left
       ·intro w'; go_simp; with_reducible rfl
       rotate_left
       ·simp only [Act.put, List.setIfInBounds_toArray, List.set_cons_zero, List.set_cons_succ, i64_w, i32_w]; rfl
       refine pure_ (i := 6) (N := some 21) (v := ?_) (a' := ?_) #[true, true, true, true, false, true, true, false, false, false, false, false, false] rfl rfl (any_of HT_.out (by kernel_rfl)) (fun _ _ _ h => h) (Or.inl ⟨by rfl, ?_⟩) ?_ ?_
       rotate_left
       ·intro w'; go_simp; with_reducible rfl
       rotate_left
       ·simp only [Act.put, List.setIfInBounds_toArray, List.set_cons_zero, List.set_cons_succ, i64_w, i32_w]; rfl
       refine pure_ (i := 7) (N := some 22) (v := ?_) (a' := ?_) #[true, true, true, true, false, true, true, true, false, false, false, false, false] rfl rfl (any_of HT_.out (by kernel_rfl)) (fun _ _ _ h => h) (Or.inl ⟨by rfl, ?_⟩) ?_ ?_
       rotate_left
       ·intro w'; go_simp; with_reducible rfl
       rotate_left
       ·simp only [Act.put, List.setIfInBounds_toArray, List.set_cons_zero, List.set_cons_succ, i64_w, i32_w]; rfl
       refine pure_ (i := 8) (N := some 23) (v := ?_) (a' := ?_) #[true, true, true, true, false, true, true, true, true, false, false, false, false] rfl rfl (any_of HT_.out (by kernel_rfl)) (fun _ _ _ h => h) (Or.inl ⟨by rfl, ?_⟩) ?_ ?_
       rotate_left
       ·intro w'; go_simp; with_reducible rfl
       rotate_left
       ·simp only [Act.put, List.setIfInBounds_toArray, List.set_cons_zero, List.set_cons_succ, i64_w, i32_w]; rfl
       refine one_ (i := 4) (N := some 19) #[true, true, true, true, true, true, true, true, true, false, false, false, false] rfl rfl (one_of HT_.out (by kernel_rfl)) (by decide) (fun K hK => ?_)
       refine goes_ Try.func82 (by kernel_rfl) rfl #[.slice A25 ((l0.take ((ji6) : Int).toNat).drop 4).length ((ji6).toNat - 4)] (by rfl) rfl rfl (by (try simp only [List.map_toArray, List.map_cons, List.map_nil]); (rw [show ((l0.take ((ji6) : Int).toNat).drop 4).length = ((ji6).toNat - 4) from (by rw [List.length_drop, List.length_take]; have h_ : ((ji6) : Int) ≤ (l0.length : Int) := of_decide_eq_true (by (with_reducible assumption)); omega)] <;> rfl)) ?_
       with_reducible refine (slices_Clone_byte_byte.calls _ _ ((l0.take ((ji6) : Int).toNat).drop 4) t172 _ ?side1 ?side2 A16.out).mono ?_
       (case side1 => repeat (exact (Kd.C_below HR171.out HB.out)))
       (case side2 => exact HC171.out)
       rintro e w27 ⟨v173, rfl, ho0, hb⟩
       refine ⟨_, rfl, ?_⟩
       have n0_ := Aside0.mk (Kd.R_lower ho0 (below_size (by repeat (with_reducible (exact HB.out))))); have n1_ := Aside0.mk (below_step (by repeat (with_reducible (exact HB.out))) hb); clear HB; have HO174 := n0_; have HB := n1_; clear n0_ n1_; (try clear hb); (try clear ho0)
       refine hK.out _ _ trivial (fun hHeld => ?_)
       clear hK K
       refine norm_ (a' := ?_) ?_ ?_
       rotate_left
       ·show Act.put _ (some 19) _ = _; simp only [Act.put, List.setIfInBounds_toArray, List.set_cons_zero, List.set_cons_succ, i64_w, i32_w]; rfl
       refine one_ (i := 9) (N := some 24) #[true, true, true, true, true, true, true, true, true, true, false, false, false] rfl rfl (one_of HT_.out (by kernel_rfl)) (by decide) (fun K hK => ?_)
       refine goes_ Try.func82 (by kernel_rfl) rfl #[.slice A26 (l0.drop ((ji17) : Int).toNat).length (c0 - (ji17).toNat)] (by rfl) rfl rfl (by (try simp only [List.map_toArray, List.map_cons, List.map_nil]); (rw [show (l0.drop ((ji17) : Int).toNat).length = (l0.length - (ji17).toNat) from List.length_drop] <;> rfl)) ?_
       with_reducible refine (slices_Clone_byte_byte.calls _ _ (l0.drop ((ji17) : Int).toNat) t176 _ ?side1 ?side2 A20.out).mono ?_
       (case side1 => repeat (exact (Kd.C_below HR175.out HB.out)))
       (case side2 => exact HC175.out)
       rintro e w28 ⟨v177, rfl, ho0, hb⟩
       refine ⟨_, rfl, ?_⟩
       have n0_ := Aside0.mk (Kd.R_elder' (by (with_reducible skip); exact HO174.out) (Kd.R_base ho0) hb); have n1_ := Aside0.mk (Kd.R_lower (Kd.R_new' ho0 (Kd.R_lt (by (with_reducible skip); exact HO174.out))) (below_size (by repeat (with_reducible (exact HB.out))))); have n2_ := Aside0.mk (below_step (by repeat (with_reducible (exact HB.out))) hb); clear HO174; clear HB; have HO174 := n0_; have HO178 := n1_; have HB := n2_; clear n0_ n1_ n2_; (try clear hb); (try clear ho0)
       refine hK.out _ _ trivial (fun hHeld => ?_)
       clear hK K
       refine norm_ (a' := ?_) ?_ ?_
       rotate_left
       ·show Act.put _ (some 24) _ = _; simp only [Act.put, List.setIfInBounds_toArray, List.set_cons_zero, List.set_cons_succ, i64_w, i32_w]; rfl
       refine pure_ (i := 10) (N := some 2) (v := ?_) (a' := ?_) #[true, true, true, true, true, true, true, true, true, true, true, false, false] rfl rfl (any_of HT_.out (by kernel_rfl)) (fun _ _ _ h => h) (Or.inl ⟨by rfl, ?_⟩) ?_ ?_
       rotate_left
       ·intro w'; go_simp; with_reducible rfl
       rotate_left
       ·simp only [Act.put, List.setIfInBounds_toArray, List.set_cons_zero, List.set_cons_succ, i64_w, i32_w]; rfl
       refine pure_ (i := 11) (N := some 3) (v := ?_) (a' := ?_) #[true, true, true, true, true, true, true, true, true, true, true, true, false] rfl rfl (any_of HT_.out (by kernel_rfl)) (fun _ _ _ h => h) (Or.inl ⟨by rfl, ?_⟩) ?_ ?_
       rotate_left
       ·intro w'; go_simp; with_reducible rfl
       rotate_left
       ·simp only [Act.put, List.setIfInBounds_toArray, List.set_cons_zero, List.set_cons_succ, i64_w, i32_w]; rfl
       refine pure_ (i := 12) (N := some 4) (v := ?_) (a' := ?_) #[true, true, true, true, true, true, true, true, true, true, true, true, true] rfl rfl (any_of HT_.out (by kernel_rfl)) (fun _ _ _ h => h) (Or.inl ⟨by rfl, ?_⟩) ?_ ?_
       rotate_left
       ·intro w'; go_simp; with_reducible rfl
       rotate_left
       ·simp only [Act.put, List.setIfInBounds_toArray, List.set_cons_zero, List.set_cons_succ, i64_w, i32_w]; rfl
       refine done_ (done_of HT_.out (by kernel_rfl)) ?_
       try go_wp2
       go_ret3
       exact ⟨_, _, by (rfl), by (with_reducible skip); exact Kd.R_mono HO174.out (fun _ hk => hk.2), by (with_reducible skip); exact Kd.R_mono HO178.out (fun _ hk => hk.2), by repeat (with_reducible (exact HB.out))⟩
      rw [if_neg c19] at H
      exact absurd H (by simp)
     rw [if_neg c18] at H
     exact absurd H (by simp)
    rw [if_neg c14] at H
    exact absurd H (by simp)
   rw [if_neg c13] at H
   obtain ⟨c13b0, c13b1⟩ := Hand.Cz.eqF c13
   simp only [Option.some.injEq, Prod.mk.injEq] at H
   obtain ⟨rfl, rfl, rfl⟩ := H
   go_enter Try.func43, Try.ntmps43
   try go_wp2_with ((with_reducible refine gate_callee (f := 81) rfl ?_); refine goesL_ (some 11) rfl rfl Try.func81 (by kernel_rfl) rfl #[.slice A0 l0.length c0] rfl (by (try simp only [List.map_toArray, List.map_cons, List.map_nil]); (rfl)) ?_; (with_reducible refine (num_U32.calls _ _ l0 t166 _ ?side1 ?side2 A3.out).mono ?_); (case side1 => repeat (exact HR0.out)); (case side2 => exact HC0.out); rintro e w' ⟨rfl, ⟨nd, rfl⟩⟩; refine ⟨_, rfl, ?_⟩)
   have n0_ := Aside0.mk (below_drew1 HB.out); clear HB; have HB := n0_; clear n0_
   obtain ⟨i030, hi030, _, hsz30, _⟩ := info_parts info5
   obtain ⟨hcut30, hA30, hC30⟩ := print_take_of (P := Try.prog) (Value.int .u8) 0 35 5 .i64 Try.underlying35 hi030 hsz30 A0 c0 l0 (ji6) (of_decide_eq_true (by (with_reducible assumption))) (of_decide_eq_true (by (with_reducible assumption))) HC0.out
   have HR167 := Aside0.mk (Kd.C_of_reads (h1 := fun _ => rfl) (hA30 _ (Kd.reads_of_C HR0.out)))
   have HC167 := Aside0.mk hC30; clear hA30 hC30 hi030 hsz30
   obtain ⟨i031, hi031, _, hsz31, _⟩ := info_parts info5
   obtain ⟨A31, hcut31, hA31, hC31⟩ := print_drop_of (P := Try.prog) (Value.int .u8) 0 35 5 .i64 Try.underlying35 hi031 hsz31 A0 c0 l0 (ji6) (of_decide_eq_true (by (with_reducible assumption))) (of_decide_eq_true (by (with_reducible assumption))) HC0.out
   have HR169 := Aside0.mk (Kd.C_of_reads (h1 := fun _ => rfl) (hA31 _ (Kd.reads_of_C HR0.out)))
   have HC169 := Aside0.mk hC31; clear hA31 hC31 hi031 hsz31
   refine start_ (n := 10) (S := fun w' => True) (ds := []) #[false, false, false, false, false, false, false, false, false, false] (by kernel_rfl) rfl rfl trivial (fun hHeld => ?_); refine with_tabW frame_Cut.tab10 frame_Cut.bits10 (fun HT_ HW_ => ?_)
   generalize hq_ : World.drew _ = w29 at HR167 HR169 hHeld ⊢; have n_ : Aside0 (Below w.heap.size w w29) := ⟨by rw [← hq_]; exact below_drew1 (pw_below_drewN (Below.refl _ _) _)⟩; clear HB; have HB := n_; clear n_; clear hq_
   refine pure_ (i := 0) (N := some 35) (v := ?_) (a' := ?_) #[true, false, false, false, false, false, false, false, false, false] rfl rfl (any_of HT_.out (by kernel_rfl)) (fun _ _ _ h => h) (Or.inl ⟨by rfl, ?_⟩) ?_ ?_
   rotate_left
   ·intro w'; go_simp; with_reducible rfl
   rotate_left
   ·simp only [Act.put, List.setIfInBounds_toArray, List.set_cons_zero, List.set_cons_succ, i64_w, i32_w]; rfl
   refine pure_ (i := 1) (N := some 36) (v := ?_) (a' := ?_) #[true, true, false, false, false, false, false, false, false, false] rfl rfl (any_of HT_.out (by kernel_rfl)) (fun _ _ _ h => h) (Or.inl ⟨by rfl, ?_⟩) ?_ ?_
   rotate_left
   ·intro w'; go_simp; with_reducible rfl
   rotate_left
   ·simp only [Act.put, List.setIfInBounds_toArray, List.set_cons_zero, List.set_cons_succ, i64_w, i32_w]; rfl
   refine pure_ (i := 2) (N := some 37) (v := ?_) (a' := ?_) #[true, true, true, false, false, false, false, false, false, false] rfl rfl (any_of HT_.out (by kernel_rfl)) (fun _ _ _ h => h) (Or.inl ⟨by rfl, ?_⟩) ?_ ?_
   rotate_left
   ·intro w'; go_simp; with_reducible rfl
   rotate_left
   ·simp only [Act.put, List.setIfInBounds_toArray, List.set_cons_zero, List.set_cons_succ, i64_w, i32_w]; rfl
   refine pure_ (i := 4) (N := some 39) (v := ?_) (a' := ?_) #[true, true, true, false, true, false, false, false, false, false] rfl rfl (any_of HT_.out (by kernel_rfl)) (fun _ _ _ h => h) (Or.inl ⟨by rfl, ?_⟩) ?_ ?_
   rotate_left
   ·intro w'; go_simp; with_reducible rfl
   rotate_left
   ·simp only [Act.put, List.setIfInBounds_toArray, List.set_cons_zero, List.set_cons_succ, i64_w, i32_w]; rfl
   refine pure_ (i := 5) (N := some 40) (v := ?_) (a' := ?_) #[true, true, true, false, true, true, false, false, false, false] rfl rfl (any_of HT_.out (by kernel_rfl)) (fun _ _ _ h => h) (Or.inl ⟨by rfl, ?_⟩) ?_ ?_
   rotate_left
   ·intro w'; go_simp; with_reducible rfl
   rotate_left
   ·simp only [Act.put, List.setIfInBounds_toArray, List.set_cons_zero, List.set_cons_succ, i64_w, i32_w]; rfl
   refine pure_ (i := 6) (N := some 41) (v := ?_) (a' := ?_) #[true, true, true, false, true, true, true, false, false, false] rfl rfl (any_of HT_.out (by kernel_rfl)) (fun _ _ _ h => h) (Or.inl ⟨by rfl, ?_⟩) ?_ ?_
   rotate_left
   ·intro w'; go_simp; with_reducible rfl
   rotate_left
   ·simp only [Act.put, List.setIfInBounds_toArray, List.set_cons_zero, List.set_cons_succ, i64_w, i32_w]; rfl
   refine one_ (i := 3) (N := some 38) #[true, true, true, true, true, true, true, false, false, false] rfl rfl (one_of HT_.out (by kernel_rfl)) (by decide) (fun K hK => ?_)
   refine goes_ Try.func75 (by kernel_rfl) rfl #[.slice A0 (l0.take ((ji6) : Int).toNat).length c0] (by rfl) rfl rfl (by (try simp only [List.map_toArray, List.map_cons, List.map_nil]); (rw [show (l0.take ((ji6) : Int).toNat).length = (ji6).toNat from (by rw [List.length_take]; have h_ : ((ji6) : Int) ≤ (l0.length : Int) := of_decide_eq_true (by (with_reducible assumption)); omega)] <;> rfl)) ?_
   with_reducible refine (crc_Sum.calls k _ _ (l0.take ((ji6) : Int).toNat) t168 _ ?side1 ?side2 A9.out).mono ?_
   (case side1 => repeat (exact (Kd.C_below HR167.out HB.out)))
   (case side2 => exact HC167.out)
   rintro e w' ⟨rfl, ⟨nd, rfl⟩⟩
   refine ⟨_, rfl, ?_⟩
   refine hK.out _ _ trivial (fun hHeld => ?_)
   clear hK K
   refine norm_ (a' := ?_) ?_ ?_
   rotate_left
   ·show Act.put _ (some 38) _ = _; simp only [Act.put, List.setIfInBounds_toArray, List.set_cons_zero, List.set_cons_succ, i64_w, i32_w]; rfl
   refine one_ (i := 7) (N := some 42) #[true, true, true, true, true, true, true, true, false, false] rfl rfl (one_of HT_.out (by kernel_rfl)) (by decide) (fun K hK => ?_)
   refine goes_ Try.func81 (by kernel_rfl) rfl #[.slice A31 (l0.drop ((ji6) : Int).toNat).length (c0 - (ji6).toNat)] (by rfl) rfl rfl (by (try simp only [List.map_toArray, List.map_cons, List.map_nil]); (rw [show (l0.drop ((ji6) : Int).toNat).length = (l0.length - (ji6).toNat) from List.length_drop] <;> rfl)) ?_
   with_reducible refine (num_U32.calls _ _ (l0.drop ((ji6) : Int).toNat) t170 _ ?side1 ?side2 A12.out).mono ?_
   (case side1 => repeat (exact (Kd.C_below HR169.out (by repeat (with_reducible first | exact HB.out | apply pw_below_drewN)))))
   (case side2 => exact HC169.out)
   rintro e w' ⟨rfl, ⟨nd, rfl⟩⟩
   refine ⟨_, rfl, ?_⟩
   refine hK.out _ _ trivial (fun hHeld => ?_)
   clear hK K
   refine norm_ (a' := ?_) ?_ ?_
   rotate_left
   ·show Act.put _ (some 42) _ = _; simp only [Act.put, List.setIfInBounds_toArray, List.set_cons_zero, List.set_cons_succ, i64_w, i32_w]; rfl
   refine pure_ (i := 8) (N := some 43) (v := ?_) (a' := ?_) #[true, true, true, true, true, true, true, true, true, false] rfl rfl (any_of HT_.out (by kernel_rfl)) (fun _ _ _ h => h) (Or.inl ⟨by rfl, ?_⟩) ?_ ?_
   rotate_left
   ·intro w'; go_simp; with_reducible rfl
   rotate_left
   ·simp only [Act.put, List.setIfInBounds_toArray, List.set_cons_zero, List.set_cons_succ, i64_w, i32_w]; rfl
   refine pure_ (i := 9) (N := some 34) (v := ?_) (a' := ?_) #[true, true, true, true, true, true, true, true, true, true] rfl rfl (any_of HT_.out (by kernel_rfl)) (fun _ _ _ h => h) (Or.inl ⟨by rfl, ?_⟩) ?_ ?_
   rotate_left
   ·intro w'; go_simp; with_reducible rfl
   rotate_left
   ·simp only [Act.put, List.setIfInBounds_toArray, List.set_cons_zero, List.set_cons_succ, i64_w, i32_w]; rfl
   refine done_ (done_of HT_.out (by kernel_rfl)) ?_
   try go_wp2
   go_ret3
   exact ⟨_, _, by (rfl), by (exact Kd.R_nil _ _ _ _ _), by (exact Kd.R_nil _ _ _ _ _), by repeat (with_reducible first | exact HB.out | apply pw_below_drewN)⟩
  rw [if_neg c8] at H
  exact absurd H (by simp)
 rw [if_neg c7] at H
 exact absurd H (by simp)

-- NOT PRINTED: function 83 (message_reader_take)

-- NOT PRINTED: function 44 (message_reader_small)

/-- num.U64: of the first eight bytes, the highest first. -/
def num_U64.to (l0 : List Int) : Nat → Int
 | 0 => 0
 | k + 1 => num_U64.to l0 k * 256 + rd l0 k
theorem num_U64.to_bd (l0 : List Int) (hb : ∀ k : Nat, k < 8 → 0 ≤ rd l0 k ∧ rd l0 k ≤ 255) : ∀ k, k ≤ 8 → 0 ≤ num_U64.to l0 k ∧ num_U64.to l0 k < 256 ^ k := by
 intro k
 induction k with
 | zero => intro _; exact ⟨Int.le_refl _, (by decide : (0 : Int) < 256 ^ 0)⟩
 | succ k ih =>
  intro hk
  obtain ⟨h0, h1⟩ := ih (by omega)
  obtain ⟨b0, b1⟩ := hb k (by omega)
  rw [Int.pow_succ]
  show 0 ≤ num_U64.to l0 k * 256 + rd l0 k ∧ num_U64.to l0 k * 256 + rd l0 k < _
  omega
theorem num_U64.step (l0 : List Int) (hb : ∀ k : Nat, k < 8 → 0 ≤ rd l0 k ∧ rd l0 k ≤ 255) (k : Nat) (hk : k < 8) : Go.bits .or .u64 (num_U64.to l0 k * 256 % 18446744073709551616) (rd l0 k) = num_U64.to l0 (k + 1) := by
 obtain ⟨h0, h1⟩ := num_U64.to_bd l0 hb k (by omega)
 obtain ⟨b0, b1⟩ := hb k hk
 have g : (256 : Int) ^ k ≤ 72057594037927936 := by
  have hc : k = 0 ∨ k = 1 ∨ k = 2 ∨ k = 3 ∨ k = 4 ∨ k = 5 ∨ k = 6 ∨ k = 7 := by omega
  rcases hc with rfl | rfl | rfl | rfl | rfl | rfl | rfl | rfl <;> decide
 rw [Int.emod_eq_of_lt (by omega) (by omega)]
 exact Hand.or_low64 _ _ h0 (by omega) b0 b1
def num_U64.f (l0 : List Int) : Option Int := if 8 ≤ l0.length ∧ ∀ x ∈ l0.take 8, 0 ≤ x ∧ x ≤ 255 then some (num_U64.to l0 8) else none
set_option maxHeartbeats 4000000 in
set_option maxRecDepth 100000 in
theorem num_U64.calls (A0 : Option Addr) (c0 : Nat) (l0 : List Int) (r : Int) (w : World) (hr0 : Kd.C (Kd.int .u8) w A0 l0.length l0) (hc0 : l0.length ≤ c0) (h : num_U64.f l0 = some r) :
  Calls Try.prog 84 #[.slice A0 l0.length c0] w fun e w' => e = .returned (.int .u64 r) ∧ Drawn0 w w' := by
 unfold num_U64.f at h
 split at h
 ·rename_i hh
  obtain rfl := Option.some.inj h
  clear h
  obtain ⟨hl, hb⟩ := hh
  have hl' : (8 : Int) ≤ l0.length := by omega
  have hc' : (8 : Int) ≤ c0 := by omega
  have HR0 := Aside0.mk hr0
  have HB4 := Aside0.mk (show ∀ k : Nat, k < 8 → 0 ≤ rd l0 k ∧ rd l0 k ≤ 255 from fun k hk => hb _ (by
   have hk2 : k < (l0.take 8).length := by simp; omega
   have e : rd l0 k = (l0.take 8)[k] := by simp [rd, List.getD_eq_getElem?_getD, List.getElem?_eq_getElem (show k < l0.length by omega)]
   rw [e]; exact List.getElem_mem hk2))
  clear hr0 hb
  obtain ⟨ad, c, rfl, _, _, _⟩ := Kd.C_get HR0.out (0 : Int) 0 (by omega) (by omega)
  go_enter Try.func84, Try.ntmps84
  go_wp2
  go_loop [2, 8] (fun n i => ∃ k : Nat, k ≤ 8 ∧ i = .int .i64 k ∧ n = .int .u64 (num_U64.to l0 k)) (fun _ i => 8 - (intOf i).toNat)
  case atStart => exact ⟨0, by omega, rfl, rfl⟩
  case round =>
   obtain ⟨k, hk, rfl, rfl⟩ := hrel
   by_cases hlt : k < 8
   ·obtain ⟨ad', ead, hcell⟩ := Kd.at_int HR0.out (k : Int) (by omega) (by omega)
    cases ead
    have hx := HB4.out k hlt; have hx0 := hx.1; have hx1 := hx.2; clear hx
    rw [show ((k : Int)).toNat = k from by omega] at hcell
    go_wp2
    go_round
    case rel => exact ⟨k + 1, by omega, by go_num, congrArg (Value.int .u64) (num_U64.step l0 HB4.out k hlt)⟩
    case measure => simp [intOf]; omega
   ·obtain rfl : k = 8 := by omega
    go_wp2
    go_ret
    exact ⟨rfl, Drawn0.refl _⟩
 exact absurd h (by simp)


-- NOT PRINTED: function 45 (message_reader_number)

-- NOT PRINTED: function 111 (span_reader_take)

-- NOT PRINTED: function 106 (span_reader_number)

-- NOT PRINTED: function 107 (span_reader_small)

-- NOT PRINTED: function 108 (span_reader_text)

end Go.Proofs.Ytlpnpnjjmpkapaa.PAll
