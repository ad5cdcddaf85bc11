-- Laid by the kit's print.py, called for several functions at once (our call).
import Derived.Test.YtjamddlclahhjaaPAllx0
namespace Go.Proofs.Ytjamddlclahhjaa.PAll
open Go.RowKit Go.Proofs.YtjamddlclahhjaaW.PrintWords Go.Proofs.YtjamddlclahhjaaW.PrintLast Go.Proofs.YtjamddlclahhjaaW.PrintMore
attribute [local go_sem] max2_int min2_int max_two min_two max_three min_three max_four min_four   -- for this text's walks alone
set_option linter.unusedVariables false
set_option linter.unusedSimpArgs false

/-! ### num_U32: function 24 -/
/-- num.U32: of the first four bytes, the lowest first. -/
def num_U32.to (l0 : List Int) : Nat → Int
  | 0 => 0
  | k + 1 => num_U32.to l0 k + rd l0 k * 2 ^ (8 * k)
theorem num_U32.to_bd (l0 : List Int) (hb : ∀ k : Nat, k < 4 → 0 ≤ rd l0 k ∧ rd l0 k ≤ 255) : ∀ k, k ≤ 4 → 0 ≤ num_U32.to l0 k ∧ num_U32.to l0 k < 2 ^ (8 * k) := by
  intro k
  induction k with
  | zero => intro _; exact ⟨Int.le_refl _, (by decide : (0 : Int) < 2 ^ (8 * 0))⟩
  | succ k ih =>
    intro hk
    obtain ⟨h0, h1⟩ := ih (by omega)
    obtain ⟨b0, b1⟩ := hb k (by omega)
    have e : (2 : Int) ^ (8 * (k + 1)) = 256 * 2 ^ (8 * k) := by rw [Nat.mul_succ, Int.pow_add, Int.mul_comm]; rfl
    have hp : (0 : Int) < 2 ^ (8 * k) := Int.pow_pos (by decide)
    have m0 := Int.mul_nonneg b0 (Int.le_of_lt hp)
    have m1 := Int.mul_le_mul_of_nonneg_right b1 (Int.le_of_lt hp)
    rw [e]
    show 0 ≤ num_U32.to l0 k + rd l0 k * 2 ^ (8 * k) ∧ num_U32.to l0 k + rd l0 k * 2 ^ (8 * k) < _
    omega
theorem num_U32.step (l0 : List Int) (hb : ∀ k : Nat, k < 4 → 0 ≤ rd l0 k ∧ rd l0 k ≤ 255) (k : Nat) (hk : k < 4) : Go.bits .or .u32 (num_U32.to l0 k) (rd l0 k * 2 ^ (8 * k) % 4294967296) = num_U32.to l0 (k + 1) := by
  obtain ⟨h0, h1⟩ := num_U32.to_bd l0 hb k (by omega)
  obtain ⟨b0, b1⟩ := hb k hk
  obtain ⟨_, g1⟩ := num_U32.to_bd l0 hb (k + 1) (by omega)
  have hp : (0 : Int) < 2 ^ (8 * k) := Int.pow_pos (by decide)
  have m0 := Int.mul_nonneg b0 (Int.le_of_lt hp)
  have g2 : (2 : Int) ^ (8 * (k + 1)) ≤ 4294967296 := by
    have hc : k = 0 ∨ k = 1 ∨ k = 2 ∨ k = 3 := by omega
    rcases hc with rfl | rfl | rfl | rfl <;> decide
  have g3 : num_U32.to l0 (k + 1) = num_U32.to l0 k + rd l0 k * 2 ^ (8 * k) := rfl
  rw [g3] at g1 ⊢
  rw [Int.emod_eq_of_lt m0 (by omega)]
  exact Hand.or_apart (8 * k) _ _ h0 h1 b0 (by omega)
def num_U32.f (l0 : List Int) : Option Int := if 4 ≤ l0.length ∧ ∀ x ∈ l0.take 4, 0 ≤ x ∧ x ≤ 255 then some (num_U32.to l0 4) else none
set_option maxHeartbeats 4000000 in
set_option maxRecDepth 100000 in
theorem num_U32.calls (A0 : Option Addr) (c0 : Nat) (l0 : List Int) (r : Int) (w : World) (hr0 : Kd.C (Kd.int .u8) w A0 l0.length l0) (hc0 : l0.length ≤ c0) (h : num_U32.f l0 = some r) :
    Calls Try.prog 24 #[.slice A0 l0.length c0] w fun e w' => e = .returned (.int .u32 r) ∧ Drawn0 w w' := by
  unfold num_U32.f at h
  split at h
  · rename_i hh
    obtain rfl := Option.some.inj h
    clear h
    obtain ⟨hl, hb⟩ := hh
    have hl' : (4 : Int) ≤ l0.length := by omega
    have hc' : (4 : Int) ≤ c0 := by omega
    have HR0 := Aside0.mk hr0
    have HB4 := Aside0.mk (show ∀ k : Nat, k < 4 → 0 ≤ rd l0 k ∧ rd l0 k ≤ 255 from fun k hk => hb _ (by
      have hk2 : k < (l0.take 4).length := by simp; omega
      have e : rd l0 k = (l0.take 4)[k] := by simp [rd, List.getD_eq_getElem?_getD, List.getElem?_eq_getElem (show k < l0.length by omega)]
      rw [e]; exact List.getElem_mem hk2))
    clear hr0 hb
    obtain ⟨ad, c, rfl, _, _, _⟩ := Kd.C_get HR0.out (0 : Int) 0 (by omega) (by omega)
    go_enter Try.func24, Try.ntmps24
    go_wp2
    go_loop [2, 8] (fun n i => ∃ k : Nat, k ≤ 4 ∧ i = .int .i64 k ∧ n = .int .u32 (num_U32.to l0 k)) (fun _ i => 4 - (intOf i).toNat)
    case atStart => exact ⟨0, by omega, rfl, rfl⟩
    case round =>
      obtain ⟨k, hk, rfl, rfl⟩ := hrel
      by_cases hlt : k < 4
      · obtain ⟨ad', ead, hcell⟩ := Kd.at_int HR0.out (k : Int) (by omega) (by omega)
        cases ead
        have hx := HB4.out k hlt
        have hx0 := hx.1
        have hx1 := hx.2
        clear hx
        rw [show ((k : Int)).toNat = k from by omega] at hcell
        go_wp2
        go_round
        case rel => exact ⟨k + 1, by omega, by go_num, congrArg (Value.int .u32) (num_U32.step l0 HB4.out k hlt)⟩
        case measure => simp [intOf]; omega
      · obtain rfl : k = 4 := by omega
        go_wp2
        go_ret
        exact ⟨rfl, Drawn0.refl _⟩
  · exact absurd h (by simp)


/-! ### slices_Clone_byte_byte: function 25 -/
/-- slices.Clone: the same elements, in memory of the call's own. -/
def slices_Clone_byte_byte.f (l0 : List Int) : Option (List Int) := if l0.length * 1 ≤ 140737488355328 then some l0 else none
set_option maxHeartbeats 4000000 in
set_option maxRecDepth 100000 in
theorem slices_Clone_byte_byte.calls (A0 : Option Addr) (c0 : Nat) (l0 : List Int) (r : List Int) (w : World) (hr0 : Kd.C (Kd.int .u8) w A0 l0.length l0) (hc0 : l0.length ≤ c0) (h : slices_Clone_byte_byte.f l0 = some r) :
    Calls Try.prog 25 #[.slice A0 l0.length c0] w fun e w' => ∃ v0_ : Value, e = .returned (v0_) ∧ Kd.R (Kd.int .u8) 5 w' w.heap.size (fun _ => True) v0_ r ∧ Below w.heap.size w w' := by
  unfold slices_Clone_byte_byte.f at h
  split at h
  · rename_i hl
    obtain rfl := Option.some.inj h
    clear h
    have q22 : ∀ (w : World) (a : Option Addr) (n c n' c' : Nat), (binOp .eql 22 (.slice a n c) (.slice none n' c')).run Try.prog w = .ok (.bool a.isNone) w := fun w a n c n' c' => Lib.run_eql_slice_nil w _ _ a n c n' c' Try.underlying22
    have HR0 := Aside0.mk hr0
    clear hr0
    rcases A0 with _ | ad
    · obtain rfl := Hand.C_none HR0.out
      clear HR0
      go_enter Try.func25, Try.ntmps25
      go_wp2
      go_ret
      exact ⟨_, rfl, Kd.R_nil _ _ _ _ _, Below.refl _ _⟩
    · go_enter Try.func25, Try.ntmps25
      go_wp2_with (at_builtin; refine Kd.R_append_rows (Kd.int .u8) (Rr := ((Kd.int .u8)).K w) (w0 := w) w.heap.size rfl (.tmp 5) (.tmp 6) 22 5 (.int .u8 0) 1 rfl Try.underlying22 info5 rfl (by decide) (by decide) (.slice (some ⟨w.heap.size, 0, none⟩) 0 0) [] l0 (some ad) l0.length c0 (fun _ => True) (fun _ => False) rfl rfl ?o1 ?o2 ?o6 ?o7 ?o8 ?o3 ?o4 ?o5 ?_)
      case o1 => exact Hand.R_empty _ _ _
      case o2 => exact ReadsRow.imp_ HR0.out (below_alloc (Below.refl _ _) _) (fun _ _ hp => hp)
      case o6 => intro x cs h; exact h
      case o7 => exact fun _ hk => hk.elim
      case o8 => exact fun _ _ => trivial
      case o3 => exact below_alloc (Below.refl _ _) _
      case o4 => simp
      case o5 => simpa using hl
      intro v1 w1 hown hb hg hat
      have HO := Aside0.mk hown
      have HB := Aside0.mk hb
      clear hown hb hg hat
      go_wp2
      go_ret
      exact ⟨v1, rfl, HO.out, HB.out⟩
  · exact absurd h (by simp)


end Go.Proofs.Ytjamddlclahhjaa.PAll
