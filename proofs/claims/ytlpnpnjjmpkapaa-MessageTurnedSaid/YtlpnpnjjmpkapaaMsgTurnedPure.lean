/-
  The plain law MessageTurned; the bytes of a right packet are bytes, and few.
  Conditions: numbers of their kinds.
-/
import Derived.Test.YtlpnpnjjmpkapaaMsgPay
import Derived.Test.YtlpnpnjjmpkapaaPAllx12
import Derived.Test.YtlpnpnjjmpkapaaPAllx15
import Derived.Test.YtlpnpnjjmpkapaaPAllx16
namespace Go.Proofs.Ytlpnpnjjmpkapaa.PAll
open Go.RowKit Go.Lib Go.Proofs.YtlpnpnjjmpkapaaW.PrintWords Go.Proofs.YtlpnpnjjmpkapaaW.PrintLast Go.Proofs.YtlpnpnjjmpkapaaW.PrintMore
set_option linter.unusedVariables false
set_option linter.unusedSimpArgs false
theorem turned_law (a0 a1 a2 a3 a4 a5 a6 : Int) (a7 : Bool) (l8 : List S76) (l9 : List S92) (l10 : List Int) (at_ turn : Int) (w8 : ∀ s ∈ l8, 0 ≤ s.f1 ∧ s.f1 < 18446744073709551616) (ht : 0 ≤ turn ∧ turn ≤ 255) :
  winnowlaw05_MessageTurned.f 4000 a0 a1 a2 a3 a4 a5 a6 a7 l8 l9 l10 at_ turn = some true := by
 obtain ⟨k, hk⟩ : ∃ k, k = 3997 := ⟨_, rfl⟩
 rw [show (4000 : Nat) = k + 1 + 1 + 1 by omega]
 have hj1 : ∀ (n : Nat) (x : List Int), winnowlaw05_MessageTurned.j1 (n + 1) at_ turn x true = some true := fun n x => by rw [winnowlaw05_MessageTurned.j1, if_pos rfl]; rfl
 have hj0 : ∀ n, winnowlaw05_MessageTurned.j0 (n + 1) at_ turn true a0 a1 a2 a3 a4 a5 a6 a7 l8 l9 l10 = some true := fun n => by rw [winnowlaw05_MessageTurned.j0, if_pos rfl]; rfl
 unfold winnowlaw05_MessageTurned.f
 obtain ⟨b, hb, hl⟩ := light_eq a0 a1 a2 a3 a4 a5 a6 a7 l8 l9 l10 (k := k + 1 + 1 + 1) (by omega)
 rw [hb]
 simp only [Option.bind_some]
 cases b
 ·rw [if_neg (by decide)]
  exact hj0 _
 obtain ⟨n8, n9, n10⟩ := hl rfl
 rw [if_pos rfl]
 by_cases h0 : turn = 0
 ·rw [show (turn == 0) = true from beq_iff_eq.2 h0]
  exact hj0 _
 rw [beq_eq_false_iff_ne.2 h0, winnowlaw05_MessageTurned.j0, if_neg (by decide)]
 obtain ⟨v, hv, hv2⟩ := right_val a0 a1 a2 a3 a4 a5 a6 a7 n8 n9 n10 w8
 rcases hv2 with rfl | rfl
 ·obtain ⟨hB, hL⟩ := pay_small a0 a1 a2 a3 a4 a5 a6 a7 n8 n9 n10 w8 hv
  rw [enc_ok a0 a1 a2 a3 a4 a5 a6 a7 n8 n9 n10 w8 hv]
  generalize payL a0 a1 a2 a3 a4 a5 a6 a7 l8 l9 l10 = pay at *
  simp only [Option.bind_some, if_true]
  by_cases h4 : at_ < 4
  ·rw [if_pos h4]
   exact hj1 _ _
  rw [if_neg h4]
  by_cases h5 : at_ ≥ ((frameL pay).length : Int)
  ·rw [decide_eq_true h5]
   exact hj1 _ _
  rw [decide_eq_false h5, winnowlaw05_MessageTurned.j1, if_neg (by decide)]
  have hfl := frameL_len pay
  simp only [Option.bind_some, List.nil_append, List.length_nil, Nat.zero_add]
  rw [if_pos (by omega)]
  try simp only [Option.bind_some]
  rw [if_pos (by omega), if_pos (by omega)]
  obtain ⟨i, rfl⟩ : ∃ i : Nat, at_ = (i : Int) := ⟨at_.toNat, by omega⟩
  have hFB := frameL_bytes hB
  have hx := hFB (rd (frameL pay) (i : Int)) (rd_mem1 (by omega) (by omega))
  obtain ⟨hy, hne⟩ := turn_byte hx ht h0
  have hct := cut_turned hB hL (i := i) (by omega) (by omega) hy hne
  rw [Int.toNat_natCast]
  have hcut := cut_eq (l := (frameL pay).set i (Go.bits .xor .u8 (rd (frameL pay) (i : Int)) turn)) (hFB.set i hy) (by rw [List.length_set]; omega) (k := 100000) (by omega)
  have hd : message_Decode.f ((frameL pay).set i (Go.bits .xor .u8 (rd (frameL pay) (i : Int)) turn)) = some (0, 0, 0, 0, 0, 0, 0, false, [], [], [], 2) := by
   unfold message_Decode.f
   rw [hcut]
   simp only [Option.bind_some]
   rw [hct, if_neg (by decide)]
  rw [hd]
  simp only [Option.bind_some, if_true]
  rw [same_eq_ 0 0 0 0 0 0 0 false 0 0 0 0 0 0 0 false (l8 := []) (l9 := []) (l10 := []) (.inl rfl) (.inl rfl) (.inl rfl) (by simp) (by simp) (by simp) (by omega)]
  rfl
 ·rw [enc_bad a0 a1 a2 a3 a4 a5 a6 a7 n8 n9 n10 hv]
  simp only [Option.bind_some]
  rw [if_neg (by decide)]
  exact hj1 _ _
end Go.Proofs.Ytlpnpnjjmpkapaa.PAll
