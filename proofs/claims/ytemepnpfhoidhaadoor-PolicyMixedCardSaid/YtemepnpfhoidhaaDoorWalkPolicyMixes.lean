/-
  The laws PolicyMixes and PolicyMixed return true.
  Conditions: the tables that the row lists, as the program lays them.
-/
import Derived.Test.YtemepnpfhoidhaaDoorPolicyAlive
import Derived.Test.YtemepnpfhoidhaaDoorMixCore
import Derived.Test.YtemepnpfhoidhaaDoorOpsAll
namespace Go.Proofs.YtemepnpfhoidhaaDoor.PAll
open Go.RowKit Go.Lib Go.Sort Go.Proofs.YtemepnpfhoidhaaDoorW.PrintWords Go.Proofs.YtemepnpfhoidhaaDoorW.PrintLast Go.Proofs.YtemepnpfhoidhaaDoorW.PrintMore
set_option linter.unusedVariables false
set_option linter.unusedSimpArgs false
theorem ref_mix (n : Int) : winnowref04_Mix.f n = some (mixI n) := rfl
set_option maxHeartbeats 4000000 in
set_option maxRecDepth 100000 in
theorem mixes_calls (n : Int) (w : World) (hw : Laid w) : Calls Tryd.prog 3 #[.int .u64 n] w fun e w' => e = .returned (.bool true) ∧ Below w.heap.size w w' := by
  have HW := Aside0.mk hw
  clear hw
  go_enter Tryd.func3, Tryd.ntmps3
  go_wp2_with fail
  refine (policy_Mix.calls n (mixI n) _ (mix_some n)).mono ?_
  rintro e w1 ⟨rfl, hD⟩
  have HB1 := Aside0.mk (Drawn0.below hD)
  clear hD
  go_wp2_with fail
  refine (winnowref04_Mix.calls n (mixI n) _ (ref_mix n)).mono ?_
  rintro e w2 ⟨rfl, hD⟩
  have HB2 := Aside0.mk (below_step HB1.out (Drawn0.below hD))
  clear hD
  go_wp2_with fail
  refine (alive_calls _ (HW.out.below HB2.out)).mono ?_
  rintro e w3 ⟨rfl, hb⟩
  have HB3 := Aside0.mk (below_step HB2.out hb)
  clear hb
  go_wp2
  go_ret
  exact ⟨rfl, HB3.out⟩
theorem wrapN (x : Nat) : IntKind.u64.wrap (x : Int) = ((x % 18446744073709551616 : Nat) : Int) := by
  rw [IntKind.wrap_u64]
  omega
theorem xor64 (a b : Nat) (ha : a < 18446744073709551616) (hb : b < 18446744073709551616) : Go.bits .xor .u64 (a : Int) (b : Int) = ((a ^^^ b : Nat) : Int) := by
  have h3 : (BitVec.ofInt 64 (a : Int) ^^^ BitVec.ofInt 64 (b : Int)).toNat = a ^^^ b := by
    rw [BitVec.toNat_xor, BitVec.ofInt_natCast, BitVec.ofInt_natCast, BitVec.toNat_ofNat, BitVec.toNat_ofNat, Nat.mod_eq_of_lt (by omega), Nat.mod_eq_of_lt (by omega)]
  show IntKind.u64.wrap (((BitVec.ofInt 64 (a : Int) ^^^ BitVec.ofInt 64 (b : Int)).toNat : Nat) : Int) = _
  rw [h3, wrapN]
  have hlt : a ^^^ b < 18446744073709551616 := by
    rw [MixCore.b64] at ha hb ⊢
    exact Nat.xor_lt_two_pow ha hb
  rw [Nat.mod_eq_of_lt hlt]
theorem xsN (k d x : Nat) (hd : 2 ^ k = d) (hx : x < 18446744073709551616) : Go.bits .xor .u64 (x : Int) ((x : Int) / (d : Int)) = ((MixCore.xs k x : Nat) : Int) := by
  have e : (x : Int) / (d : Int) = ((x >>> k : Nat) : Int) := by
    rw [Nat.shiftRight_eq_div_pow, hd]
    rfl
  rw [e, xor64 _ _ hx (MixCore.shr_lt k hx)]
  rfl
theorem mixI_eq (n : Nat) : mixI (n : Int) = (MixCore.mix n : Nat) := by
  have l1 : ∀ x : Nat, x % 18446744073709551616 < 18446744073709551616 := fun x => Nat.mod_lt _ (by decide)
  unfold mixI policy_Mix.f
  rw [Option.getD_some]
  have e0 : (n : Int) + 11400714819323198485 = ((n + 11400714819323198485 : Nat) : Int) := rfl
  rw [e0, wrapN]
  have e1 : ∀ x : Nat, ((x : Nat) : Int) * 13787848793156543929 = ((x * 13787848793156543929 : Nat) : Int) := fun x => rfl
  have e2 : ∀ x : Nat, ((x : Nat) : Int) * 10723151780598845931 = ((x * 10723151780598845931 : Nat) : Int) := fun x => rfl
  have x1 := xsN 30 1073741824 ((n + 11400714819323198485) % 18446744073709551616) (by decide) (l1 _)
  rw [show ((1073741824 : Nat) : Int) = 1073741824 from rfl] at x1
  rw [x1, e1, wrapN]
  have x2 := xsN 27 134217728 (MixCore.xs 30 ((n + 11400714819323198485) % 18446744073709551616) * 13787848793156543929 % 18446744073709551616) (by decide) (l1 _)
  rw [show ((134217728 : Nat) : Int) = 134217728 from rfl] at x2
  rw [x2, e2, wrapN]
  have x3 := xsN 31 2147483648 (MixCore.xs 27 (MixCore.xs 30 ((n + 11400714819323198485) % 18446744073709551616) * 13787848793156543929 % 18446744073709551616) * 10723151780598845931 % 18446744073709551616) (by decide) (l1 _)
  rw [show ((2147483648 : Nat) : Int) = 2147483648 from rfl] at x3
  rw [x3]
  rfl
theorem mixI_inj {a b : Int} (ha : 0 ≤ a ∧ a < 18446744073709551616) (hb : 0 ≤ b ∧ b < 18446744073709551616) (h : mixI a = mixI b) : a = b := by
  obtain ⟨m, rfl⟩ := Int.eq_ofNat_of_zero_le ha.1
  obtain ⟨k, rfl⟩ := Int.eq_ofNat_of_zero_le hb.1
  rw [mixI_eq, mixI_eq] at h
  have := MixCore.mix_inj (a := m) (b := k) (by omega) (by omega) (by omega)
  rw [this]
theorem mixed_val {a b : Int} (ha : 0 ≤ a ∧ a < 18446744073709551616) (hb : 0 ≤ b ∧ b < 18446744073709551616) : (mixI a == mixI b) = (a == b) := by
  rw [Bool.eq_iff_iff, beq_iff_eq, beq_iff_eq]
  exact ⟨mixI_inj ha hb, fun h => by rw [h]⟩
set_option maxHeartbeats 4000000 in
set_option maxRecDepth 100000 in
theorem mixed_calls (a b : Int) (ha : 0 ≤ a ∧ a < 18446744073709551616) (hb : 0 ≤ b ∧ b < 18446744073709551616) (w : World) (hw : Laid w) : Calls Tryd.prog 7 #[.int .u64 a, .int .u64 b] w fun e w' => e = .returned (.bool true) ∧ Below w.heap.size w w' := by
  have HW := Aside0.mk hw
  have HV := Aside0.mk (mixed_val ha hb)
  have HMA := Aside0.mk (mix_some a)
  have HMB := Aside0.mk (mix_some b)
  generalize mixI a = ma at *
  generalize mixI b = mb at *
  clear hw ha hb
  go_enter Tryd.func7, Tryd.ntmps7
  go_wp2_with fail
  refine (policy_Mix.calls a ma _ HMA.out).mono ?_
  rintro e w1 ⟨rfl, hD⟩
  have HB1 := Aside0.mk (Drawn0.below hD)
  clear hD
  go_wp2_with fail
  refine (policy_Mix.calls b mb _ HMB.out).mono ?_
  rintro e w2 ⟨rfl, hD⟩
  have HB2 := Aside0.mk (below_step HB1.out (Drawn0.below hD))
  clear hD
  by_cases h : a = b
  · have h1 : (a == b) = true := by simpa using h
    have h2 : (ma == mb) = true := HV.out.trans h1
    clear h HV
    go_wp2_with fail
    refine (alive_calls _ (HW.out.below HB2.out)).mono ?_
    rintro e w3 ⟨rfl, hb⟩
    have HB3 := Aside0.mk (below_step HB2.out hb)
    clear hb
    go_wp2
    go_ret
    exact ⟨rfl, HB3.out⟩
  · have h1 : (a == b) = false := by simpa using h
    have h2 : (ma == mb) = false := HV.out.trans h1
    clear h HV
    go_wp2_with fail
    refine (alive_calls _ (HW.out.below HB2.out)).mono ?_
    rintro e w3 ⟨rfl, hb⟩
    have HB3 := Aside0.mk (below_step HB2.out hb)
    clear hb
    go_wp2
    go_ret
    exact ⟨rfl, HB3.out⟩
theorem wf64 {x : Int} (h : (Lit.int .u64 x).wf = true) : 0 ≤ x ∧ x < 18446744073709551616 := by
  have h3 : IntKind.u64.min = 0 := by decide
  have h4 : IntKind.u64.max = 18446744073709551615 := by decide
  simp only [Lit.wf, h3, h4, Bool.and_eq_true, decide_eq_true_eq] at h
  omega
theorem walk_PolicyMixes (W : World) (b0 : Int) (ok_0 : (Lit.int .u64 b0).wf = true) (hL : Laid W) :
    Calls Tryd.prog 3 #[.int .u64 b0] W fun e W' => e = .returned (.bool true) ∧ Below W.heap.size W W' := mixes_calls b0 W hL
end Go.Proofs.YtemepnpfhoidhaaDoor.PAll
