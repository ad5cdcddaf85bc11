-- Laid by the kit's print.py, called for several functions at once (our call).
import Derived.Test.YtemepnpfhoidhaaDoorPAllx0
namespace Go.Proofs.YtemepnpfhoidhaaDoor.PAll
open Go.RowKit Go.Proofs.YtemepnpfhoidhaaDoorW.PrintWords Go.Proofs.YtemepnpfhoidhaaDoorW.PrintLast Go.Proofs.YtemepnpfhoidhaaDoorW.PrintMore
attribute [local go_sem] max2_int min2_int max_two min_two max_three min_three max_four min_four   -- for this text's walks alone
set_option linter.unusedVariables false
set_option linter.unusedSimpArgs false

/-! ### policy_Mix: function 11 -/
def policy_Mix.f (a0 : Int) : Option (Int) := some (Go.bits .xor .u64 (IntKind.u64.wrap ((Go.bits .xor .u64 (IntKind.u64.wrap ((Go.bits .xor .u64 (IntKind.u64.wrap (a0 + 11400714819323198485)) ((IntKind.u64.wrap (a0 + 11400714819323198485)) / 1073741824)) * 13787848793156543929)) ((IntKind.u64.wrap ((Go.bits .xor .u64 (IntKind.u64.wrap (a0 + 11400714819323198485)) ((IntKind.u64.wrap (a0 + 11400714819323198485)) / 1073741824)) * 13787848793156543929)) / 134217728)) * 10723151780598845931)) ((IntKind.u64.wrap ((Go.bits .xor .u64 (IntKind.u64.wrap ((Go.bits .xor .u64 (IntKind.u64.wrap (a0 + 11400714819323198485)) ((IntKind.u64.wrap (a0 + 11400714819323198485)) / 1073741824)) * 13787848793156543929)) ((IntKind.u64.wrap ((Go.bits .xor .u64 (IntKind.u64.wrap (a0 + 11400714819323198485)) ((IntKind.u64.wrap (a0 + 11400714819323198485)) / 1073741824)) * 13787848793156543929)) / 134217728)) * 10723151780598845931)) / 2147483648))
set_option maxHeartbeats 40000000 in
set_option maxRecDepth 100000 in
theorem policy_Mix.calls (a0 : Int) (r : Int) (w : World) (h : policy_Mix.f a0 = some r) :
    Calls Tryd.prog 11 #[.int .u64 a0] w fun e w' => e = .returned (.int .u64 r) ∧ Drawn0 w w' := by
  have H : (some (Go.bits .xor .u64 (IntKind.u64.wrap ((Go.bits .xor .u64 (IntKind.u64.wrap ((Go.bits .xor .u64 (IntKind.u64.wrap (a0 + 11400714819323198485)) ((IntKind.u64.wrap (a0 + 11400714819323198485)) / 1073741824)) * 13787848793156543929)) ((IntKind.u64.wrap ((Go.bits .xor .u64 (IntKind.u64.wrap (a0 + 11400714819323198485)) ((IntKind.u64.wrap (a0 + 11400714819323198485)) / 1073741824)) * 13787848793156543929)) / 134217728)) * 10723151780598845931)) ((IntKind.u64.wrap ((Go.bits .xor .u64 (IntKind.u64.wrap ((Go.bits .xor .u64 (IntKind.u64.wrap (a0 + 11400714819323198485)) ((IntKind.u64.wrap (a0 + 11400714819323198485)) / 1073741824)) * 13787848793156543929)) ((IntKind.u64.wrap ((Go.bits .xor .u64 (IntKind.u64.wrap (a0 + 11400714819323198485)) ((IntKind.u64.wrap (a0 + 11400714819323198485)) / 1073741824)) * 13787848793156543929)) / 134217728)) * 10723151780598845931)) / 2147483648))) = some r := h; clear h
  obtain rfl := Option.some.inj H
  go_enter Tryd.func11, Tryd.ntmps11
  go_wp2
  go_ret
  exact ⟨by first | rfl | (simp; done) | (simp [*]; done), by repeat (first | exact Drawn0.refl _ | apply Drawn0.step)⟩

/-! ### winnowref04_Mix: function 12 -/
def winnowref04_Mix.f (a0 : Int) : Option (Int) := some (Go.bits .xor .u64 (IntKind.u64.wrap ((Go.bits .xor .u64 (IntKind.u64.wrap ((Go.bits .xor .u64 (IntKind.u64.wrap (a0 + 11400714819323198485)) ((IntKind.u64.wrap (a0 + 11400714819323198485)) / 1073741824)) * 13787848793156543929)) ((IntKind.u64.wrap ((Go.bits .xor .u64 (IntKind.u64.wrap (a0 + 11400714819323198485)) ((IntKind.u64.wrap (a0 + 11400714819323198485)) / 1073741824)) * 13787848793156543929)) / 134217728)) * 10723151780598845931)) ((IntKind.u64.wrap ((Go.bits .xor .u64 (IntKind.u64.wrap ((Go.bits .xor .u64 (IntKind.u64.wrap (a0 + 11400714819323198485)) ((IntKind.u64.wrap (a0 + 11400714819323198485)) / 1073741824)) * 13787848793156543929)) ((IntKind.u64.wrap ((Go.bits .xor .u64 (IntKind.u64.wrap (a0 + 11400714819323198485)) ((IntKind.u64.wrap (a0 + 11400714819323198485)) / 1073741824)) * 13787848793156543929)) / 134217728)) * 10723151780598845931)) / 2147483648))
set_option maxHeartbeats 40000000 in
set_option maxRecDepth 100000 in
theorem winnowref04_Mix.calls (a0 : Int) (r : Int) (w : World) (h : winnowref04_Mix.f a0 = some r) :
    Calls Tryd.prog 12 #[.int .u64 a0] w fun e w' => e = .returned (.int .u64 r) ∧ Drawn0 w w' := by
  have H : (some (Go.bits .xor .u64 (IntKind.u64.wrap ((Go.bits .xor .u64 (IntKind.u64.wrap ((Go.bits .xor .u64 (IntKind.u64.wrap (a0 + 11400714819323198485)) ((IntKind.u64.wrap (a0 + 11400714819323198485)) / 1073741824)) * 13787848793156543929)) ((IntKind.u64.wrap ((Go.bits .xor .u64 (IntKind.u64.wrap (a0 + 11400714819323198485)) ((IntKind.u64.wrap (a0 + 11400714819323198485)) / 1073741824)) * 13787848793156543929)) / 134217728)) * 10723151780598845931)) ((IntKind.u64.wrap ((Go.bits .xor .u64 (IntKind.u64.wrap ((Go.bits .xor .u64 (IntKind.u64.wrap (a0 + 11400714819323198485)) ((IntKind.u64.wrap (a0 + 11400714819323198485)) / 1073741824)) * 13787848793156543929)) ((IntKind.u64.wrap ((Go.bits .xor .u64 (IntKind.u64.wrap (a0 + 11400714819323198485)) ((IntKind.u64.wrap (a0 + 11400714819323198485)) / 1073741824)) * 13787848793156543929)) / 134217728)) * 10723151780598845931)) / 2147483648))) = some r := h; clear h
  obtain rfl := Option.some.inj H
  go_enter Tryd.func12, Tryd.ntmps12
  go_wp2
  go_ret
  exact ⟨by first | rfl | (simp; done) | (simp [*]; done), by repeat (first | exact Drawn0.refl _ | apply Drawn0.step)⟩

-- NOT PRINTED: function 42 (policy_Rule_42)

-- NOT PRINTED: function 22 (policy_Eval)

-- NOT PRINTED: function 63 (utf8_RuneCountInString)

-- NOT PRINTED: function 64 (bytealg_CountString)

-- NOT PRINTED: function 104 (bytealg_IndexByteString)

-- NOT PRINTED: function 90 (stringslite_IndexByte)

-- NOT PRINTED: function 91 (bytealg_IndexString)

-- NOT PRINTED: function 92 (bytealg_Cutover)

-- NOT PRINTED: function 105 (bytealg_hashStr_string)

-- NOT PRINTED: function 93 (bytealg_IndexRabinKarp_string)

-- NOT PRINTED: function 76 (stringslite_Index)

-- NOT PRINTED: function 65 (strings_Index)

-- NOT PRINTED: function 48 (strings_Count)

-- NOT PRINTED: function 66 (strings_splitSeq)

-- NOT PRINTED: function 49 (strings_SplitSeq)

/-! ### policy_form: function 45 -/
def policy_form.j0 : Nat → ByteArray → Bool → Option (Int × Int × Int)
  | 0, _, _ => none
  | k + 1, x5, x6 => if x6 = true then (some (1, 0, 0)) else (if x5.toList = ([115, 108, 111, 119] : List UInt8) then (some (2, 0, 1099511627776)) else (if x5.toList = ([109, 97, 110, 121] : List UInt8) then (some (2, 1, 16)) else (if x5.toList = ([104, 97, 115, 104] : List UInt8) then (some (2, 0, 1000)) else (if x5.toList = ([115, 101, 114, 118, 105, 99, 101] : List UInt8) then (some (3, 0, 0)) else (if x5.toList = ([110, 97, 109, 101] : List UInt8) then (some (3, 0, 0)) else (some (0, 0, 0)))))))
def policy_form.f (k : Nat) (a0 : ByteArray) : Option (Int × Int × Int) := if a0.toList = ([97, 108, 119, 97, 121, 115] : List UInt8) then (policy_form.j0 k a0 (a0.toList == ([97, 108, 119, 97, 121, 115] : List UInt8))) else (if a0.toList = ([102, 97, 105, 108] : List UInt8) then (policy_form.j0 k a0 (a0.toList == ([102, 97, 105, 108] : List UInt8))) else (policy_form.j0 k a0 (a0.toList == ([114, 111, 111, 116] : List UInt8))))
theorem policy_form.mono_l : ∀ k, (∀ y0 y1, LeO (policy_form.j0 k y0 y1) (policy_form.j0 (k + 1) y0 y1))
  | 0 => fun _ _ r h => by simp [policy_form.j0] at h
  | k + 1 => by
    have ih0 := policy_form.mono_l k
    · intro y0 y1
      unfold policy_form.j0
      repeat' first
      | (with_reducible exact ih0 _ _)
      | (with_reducible exact LeO.refl _)
      | (with_reducible exact LeO.none _)
      | (with_reducible refine LeO.ite ?_ ?_)
      | (with_reducible refine LeO.bind ?_ (fun _ => ?_))
      | exact ih0 _ _
      | exact LeO.none _
      | refine LeO.ite ?_ ?_
      | refine LeO.bind ?_ (fun _ => ?_)
theorem policy_form.mono : ∀ a0 k, LeO (policy_form.f k a0) (policy_form.f (k + 1) a0) := by
  intro a0 k
  have ih0 := policy_form.mono_l k
  unfold policy_form.f
  repeat' first
      | (with_reducible exact ih0 _ _)
      | (with_reducible exact LeO.refl _)
      | (with_reducible exact LeO.none _)
      | (with_reducible refine LeO.ite ?_ ?_)
      | (with_reducible refine LeO.bind ?_ (fun _ => ?_))
      | exact ih0 _ _
      | exact LeO.none _
      | refine LeO.ite ?_ ?_
      | refine LeO.bind ?_ (fun _ => ?_)
set_option maxHeartbeats 40000000 in
set_option maxRecDepth 100000 in
theorem policy_form.calls (k : Nat) (a0 : ByteArray) (r1 : Int) (r2 : Int) (r3 : Int) (w : World) (h : policy_form.f k a0 = some (r1, r2, r3)) :
    Calls Tryd.prog 45 #[.string a0] w fun e w' => e = .returned (.tuple #[.int .i64 r1, .int .u64 r2, .int .u64 r3]) ∧ Drawn0 w w' := by
  have H : (if a0.toList = ([97, 108, 119, 97, 121, 115] : List UInt8) then (policy_form.j0 k a0 (a0.toList == ([97, 108, 119, 97, 121, 115] : List UInt8))) else (if a0.toList = ([102, 97, 105, 108] : List UInt8) then (policy_form.j0 k a0 (a0.toList == ([102, 97, 105, 108] : List UInt8))) else (policy_form.j0 k a0 (a0.toList == ([114, 111, 111, 116] : List UInt8))))) = some (r1, r2, r3) := h; clear h; have HC2 := Aside0.mk H; clear H
  go_enter Tryd.func45, Tryd.ntmps45
  go_upto_if 6 with (fail)
  go_cut [6] (fun v6 wc => ∃ (kq : Nat) (x6_1 : Bool), v6 = .bool x6_1 ∧ Aside0 (policy_form.j0 kq a0 x6_1 = some (r1, r2, r3)) ∧ Aside0 (kq ≤ k) ∧ Drawn0 w wc)
  case first =>
    have H := HC2.out; clear HC2
    by_cases c3 : a0.toList = ([97, 108, 119, 97, 121, 115] : List UInt8)
    · rw [if_pos c3] at H
      have c3b0 : (a0.toList == ([97, 108, 119, 97, 121, 115] : List UInt8)) = true := beq_iff_eq.mpr c3; have c3b1 : (a0.toList != ([97, 108, 119, 97, 121, 115] : List UInt8)) = false := bne_eq_false_iff_eq.mpr c3; clear c3
      (first | rw [c3b0] | (simp only [i64_w, i32_w]; rw [c3b0]) | skip)
      have H' := Aside0.mk H
      clear H
      go_wp2
      go_meet
      case rel => exact ⟨_, ((a0.toList == ([97, 108, 119, 97, 121, 115] : List UInt8))), (by first | rfl | (simp; done) | (simp [*]; done)), H', ⟨by first | omega | exact Nat.le_refl _⟩, by repeat (first | exact Drawn0.refl _ | apply Drawn0.step)⟩
    · rw [if_neg c3] at H
      have c3b0 : (a0.toList == ([97, 108, 119, 97, 121, 115] : List UInt8)) = false := beq_eq_false_iff_ne.mpr c3; have c3b1 : (a0.toList != ([97, 108, 119, 97, 121, 115] : List UInt8)) = true := bne_iff_ne.mpr c3
      (first | rw [c3b0] | (simp only [i64_w, i32_w]; rw [c3b0]) | skip)
      by_cases c4 : a0.toList = ([102, 97, 105, 108] : List UInt8)
      · rw [if_pos c4] at H
        have c4b0 : (a0.toList == ([102, 97, 105, 108] : List UInt8)) = true := beq_iff_eq.mpr c4; have c4b1 : (a0.toList != ([102, 97, 105, 108] : List UInt8)) = false := bne_eq_false_iff_eq.mpr c4; clear c4
        have H' := Aside0.mk H
        clear H
        go_wp2
        go_meet
        case rel => exact ⟨_, ((a0.toList == ([102, 97, 105, 108] : List UInt8))), (by first | rfl | (simp; done) | (simp [*]; done)), H', ⟨by first | omega | exact Nat.le_refl _⟩, by repeat (first | exact Drawn0.refl _ | apply Drawn0.step)⟩
      · rw [if_neg c4] at H
        have c4b0 : (a0.toList == ([102, 97, 105, 108] : List UInt8)) = false := beq_eq_false_iff_ne.mpr c4; have c4b1 : (a0.toList != ([102, 97, 105, 108] : List UInt8)) = true := bne_iff_ne.mpr c4
        have H' := Aside0.mk H
        clear H
        go_wp2
        go_meet
        case rel => exact ⟨_, ((a0.toList == ([114, 111, 111, 116] : List UInt8))), (by first | rfl | (simp; done) | (simp [*]; done)), H', ⟨by first | omega | exact Nat.le_refl _⟩, by repeat (first | exact Drawn0.refl _ | apply Drawn0.step)⟩
  case rest =>
    clear HC2; (try clear p2); (try clear c3); (try clear c3b0); (try clear c3b1); (try clear c4); (try clear c4b0); (try clear c4b1)
    obtain ⟨kq, x6_1, rfl, HA, HJ1, ⟨mc1, rfl⟩⟩ := hcut
    cases kq with
    | zero => exact absurd HA.out (by simp [policy_form.j0])
    | succ kj1 =>
      have H := HA.out; clear HA
      simp only [policy_form.j0] at H
      by_cases c5 : x6_1 = true
      · subst c5
        rw [if_pos rfl] at H
        simp only [Option.some.injEq, Prod.mk.injEq] at H
        obtain ⟨rfl, rfl, rfl⟩ := H
        go_wp2
        go_ret3
        exact ⟨by first | rfl | (simp; done) | (simp [*]; done), by repeat (first | exact Drawn0.refl _ | apply Drawn0.step)⟩
      · replace c5 := Bool.eq_false_iff.mpr c5
        subst c5
        rw [if_neg (show ¬ (false = true) by decide)] at H
        by_cases c6 : a0.toList = ([115, 108, 111, 119] : List UInt8)
        · rw [if_pos c6] at H
          have c6b0 : (a0.toList == ([115, 108, 111, 119] : List UInt8)) = true := beq_iff_eq.mpr c6; have c6b1 : (a0.toList != ([115, 108, 111, 119] : List UInt8)) = false := bne_eq_false_iff_eq.mpr c6; clear c6
          simp only [Option.some.injEq, Prod.mk.injEq] at H
          obtain ⟨rfl, rfl, rfl⟩ := H
          go_wp2
          go_ret3
          exact ⟨by first | rfl | (simp; done) | (simp [*]; done), by repeat (first | exact Drawn0.refl _ | apply Drawn0.step)⟩
        · rw [if_neg c6] at H
          have c6b0 : (a0.toList == ([115, 108, 111, 119] : List UInt8)) = false := beq_eq_false_iff_ne.mpr c6; have c6b1 : (a0.toList != ([115, 108, 111, 119] : List UInt8)) = true := bne_iff_ne.mpr c6
          by_cases c7 : a0.toList = ([109, 97, 110, 121] : List UInt8)
          · rw [if_pos c7] at H
            have c7b0 : (a0.toList == ([109, 97, 110, 121] : List UInt8)) = true := beq_iff_eq.mpr c7; have c7b1 : (a0.toList != ([109, 97, 110, 121] : List UInt8)) = false := bne_eq_false_iff_eq.mpr c7; clear c7
            simp only [Option.some.injEq, Prod.mk.injEq] at H
            obtain ⟨rfl, rfl, rfl⟩ := H
            go_wp2
            go_ret3
            exact ⟨by first | rfl | (simp; done) | (simp [*]; done), by repeat (first | exact Drawn0.refl _ | apply Drawn0.step)⟩
          · rw [if_neg c7] at H
            have c7b0 : (a0.toList == ([109, 97, 110, 121] : List UInt8)) = false := beq_eq_false_iff_ne.mpr c7; have c7b1 : (a0.toList != ([109, 97, 110, 121] : List UInt8)) = true := bne_iff_ne.mpr c7
            by_cases c8 : a0.toList = ([104, 97, 115, 104] : List UInt8)
            · rw [if_pos c8] at H
              have c8b0 : (a0.toList == ([104, 97, 115, 104] : List UInt8)) = true := beq_iff_eq.mpr c8; have c8b1 : (a0.toList != ([104, 97, 115, 104] : List UInt8)) = false := bne_eq_false_iff_eq.mpr c8; clear c8
              simp only [Option.some.injEq, Prod.mk.injEq] at H
              obtain ⟨rfl, rfl, rfl⟩ := H
              go_wp2
              go_ret3
              exact ⟨by first | rfl | (simp; done) | (simp [*]; done), by repeat (first | exact Drawn0.refl _ | apply Drawn0.step)⟩
            · rw [if_neg c8] at H
              have c8b0 : (a0.toList == ([104, 97, 115, 104] : List UInt8)) = false := beq_eq_false_iff_ne.mpr c8; have c8b1 : (a0.toList != ([104, 97, 115, 104] : List UInt8)) = true := bne_iff_ne.mpr c8
              by_cases c9 : a0.toList = ([115, 101, 114, 118, 105, 99, 101] : List UInt8)
              · rw [if_pos c9] at H
                have c9b0 : (a0.toList == ([115, 101, 114, 118, 105, 99, 101] : List UInt8)) = true := beq_iff_eq.mpr c9; have c9b1 : (a0.toList != ([115, 101, 114, 118, 105, 99, 101] : List UInt8)) = false := bne_eq_false_iff_eq.mpr c9; clear c9
                simp only [Option.some.injEq, Prod.mk.injEq] at H
                obtain ⟨rfl, rfl, rfl⟩ := H
                go_wp2
                go_ret3
                exact ⟨by first | rfl | (simp; done) | (simp [*]; done), by repeat (first | exact Drawn0.refl _ | apply Drawn0.step)⟩
              · rw [if_neg c9] at H
                have c9b0 : (a0.toList == ([115, 101, 114, 118, 105, 99, 101] : List UInt8)) = false := beq_eq_false_iff_ne.mpr c9; have c9b1 : (a0.toList != ([115, 101, 114, 118, 105, 99, 101] : List UInt8)) = true := bne_iff_ne.mpr c9
                by_cases c10 : a0.toList = ([110, 97, 109, 101] : List UInt8)
                · rw [if_pos c10] at H
                  have c10b0 : (a0.toList == ([110, 97, 109, 101] : List UInt8)) = true := beq_iff_eq.mpr c10; have c10b1 : (a0.toList != ([110, 97, 109, 101] : List UInt8)) = false := bne_eq_false_iff_eq.mpr c10; clear c10
                  simp only [Option.some.injEq, Prod.mk.injEq] at H
                  obtain ⟨rfl, rfl, rfl⟩ := H
                  go_wp2
                  go_ret3
                  exact ⟨by first | rfl | (simp; done) | (simp [*]; done), by repeat (first | exact Drawn0.refl _ | apply Drawn0.step)⟩
                · rw [if_neg c10] at H
                  have c10b0 : (a0.toList == ([110, 97, 109, 101] : List UInt8)) = false := beq_eq_false_iff_ne.mpr c10; have c10b1 : (a0.toList != ([110, 97, 109, 101] : List UInt8)) = true := bne_iff_ne.mpr c10
                  simp only [Option.some.injEq, Prod.mk.injEq] at H
                  obtain ⟨rfl, rfl, rfl⟩ := H
                  go_wp2
                  go_ret3
                  exact ⟨by first | rfl | (simp; done) | (simp [*]; done), by repeat (first | exact Drawn0.refl _ | apply Drawn0.step)⟩

/-! ### stringslite_HasPrefix: function 82 -/
def stringslite_HasPrefix.f (a0 : ByteArray) (a1 : ByteArray) : Option (Bool) := if (a0.size : Int) ≥ (a1.size : Int) then (if 0 ≤ (a1.size : Int) then (if (a1.size : Int) ≤ (a0.size : Int) then (some ((a0.extract 0 ((a1.size : Int) : Int).toNat).toList == a1.toList)) else (none)) else (none)) else (some false)
set_option maxHeartbeats 40000000 in
set_option maxRecDepth 100000 in
theorem stringslite_HasPrefix.calls (a0 : ByteArray) (a1 : ByteArray) (r : Bool) (w : World) (h : stringslite_HasPrefix.f a0 a1 = some r) :
    Calls Tryd.prog 82 #[.string a0, .string a1] w fun e w' => e = .returned (.bool r) ∧ Drawn0 w w' := by
  have H : (if (a0.size : Int) ≥ (a1.size : Int) then (if 0 ≤ (a1.size : Int) then (if (a1.size : Int) ≤ (a0.size : Int) then (some ((a0.extract 0 ((a1.size : Int) : Int).toNat).toList == a1.toList)) else (none)) else (none)) else (some false)) = some r := h; clear h
  by_cases c3 : (a0.size : Int) ≥ (a1.size : Int)
  · rw [if_pos c3] at H
    have c3b0 : decide ((a1.size : Int) ≤ (a0.size : Int)) = true := decide_eq_true c3; have c3b1 : decide (a1.size ≤ a0.size) = true := decide_eq_true (Int.ofNat_le.mp c3); clear c3
    by_cases c4 : 0 ≤ (a1.size : Int)
    · rw [if_pos c4] at H
      have c4b0 := eq_true c4; have c4b1 : decide (0 ≤ (a1.size : Int)) = true := decide_eq_true c4; clear c4
      by_cases c5 : (a1.size : Int) ≤ (a0.size : Int)
      · rw [if_pos c5] at H
        have c5b0 := eq_true c5; have c5b1 : decide ((a1.size : Int) ≤ (a0.size : Int)) = true := decide_eq_true c5; clear c5
        obtain rfl := Option.some.inj H
        go_enter Tryd.func82, Tryd.ntmps82
        go_wp2
        go_ret
        exact ⟨by first | rfl | (simp; done) | (simp [*]; done), by repeat (first | exact Drawn0.refl _ | apply Drawn0.step)⟩
      rw [if_neg c5] at H
      exact absurd H (by simp)
    rw [if_neg c4] at H
    exact absurd H (by simp)
  rw [if_neg c3] at H
  have c3b0 : decide ((a1.size : Int) ≤ (a0.size : Int)) = false := decide_eq_false c3
  have c3b1 : decide (a1.size ≤ a0.size) = false := decide_eq_false (fun h => c3 (Int.ofNat_le.mpr h))
  clear c3
  obtain rfl := Option.some.inj H
  go_enter Tryd.func82, Tryd.ntmps82
  go_wp2
  go_ret
  exact ⟨by first | rfl | (simp; done) | (simp [*]; done), by repeat (first | exact Drawn0.refl _ | apply Drawn0.step)⟩

/-! ### strings_HasPrefix: function 69 -/
def strings_HasPrefix.f (a0 : ByteArray) (a1 : ByteArray) : Option (Bool) := (stringslite_HasPrefix.f a0 a1).bind fun t101 => (some t101)
set_option maxHeartbeats 40000000 in
set_option maxRecDepth 100000 in
theorem strings_HasPrefix.calls (a0 : ByteArray) (a1 : ByteArray) (r : Bool) (w : World) (h : strings_HasPrefix.f a0 a1 = some r) :
    Calls Tryd.prog 69 #[.string a0, .string a1] w fun e w' => e = .returned (.bool r) ∧ Drawn0 w w' := by
  have H : ((stringslite_HasPrefix.f a0 a1).bind fun t101 => (some t101)) = some r := h
  clear h
  replace H := Option.bind_eq_some_iff.mp H
  obtain ⟨t101, A30, H⟩ := H
  replace H : (some t101) = some r := H
  have A3 := Aside0.mk A30; clear A30
  obtain rfl := Option.some.inj H
  go_enter Tryd.func69, Tryd.ntmps69
  go_wp2_with (first | ((with_reducible refine gate_callee (f := 82) rfl ?_); refine goesL_ (some 7) rfl rfl Tryd.func82 (by kernel_rfl) rfl #[.string a0, .string a1] rfl (by (try simp only [List.map_toArray, List.map_cons, List.map_nil]); first | done | rfl | (simp only [List.length_drop, List.length_take]; rfl)) ?_; (with_reducible refine (stringslite_HasPrefix.calls a0 a1 t101 _ A3.out).mono ?_); rintro e w' ⟨rfl, ⟨nd, rfl⟩⟩; refine ⟨_, rfl, ?_⟩))
  go_ret
  exact ⟨by first | rfl | (simp; done) | (simp [*]; done), by repeat (first | exact Drawn0.refl _ | apply Drawn0.step)⟩

/-! ### span_Name: function 53 -/
/-- span.Name: is the rune at a place one that no name has? -/
def span_Name.bad (s : ByteArray) (pos : Nat) : Bool :=
  decide ((Utf8.decode s pos).1 < 32) || (decide (127 ≤ (Utf8.decode s pos).1) && decide ((Utf8.decode s pos).1 ≤ 159)) || (decide ((Utf8.decode s pos).1 = 65533) && !(decide (strings_HasPrefix.f (s.extract pos s.size) ⟨#[239, 191, 189]⟩ = some true)))
def span_Name.l (s : ByteArray) : Nat → Nat → Int
  | 0, _ => 0
  | b + 1, pos => if pos < s.size then (if span_Name.bad s pos = true then 5 else span_Name.l s b (pos + (Utf8.decode s pos).2)) else 0
def span_Name.f (a0 : ByteArray) : Option Int := some (if a0.toList = [] ∨ 32 < a0.size then 5 else span_Name.l a0 a0.size 0)
theorem span_Name.width (s : ByteArray) (pos : Nat) (h : pos < s.size) : 1 ≤ (Utf8.decode s pos).2 := by
  by_cases ha : (s[pos]'h).toNat < 128
  · rw [decode_ascii s pos h ha]
    exact Nat.le_refl _
  exact (decode_high s pos h (by omega)).2
theorem span_Name.pre (a b : ByteArray) : ∃ r, strings_HasPrefix.f a b = some r := by
  unfold strings_HasPrefix.f stringslite_HasPrefix.f
  by_cases h : (a.size : Int) ≥ (b.size : Int)
  · rw [if_pos h, if_pos (by omega), if_pos (by omega)]; exact ⟨_, rfl⟩
  rw [if_neg h]; exact ⟨_, rfl⟩
set_option maxHeartbeats 4000000 in
set_option maxRecDepth 100000 in
theorem span_Name.calls (a0 : ByteArray) (r : Int) (w : World) (h : span_Name.f a0 = some r) :
    Calls Tryd.prog 53 #[.string a0] w fun e w' => e = .returned (.int .i64 r) ∧ Below w.heap.size w w' := by
  obtain rfl := Option.some.inj h
  clear h
  by_cases c0 : a0.toList = []
  · rw [if_pos (.inl c0)]
    have hem : a0.toList.isEmpty = true := by simpa using c0
    go_enter Tryd.func53, Tryd.ntmps53
    go_wp2
    go_ret
    exact ⟨rfl, Below.refl _ _⟩
  have hem : a0.toList.isEmpty = false := by simpa using c0
  by_cases c1 : 32 < a0.size
  · rw [if_pos (.inr c1)]
    have c1b : decide (32 < (a0.size : Int)) = true := decide_eq_true (by omega)
    go_enter Tryd.func53, Tryd.ntmps53
    go_wp2
    go_ret
    exact ⟨rfl, Below.refl _ _⟩
  rw [if_neg (fun hh => hh.elim c0 c1)]
  have c1b : decide (32 < (a0.size : Int)) = false := decide_eq_false (by omega)
  have c1c : ¬ (32 < (a0.size : Int)) := by omega
  go_enter Tryd.func53, Tryd.ntmps53
  go_wp2
  go_loopw [] (fun w' => ∃ (pos b : Nat), w'.heap[w.heap.size]? = some (.stringIter a0 pos) ∧ Below w.heap.size w w' ∧ span_Name.l a0 b pos = span_Name.l a0 a0.size 0 ∧ a0.size ≤ pos + b) (fun w' => a0.size - w'.iterPos w.heap.size)
  case atStart => exact ⟨0, a0.size, World.iter_heap _ _ _, below_alloc (Below.refl _ _) _, rfl, by omega⟩
  case round =>
    obtain ⟨pos, b, hk, hB, hl, hb⟩ := hrel
    by_cases hp : pos < a0.size
    · have hnx := fun ty => Go.Lib.run_next_any_at (P := Tryd.prog) wr w.heap.size a0 pos ty hk hp
      have hwd := span_Name.width a0 pos hp
      obtain ⟨b, rfl⟩ : ∃ j, b = j + 1 := ⟨b - 1, by omega⟩
      have h5 : span_Name.bad a0 pos = true → span_Name.l a0 a0.size 0 = 5 := fun g => by rw [← hl]; simp [span_Name.l, hp, g]
      have h0 : span_Name.bad a0 pos = false → span_Name.l a0 b (pos + (Utf8.decode a0 pos).2) = span_Name.l a0 a0.size 0 := fun g => by rw [← hl]; simp [span_Name.l, hp, g]
      have hB2 := Go.Lib.below_iterAt hB (Nat.le_refl _) a0 (pos + (Utf8.decode a0 pos).2); have hk2 := Go.Lib.iterAt_heap wr w.heap.size a0 pos (pos + (Utf8.decode a0 pos).2) hk; have H5 := Aside0.mk h5; have H0 := Aside0.mk h0; have HB2 := Aside0.mk hB2; have HK2 := Aside0.mk hk2; have HWD := Aside0.mk hwd; have HL := Aside0.mk hl; have HB := Aside0.mk hB; have HK := Aside0.mk hk; clear h5 h0 hB2 hk2 hwd hl hB hk
      by_cases d0 : ((Utf8.decode a0 pos).1 : Int) < 32
      · go_wp2
        go_ret
        have g : (Utf8.decode a0 pos).1 < 32 := by omega
        exact ⟨by rw [H5.out (by simp [span_Name.bad, g])]; rfl, HB2.out⟩
      · have d0b : decide (((Utf8.decode a0 pos).1 : Int) < 32) = false := decide_eq_false d0
        have g0 : ¬ (Utf8.decode a0 pos).1 < 32 := by omega
        by_cases d1 : (127 : Int) ≤ ((Utf8.decode a0 pos).1 : Int)
        · have d1b : decide ((127 : Int) ≤ ((Utf8.decode a0 pos).1 : Int)) = true := decide_eq_true d1
          have g1 : 127 ≤ (Utf8.decode a0 pos).1 := by omega
          by_cases d2 : ((Utf8.decode a0 pos).1 : Int) ≤ 159
          · have d2b : decide (((Utf8.decode a0 pos).1 : Int) ≤ 159) = true := decide_eq_true d2
            have g2 : (Utf8.decode a0 pos).1 ≤ 159 := by omega
            go_wp2
            go_ret
            exact ⟨by rw [H5.out (by simp [span_Name.bad, g1, g2])]; rfl, HB2.out⟩
          · have d2b : decide (((Utf8.decode a0 pos).1 : Int) ≤ 159) = false := decide_eq_false d2
            have g2 : ¬ (Utf8.decode a0 pos).1 ≤ 159 := by omega
            by_cases d3 : ((Utf8.decode a0 pos).1 : Int) = 65533
            · have d3b : decide (((Utf8.decode a0 pos).1 : Int) = 65533) = true := decide_eq_true d3
              obtain ⟨t, ht⟩ := span_Name.pre (a0.extract pos a0.size) ⟨#[239, 191, 189]⟩
              have HT := Aside0.mk ht; clear ht
              cases t with
              | false =>
                go_wp2_with (go_at_call 69; refine (strings_HasPrefix.calls _ _ false _ HT.out).mono ?_; rintro e w1 ⟨rfl, hD⟩; have HD := Aside0.mk hD; clear hD)
                go_ret
                have g3 : (Utf8.decode a0 pos).1 = 65533 := by omega
                exact ⟨by rw [H5.out (by simp [span_Name.bad, g3, HT.out])]; rfl, below_step HB2.out (Drawn0.below HD.out)⟩
              | true =>
                go_wp2_with (go_at_call 69; refine (strings_HasPrefix.calls _ _ true _ HT.out).mono ?_; rintro e w1 ⟨rfl, hD⟩; have HD := Aside0.mk hD; clear hD)
                go_roundw
                case rel => exact ⟨_, b, blk_below HK2.out (Drawn0.below HD.out), below_step HB2.out (Drawn0.below HD.out), H0.out (by simp [span_Name.bad, g0, g2, HT.out]), by have := HWD.out; omega⟩
                case measure =>
                  have := HWD.out
                  have e2 : w1.heap[w.heap.size]? = some (.stringIter a0 (pos + (Utf8.decode a0 pos).2)) := blk_below HK2.out (Drawn0.below HD.out)
                  simp only [World.iterPos, e2, HK.out]
                  omega
            · have d3b : decide (((Utf8.decode a0 pos).1 : Int) = 65533) = false := decide_eq_false d3
              have g3 : ¬ (Utf8.decode a0 pos).1 = 65533 := by omega
              go_wp2
              go_roundw
              case rel => exact ⟨_, b, HK2.out, HB2.out, H0.out (by simp [span_Name.bad, g0, g2, g3]), by have := HWD.out; omega⟩
              case measure =>
                have := HWD.out
                simp only [World.iterPos, HK2.out, HK.out]
                omega
        · have d1b : decide ((127 : Int) ≤ ((Utf8.decode a0 pos).1 : Int)) = false := decide_eq_false d1
          have g1 : ¬ 127 ≤ (Utf8.decode a0 pos).1 := by omega
          have d3b : decide (((Utf8.decode a0 pos).1 : Int) = 65533) = false := decide_eq_false (by omega)
          have d3 : ¬ ((Utf8.decode a0 pos).1 : Int) = 65533 := by omega
          have g3 : ¬ (Utf8.decode a0 pos).1 = 65533 := by omega
          go_wp2
          go_roundw
          case rel => exact ⟨_, b, HK2.out, HB2.out, H0.out (by simp [span_Name.bad, g0, g1, g3]), by have := HWD.out; omega⟩
          case measure =>
            have := HWD.out
            simp only [World.iterPos, HK2.out, HK.out]
            omega
    · have hnx := fun ty => Go.Lib.run_next_end_at (P := Tryd.prog) wr w.heap.size a0 pos ty hk hp
      have he : span_Name.l a0 a0.size 0 = 0 := by
        rw [← hl]
        cases b with
        | zero => rfl
        | succ b => simp [span_Name.l, hp]
      go_wp2
      go_ret
      exact ⟨by rw [he]; rfl, hB⟩


-- NOT PRINTED: function 54 (strings_Contains)

-- NOT PRINTED: function 31 (policy_Rule_right)

-- NOT PRINTED: function 70 (strconv_small)

-- NOT PRINTED: function 83 (strconv_log10Pow2)

-- NOT PRINTED: function 84 (bits_Len64)

-- NOT PRINTED: function 85 (strconv_bool2_int)

-- NOT PRINTED: function 71 (strconv_numDigits)

-- NOT PRINTED: function 72 (strconv_formatBase10)

-- NOT PRINTED: function 86 (strconv_isPowerOfTwo)

-- NOT PRINTED: function 102 (bits_TrailingZeros32)

-- NOT PRINTED: function 103 (bits_TrailingZeros64)

-- NOT PRINTED: function 87 (bits_TrailingZeros)

-- NOT PRINTED: function 73 (strconv_formatBits)

-- NOT PRINTED: function 59 (strconv_FormatUint_59)

-- NOT PRINTED: function 46 (strconv_FormatUint_46)

-- NOT PRINTED: function 94 (utf8_decodeRuneInStringSlow)

-- NOT PRINTED: function 78 (utf8_DecodeRuneInString)

-- NOT PRINTED: function 95 (strings_explode)

-- NOT PRINTED: function 79 (strings_genSplit)

-- NOT PRINTED: function 67 (strings_Split)

-- NOT PRINTED: function 96 (strconv_lower)

-- NOT PRINTED: function 97 (strconv_underscoreOK)

-- NOT PRINTED: function 80 (strconv_ParseUint_80)

-- NOT PRINTED: function 106 (stringslite_Clone)

-- NOT PRINTED: function 98 (strconv_syntaxError)

-- NOT PRINTED: function 99 (strconv_rangeError)

-- NOT PRINTED: function 107 (errors_New)

-- NOT PRINTED: function 110 (strconv_FormatInt)

-- NOT PRINTED: function 109 (strconv_Itoa_109)

-- NOT PRINTED: function 108 (strconv_Itoa_108)

-- NOT PRINTED: function 100 (strconv_baseError)

-- NOT PRINTED: function 101 (strconv_bitSizeError)

-- NOT PRINTED: function 81 (strconv_toError)

-- NOT PRINTED: function 68 (strconv_ParseUint_68)

-- NOT PRINTED: function 50 (policy_rule)

-- NOT PRINTED: function 25 (policy_Parse)

-- NOT PRINTED: function 13 (winnowlaw04_alive)

-- NOT PRINTED: function 3 (winnowlaw04_PolicyMixes)

end Go.Proofs.YtemepnpfhoidhaaDoor.PAll
