-- Laid by the kit's print.py, called for several functions at once (our call).
import Derived.Test.YtjnhmdmcmmffeaaPAllx0
import Derived.Test.YtjnhmdmcmmffeaaPAllx2
import Derived.Test.YtjnhmdmcmmffeaaPAllx15
import Derived.Test.YtjnhmdmcmmffeaaPAllx16
import Derived.Test.YtjnhmdmcmmffeaaPAllx18
import Derived.Test.YtjnhmdmcmmffeaaPAllx20
import Derived.Test.YtjnhmdmcmmffeaaPAllx21
import Derived.Test.YtjnhmdmcmmffeaaPAllx22
namespace Go.Proofs.Ytjnhmdmcmmffeaa.PAll
open Go.RowKit Go.Proofs.YtjnhmdmcmmffeaaW.PrintWords Go.Proofs.YtjnhmdmcmmffeaaW.PrintLast Go.Proofs.YtjnhmdmcmmffeaaW.PrintMore
attribute [local go_sem] max2_int min2_int max_two min_two max_three min_three max_four min_four   -- for this text's walks alone
set_option linter.unusedVariables false
set_option linter.unusedSimpArgs false

attribute [local go_sem high] eqA40
/-! ### winnowlaw12_RegisterSteps: function 10 -/
def winnowlaw12_RegisterSteps.f (k : Nat) (a0_0 : Int) (a0_1 : Int) (a0_2 : Int) (a0_3 : Int) (a0_4 : Int) (a1_0 : Int) (a1_1 : Int) (a2 : Int) (a3 : Int) (a4 : Bool) (a5 : Bool) : Option (Bool) := (winnowlaw12_own.f a0_0 a0_1 a0_2 a0_3 a0_4).bind fun bt335 => ((register_Prepare.f k bt335.1 bt335.2.1 bt335.2.2.1 bt335.2.2.2.1 bt335.2.2.2.2 a1_0 a1_1).bind fun bt340 => ((winnowref12_Prepare.f a0_0 a0_1 a0_2 a0_3 a0_4 a1_0 a1_1).bind fun bt347 => ((winnowlaw12_own.f a0_0 a0_1 a0_2 a0_3 a0_4).bind fun bt354 => ((register_Accept.f k bt354.1 bt354.2.1 bt354.2.2.1 bt354.2.2.2.1 bt354.2.2.2.2 a1_0 a1_1 a2).bind fun bt359 => ((winnowref12_Accept.f a0_0 a0_1 a0_2 a0_3 a0_4 a1_0 a1_1 a2).bind fun bt366 => ((winnowlaw12_own.f a0_0 a0_1 a0_2 a0_3 a0_4).bind fun bt373 => ((register_Right.f k bt373.1 bt373.2.1 bt373.2.2.1 bt373.2.2.2.1 bt373.2.2.2.2).bind fun t378 => ((winnowref12_Right.f a0_0 a0_1 a0_2 a0_3 a0_4).bind fun t379 => (if (t378 == t379) = true then ((winnowlaw12_Back.f bt340.1 bt340.2.1 bt340.2.2.1 bt340.2.2.2.1 bt340.2.2.2.2.1).bind fun bt380 => (if ((bt380.1 == bt347.1 && (bt380.2.1 == bt347.2.1)) && ((bt380.2.2.1 == bt347.2.2.1 && (bt380.2.2.2.1 == bt347.2.2.2.1)) && (bt380.2.2.2.2 == bt347.2.2.2.2.1))) = true then (if (bt340.2.2.2.2.2 == bt347.2.2.2.2.2) = true then ((winnowlaw12_Back.f bt359.1 bt359.2.1 bt359.2.2.1 bt359.2.2.2.1 bt359.2.2.2.2.1).bind fun bt385 => (if ((bt385.1 == bt366.1 && (bt385.2.1 == bt366.2.1)) && ((bt385.2.2.1 == bt366.2.2.1 && (bt385.2.2.2.1 == bt366.2.2.2.1)) && (bt385.2.2.2.2 == bt366.2.2.2.2.1))) = true then (if (bt359.2.2.2.2.2 == bt366.2.2.2.2.2) = true then ((winnowlaw12_own.f a0_0 a0_1 a0_2 a0_3 a0_4).bind fun bt390 => ((register_Answer.f bt390.1 bt390.2.1 bt390.2.2.1 bt390.2.2.2.1 bt390.2.2.2.2 a3 a1_0 a1_1 a4 a5).bind fun bt395 => ((winnowref12_Answer.f k a0_0 a0_1 a0_2 a0_3 a0_4 a3 a1_0 a1_1 a4 a5).bind fun bt412 => ((winnowref05_Same.f k bt395.1 bt395.2.1 bt395.2.2.1 bt395.2.2.2.1 bt395.2.2.2.2.1 bt395.2.2.2.2.2.1 bt395.2.2.2.2.2.2.1 bt395.2.2.2.2.2.2.2.1 bt395.2.2.2.2.2.2.2.2.1 bt395.2.2.2.2.2.2.2.2.2.1 bt395.2.2.2.2.2.2.2.2.2.2 bt412.1 bt412.2.1 bt412.2.2.1 bt412.2.2.2.1 bt412.2.2.2.2.1 bt412.2.2.2.2.2.1 bt412.2.2.2.2.2.2.1 bt412.2.2.2.2.2.2.2.1 bt412.2.2.2.2.2.2.2.2.1 bt412.2.2.2.2.2.2.2.2.2.1 bt412.2.2.2.2.2.2.2.2.2.2).bind fun t429 => (if t429 = true then ((winnowlaw12_alive.f k).bind fun t430 => (some t430)) else (some false)))))) else (some false)) else (some false))) else (some false)) else (some false))) else (some false))))))))))
theorem winnowlaw12_RegisterSteps.mono : ∀ a0 a1 a2 a3 a4 a5 a6 a7 a8 a9 a10 k, LeO (winnowlaw12_RegisterSteps.f k a0 a1 a2 a3 a4 a5 a6 a7 a8 a9 a10) (winnowlaw12_RegisterSteps.f (k + 1) a0 a1 a2 a3 a4 a5 a6 a7 a8 a9 a10) := by
  intro a0 a1 a2 a3 a4 a5 a6 a7 a8 a9 a10 k
  unfold winnowlaw12_RegisterSteps.f
  repeat' first
      | (with_reducible exact register_Accept.mono _ _ _ _ _ _ _ _ _)
      | (with_reducible exact register_Prepare.mono _ _ _ _ _ _ _ _)
      | (with_reducible exact register_Right.mono _ _ _ _ _ _)
      | (with_reducible exact winnowlaw12_alive.mono _)
      | (with_reducible exact winnowref05_Same.mono _ _ _ _ _ _ _ _ _ _ _ _ _ _ _ _ _ _ _ _ _ _ _)
      | (with_reducible exact winnowref12_Answer.mono _ _ _ _ _ _ _ _ _ _ _)
      | (with_reducible exact LeO.refl _)
      | (with_reducible exact LeO.none _)
      | (with_reducible refine LeO.ite ?_ ?_)
      | (with_reducible refine LeO.bind ?_ (fun _ => ?_))
      | exact register_Accept.mono _ _ _ _ _ _ _ _ _
      | exact register_Prepare.mono _ _ _ _ _ _ _ _
      | exact register_Right.mono _ _ _ _ _ _
      | exact winnowlaw12_alive.mono _
      | exact winnowref05_Same.mono _ _ _ _ _ _ _ _ _ _ _ _ _ _ _ _ _ _ _ _ _ _ _
      | exact winnowref12_Answer.mono _ _ _ _ _ _ _ _ _ _ _
      | exact LeO.none _
      | refine LeO.ite ?_ ?_
      | refine LeO.bind ?_ (fun _ => ?_)
def winnowlaw12_RegisterSteps.T1 : Bool × List (List Nat × List Nat) := (true, [([], []), ([0], [0]), ([], []), ([1, 2, 1], [1, 2]), ([3], [3]), ([4], [4]), ([4], [4]), ([], []), ([7, 5, 3, 0, 1, 2, 3, 4, 5, 7], [5, 7]), ([6, 8, 0, 1, 2, 3, 4, 5, 6, 7, 8], [6])])
def winnowlaw12_RegisterSteps.B1 : List Nat := [0, 1, 0, 7, 15, 31, 31, 0, 191, 511]
theorem winnowlaw12_RegisterSteps.tab1 : rtab .any (opsOf Try.f10 1) = winnowlaw12_RegisterSteps.T1 := by kernel_rfl
theorem winnowlaw12_RegisterSteps.bits1 : waitsOk winnowlaw12_RegisterSteps.T1.2 winnowlaw12_RegisterSteps.B1 = true := by kernel_rfl
def winnowlaw12_RegisterSteps.T3 : Bool × List (List Nat × List Nat) := (true, [([], []), ([0], [0]), ([], []), ([], []), ([1, 2, 3, 1], [1, 2, 3]), ([4], [4]), ([5], [5]), ([5], [5]), ([], []), ([8, 6, 4, 0, 1, 2, 3, 4, 5, 6, 8], [6, 8]), ([7, 9, 0, 1, 2, 3, 4, 5, 6, 7, 8, 9], [7])])
def winnowlaw12_RegisterSteps.B3 : List Nat := [0, 1, 0, 0, 15, 31, 63, 63, 0, 383, 1023]
theorem winnowlaw12_RegisterSteps.tab3 : rtab .any (opsOf Try.f10 3) = winnowlaw12_RegisterSteps.T3 := by kernel_rfl
theorem winnowlaw12_RegisterSteps.bits3 : waitsOk winnowlaw12_RegisterSteps.T3.2 winnowlaw12_RegisterSteps.B3 = true := by kernel_rfl
def winnowlaw12_RegisterSteps.T5 : Bool × List (List Nat × List Nat) := (true, [([], []), ([0], [0]), ([1, 1], [1]), ([], []), ([3, 2], [3]), ([2, 4], [2, 4]), ([5, 4], [5]), ([6], [6]), ([7, 6, 6], [6, 7]), ([6], [6]), ([8, 9, 6], [6, 8, 9]), ([6, 10], [6, 10]), ([11, 8], [11]), ([12], [12]), ([12], [12]), ([13, 14, 12], [12, 13, 14]), ([12, 15], [12, 15]), ([16, 12], [16]), ([17], [17]), ([18, 17, 17], [17, 18]), ([17], [17]), ([19, 20, 17], [17, 19, 20]), ([17, 21], [17, 21]), ([22, 19], [22]), ([23], [23]), ([23], [23]), ([24, 25, 23], [23, 24, 25]), ([23, 26], [23, 26]), ([27, 23], [27]), ([28], [28]), ([29, 28, 28], [28, 29]), ([28], [28]), ([28], [28]), ([28], [28]), ([28], [28]), ([30, 31, 32, 33, 34, 30, 28], [28, 30, 31, 32, 33, 34]), ([28], [28]), ([28], [28]), ([28], [28]), ([28], [28]), ([28], [28]), ([36, 37, 38, 39, 40, 35, 28], [28, 36, 37, 38, 39, 40]), ([35, 41, 41, 28], [28, 35, 41]), ([28, 42], [28, 42]), ([43, 42], [43]), ([44, 44], [44]), ([44, 45], [44, 45]), ([46, 45, 0, 1, 2, 3, 4, 5, 6, 7, 8, 9, 10, 11, 12, 13, 14, 15, 16, 17, 18, 19, 20, 21, 22, 23, 24, 25, 26, 27, 28, 29, 30, 31, 32, 33, 34, 35, 36, 37, 38, 39, 40, 41, 42, 43, 44, 45, 46], [46])])
def winnowlaw12_RegisterSteps.B5 : List Nat := [0, 1, 3, 0, 15, 31, 63, 127, 255, 127, 1023, 2047, 4095, 8191, 8191, 32767, 65535, 131071, 262143, 524287, 262143, 2097151, 4194303, 8388607, 16777215, 16777215, 67108863, 134217727, 268435455, 536870911, 1073741823, 536870911, 536870911, 536870911, 536870911, 34359738367, 536870911, 536870911, 536870911, 536870911, 536870911, 2199023255551, 4398046511103, 8796093022207, 17592186044415, 35184372088831, 70368744177663, 140737488355327]
theorem winnowlaw12_RegisterSteps.tab5 : rtab .any (opsOf Try.f10 5) = winnowlaw12_RegisterSteps.T5 := by kernel_rfl
theorem winnowlaw12_RegisterSteps.bits5 : waitsOk winnowlaw12_RegisterSteps.T5.2 winnowlaw12_RegisterSteps.B5 = true := by kernel_rfl
set_option maxHeartbeats 8000000 in
set_option maxRecDepth 100000 in
theorem winnowlaw12_RegisterSteps.calls (k : Nat) (a0_0 : Int) (a0_1 : Int) (a0_2 : Int) (a0_3 : Int) (a0_4 : Int) (a1_0 : Int) (a1_1 : Int) (a2 : Int) (a3 : Int) (a4 : Bool) (a5 : Bool) (r : Bool) (w : World) (hrt_ : r = true) (h : winnowlaw12_RegisterSteps.f k a0_0 a0_1 a0_2 a0_3 a0_4 a1_0 a1_1 a2 a3 a4 a5 = some r) :
    Calls Try.prog 10 #[.agg #[.int .u64 a0_0, .int .u64 a0_1, .int .u64 a0_2, .int .u64 a0_3, .int .i64 a0_4], .agg #[.int .u64 a1_0, .int .u64 a1_1], .int .i64 a2, .int .u64 a3, .bool a4, .bool a5] w fun e w' => e = .returned (.bool r) ∧ Below w.heap.size w w' := by
  have HRT_ := Aside0.mk hrt_
  clear hrt_
  have hu40 := Try.underlying40
  have hu24 := Try.underlying24
  have hu42 := Try.underlying42
  have HB := Aside0.mk (Below.refl w.heap.size w)
  have H : ((winnowlaw12_own.f a0_0 a0_1 a0_2 a0_3 a0_4).bind fun bt335 => ((register_Prepare.f k bt335.1 bt335.2.1 bt335.2.2.1 bt335.2.2.2.1 bt335.2.2.2.2 a1_0 a1_1).bind fun bt340 => ((winnowref12_Prepare.f a0_0 a0_1 a0_2 a0_3 a0_4 a1_0 a1_1).bind fun bt347 => ((winnowlaw12_own.f a0_0 a0_1 a0_2 a0_3 a0_4).bind fun bt354 => ((register_Accept.f k bt354.1 bt354.2.1 bt354.2.2.1 bt354.2.2.2.1 bt354.2.2.2.2 a1_0 a1_1 a2).bind fun bt359 => ((winnowref12_Accept.f a0_0 a0_1 a0_2 a0_3 a0_4 a1_0 a1_1 a2).bind fun bt366 => ((winnowlaw12_own.f a0_0 a0_1 a0_2 a0_3 a0_4).bind fun bt373 => ((register_Right.f k bt373.1 bt373.2.1 bt373.2.2.1 bt373.2.2.2.1 bt373.2.2.2.2).bind fun t378 => ((winnowref12_Right.f a0_0 a0_1 a0_2 a0_3 a0_4).bind fun t379 => (if (t378 == t379) = true then ((winnowlaw12_Back.f bt340.1 bt340.2.1 bt340.2.2.1 bt340.2.2.2.1 bt340.2.2.2.2.1).bind fun bt380 => (if ((bt380.1 == bt347.1 && (bt380.2.1 == bt347.2.1)) && ((bt380.2.2.1 == bt347.2.2.1 && (bt380.2.2.2.1 == bt347.2.2.2.1)) && (bt380.2.2.2.2 == bt347.2.2.2.2.1))) = true then (if (bt340.2.2.2.2.2 == bt347.2.2.2.2.2) = true then ((winnowlaw12_Back.f bt359.1 bt359.2.1 bt359.2.2.1 bt359.2.2.2.1 bt359.2.2.2.2.1).bind fun bt385 => (if ((bt385.1 == bt366.1 && (bt385.2.1 == bt366.2.1)) && ((bt385.2.2.1 == bt366.2.2.1 && (bt385.2.2.2.1 == bt366.2.2.2.1)) && (bt385.2.2.2.2 == bt366.2.2.2.2.1))) = true then (if (bt359.2.2.2.2.2 == bt366.2.2.2.2.2) = true then ((winnowlaw12_own.f a0_0 a0_1 a0_2 a0_3 a0_4).bind fun bt390 => ((register_Answer.f bt390.1 bt390.2.1 bt390.2.2.1 bt390.2.2.2.1 bt390.2.2.2.2 a3 a1_0 a1_1 a4 a5).bind fun bt395 => ((winnowref12_Answer.f k a0_0 a0_1 a0_2 a0_3 a0_4 a3 a1_0 a1_1 a4 a5).bind fun bt412 => ((winnowref05_Same.f k bt395.1 bt395.2.1 bt395.2.2.1 bt395.2.2.2.1 bt395.2.2.2.2.1 bt395.2.2.2.2.2.1 bt395.2.2.2.2.2.2.1 bt395.2.2.2.2.2.2.2.1 bt395.2.2.2.2.2.2.2.2.1 bt395.2.2.2.2.2.2.2.2.2.1 bt395.2.2.2.2.2.2.2.2.2.2 bt412.1 bt412.2.1 bt412.2.2.1 bt412.2.2.2.1 bt412.2.2.2.2.1 bt412.2.2.2.2.2.1 bt412.2.2.2.2.2.2.1 bt412.2.2.2.2.2.2.2.1 bt412.2.2.2.2.2.2.2.2.1 bt412.2.2.2.2.2.2.2.2.2.1 bt412.2.2.2.2.2.2.2.2.2.2).bind fun t429 => (if t429 = true then ((winnowlaw12_alive.f k).bind fun t430 => (some t430)) else (some false)))))) else (some false)) else (some false))) else (some false)) else (some false))) else (some false))))))))))) = some r := h
  clear h
  replace H := Option.bind_eq_some_iff.mp H
  obtain ⟨⟨t335, t336, t337, t338, t339⟩, A70, H⟩ := H
  replace H : ((register_Prepare.f k t335 t336 t337 t338 t339 a1_0 a1_1).bind fun bt340 => ((winnowref12_Prepare.f a0_0 a0_1 a0_2 a0_3 a0_4 a1_0 a1_1).bind fun bt347 => ((winnowlaw12_own.f a0_0 a0_1 a0_2 a0_3 a0_4).bind fun bt354 => ((register_Accept.f k bt354.1 bt354.2.1 bt354.2.2.1 bt354.2.2.2.1 bt354.2.2.2.2 a1_0 a1_1 a2).bind fun bt359 => ((winnowref12_Accept.f a0_0 a0_1 a0_2 a0_3 a0_4 a1_0 a1_1 a2).bind fun bt366 => ((winnowlaw12_own.f a0_0 a0_1 a0_2 a0_3 a0_4).bind fun bt373 => ((register_Right.f k bt373.1 bt373.2.1 bt373.2.2.1 bt373.2.2.2.1 bt373.2.2.2.2).bind fun t378 => ((winnowref12_Right.f a0_0 a0_1 a0_2 a0_3 a0_4).bind fun t379 => (if (t378 == t379) = true then ((winnowlaw12_Back.f bt340.1 bt340.2.1 bt340.2.2.1 bt340.2.2.2.1 bt340.2.2.2.2.1).bind fun bt380 => (if ((bt380.1 == bt347.1 && (bt380.2.1 == bt347.2.1)) && ((bt380.2.2.1 == bt347.2.2.1 && (bt380.2.2.2.1 == bt347.2.2.2.1)) && (bt380.2.2.2.2 == bt347.2.2.2.2.1))) = true then (if (bt340.2.2.2.2.2 == bt347.2.2.2.2.2) = true then ((winnowlaw12_Back.f bt359.1 bt359.2.1 bt359.2.2.1 bt359.2.2.2.1 bt359.2.2.2.2.1).bind fun bt385 => (if ((bt385.1 == bt366.1 && (bt385.2.1 == bt366.2.1)) && ((bt385.2.2.1 == bt366.2.2.1 && (bt385.2.2.2.1 == bt366.2.2.2.1)) && (bt385.2.2.2.2 == bt366.2.2.2.2.1))) = true then (if (bt359.2.2.2.2.2 == bt366.2.2.2.2.2) = true then ((winnowlaw12_own.f a0_0 a0_1 a0_2 a0_3 a0_4).bind fun bt390 => ((register_Answer.f bt390.1 bt390.2.1 bt390.2.2.1 bt390.2.2.2.1 bt390.2.2.2.2 a3 a1_0 a1_1 a4 a5).bind fun bt395 => ((winnowref12_Answer.f k a0_0 a0_1 a0_2 a0_3 a0_4 a3 a1_0 a1_1 a4 a5).bind fun bt412 => ((winnowref05_Same.f k bt395.1 bt395.2.1 bt395.2.2.1 bt395.2.2.2.1 bt395.2.2.2.2.1 bt395.2.2.2.2.2.1 bt395.2.2.2.2.2.2.1 bt395.2.2.2.2.2.2.2.1 bt395.2.2.2.2.2.2.2.2.1 bt395.2.2.2.2.2.2.2.2.2.1 bt395.2.2.2.2.2.2.2.2.2.2 bt412.1 bt412.2.1 bt412.2.2.1 bt412.2.2.2.1 bt412.2.2.2.2.1 bt412.2.2.2.2.2.1 bt412.2.2.2.2.2.2.1 bt412.2.2.2.2.2.2.2.1 bt412.2.2.2.2.2.2.2.2.1 bt412.2.2.2.2.2.2.2.2.2.1 bt412.2.2.2.2.2.2.2.2.2.2).bind fun t429 => (if t429 = true then ((winnowlaw12_alive.f k).bind fun t430 => (some t430)) else (some false)))))) else (some false)) else (some false))) else (some false)) else (some false))) else (some false)))))))))) = some r := H
  have A7 := Aside0.mk A70
  clear A70
  replace H := Option.bind_eq_some_iff.mp H
  obtain ⟨⟨t340, t341, t342, t343, t344, t345⟩, A80, H⟩ := H
  replace H : ((winnowref12_Prepare.f a0_0 a0_1 a0_2 a0_3 a0_4 a1_0 a1_1).bind fun bt347 => ((winnowlaw12_own.f a0_0 a0_1 a0_2 a0_3 a0_4).bind fun bt354 => ((register_Accept.f k bt354.1 bt354.2.1 bt354.2.2.1 bt354.2.2.2.1 bt354.2.2.2.2 a1_0 a1_1 a2).bind fun bt359 => ((winnowref12_Accept.f a0_0 a0_1 a0_2 a0_3 a0_4 a1_0 a1_1 a2).bind fun bt366 => ((winnowlaw12_own.f a0_0 a0_1 a0_2 a0_3 a0_4).bind fun bt373 => ((register_Right.f k bt373.1 bt373.2.1 bt373.2.2.1 bt373.2.2.2.1 bt373.2.2.2.2).bind fun t378 => ((winnowref12_Right.f a0_0 a0_1 a0_2 a0_3 a0_4).bind fun t379 => (if (t378 == t379) = true then ((winnowlaw12_Back.f t340 t341 t342 t343 t344).bind fun bt380 => (if ((bt380.1 == bt347.1 && (bt380.2.1 == bt347.2.1)) && ((bt380.2.2.1 == bt347.2.2.1 && (bt380.2.2.2.1 == bt347.2.2.2.1)) && (bt380.2.2.2.2 == bt347.2.2.2.2.1))) = true then (if (t345 == bt347.2.2.2.2.2) = true then ((winnowlaw12_Back.f bt359.1 bt359.2.1 bt359.2.2.1 bt359.2.2.2.1 bt359.2.2.2.2.1).bind fun bt385 => (if ((bt385.1 == bt366.1 && (bt385.2.1 == bt366.2.1)) && ((bt385.2.2.1 == bt366.2.2.1 && (bt385.2.2.2.1 == bt366.2.2.2.1)) && (bt385.2.2.2.2 == bt366.2.2.2.2.1))) = true then (if (bt359.2.2.2.2.2 == bt366.2.2.2.2.2) = true then ((winnowlaw12_own.f a0_0 a0_1 a0_2 a0_3 a0_4).bind fun bt390 => ((register_Answer.f bt390.1 bt390.2.1 bt390.2.2.1 bt390.2.2.2.1 bt390.2.2.2.2 a3 a1_0 a1_1 a4 a5).bind fun bt395 => ((winnowref12_Answer.f k a0_0 a0_1 a0_2 a0_3 a0_4 a3 a1_0 a1_1 a4 a5).bind fun bt412 => ((winnowref05_Same.f k bt395.1 bt395.2.1 bt395.2.2.1 bt395.2.2.2.1 bt395.2.2.2.2.1 bt395.2.2.2.2.2.1 bt395.2.2.2.2.2.2.1 bt395.2.2.2.2.2.2.2.1 bt395.2.2.2.2.2.2.2.2.1 bt395.2.2.2.2.2.2.2.2.2.1 bt395.2.2.2.2.2.2.2.2.2.2 bt412.1 bt412.2.1 bt412.2.2.1 bt412.2.2.2.1 bt412.2.2.2.2.1 bt412.2.2.2.2.2.1 bt412.2.2.2.2.2.2.1 bt412.2.2.2.2.2.2.2.1 bt412.2.2.2.2.2.2.2.2.1 bt412.2.2.2.2.2.2.2.2.2.1 bt412.2.2.2.2.2.2.2.2.2.2).bind fun t429 => (if t429 = true then ((winnowlaw12_alive.f k).bind fun t430 => (some t430)) else (some false)))))) else (some false)) else (some false))) else (some false)) else (some false))) else (some false))))))))) = some r := H
  have A8 := Aside0.mk A80
  clear A80
  replace H := Option.bind_eq_some_iff.mp H
  obtain ⟨⟨t347, t348, t349, t350, t351, t352⟩, A90, H⟩ := H
  replace H : ((winnowlaw12_own.f a0_0 a0_1 a0_2 a0_3 a0_4).bind fun bt354 => ((register_Accept.f k bt354.1 bt354.2.1 bt354.2.2.1 bt354.2.2.2.1 bt354.2.2.2.2 a1_0 a1_1 a2).bind fun bt359 => ((winnowref12_Accept.f a0_0 a0_1 a0_2 a0_3 a0_4 a1_0 a1_1 a2).bind fun bt366 => ((winnowlaw12_own.f a0_0 a0_1 a0_2 a0_3 a0_4).bind fun bt373 => ((register_Right.f k bt373.1 bt373.2.1 bt373.2.2.1 bt373.2.2.2.1 bt373.2.2.2.2).bind fun t378 => ((winnowref12_Right.f a0_0 a0_1 a0_2 a0_3 a0_4).bind fun t379 => (if (t378 == t379) = true then ((winnowlaw12_Back.f t340 t341 t342 t343 t344).bind fun bt380 => (if ((bt380.1 == t347 && (bt380.2.1 == t348)) && ((bt380.2.2.1 == t349 && (bt380.2.2.2.1 == t350)) && (bt380.2.2.2.2 == t351))) = true then (if (t345 == t352) = true then ((winnowlaw12_Back.f bt359.1 bt359.2.1 bt359.2.2.1 bt359.2.2.2.1 bt359.2.2.2.2.1).bind fun bt385 => (if ((bt385.1 == bt366.1 && (bt385.2.1 == bt366.2.1)) && ((bt385.2.2.1 == bt366.2.2.1 && (bt385.2.2.2.1 == bt366.2.2.2.1)) && (bt385.2.2.2.2 == bt366.2.2.2.2.1))) = true then (if (bt359.2.2.2.2.2 == bt366.2.2.2.2.2) = true then ((winnowlaw12_own.f a0_0 a0_1 a0_2 a0_3 a0_4).bind fun bt390 => ((register_Answer.f bt390.1 bt390.2.1 bt390.2.2.1 bt390.2.2.2.1 bt390.2.2.2.2 a3 a1_0 a1_1 a4 a5).bind fun bt395 => ((winnowref12_Answer.f k a0_0 a0_1 a0_2 a0_3 a0_4 a3 a1_0 a1_1 a4 a5).bind fun bt412 => ((winnowref05_Same.f k bt395.1 bt395.2.1 bt395.2.2.1 bt395.2.2.2.1 bt395.2.2.2.2.1 bt395.2.2.2.2.2.1 bt395.2.2.2.2.2.2.1 bt395.2.2.2.2.2.2.2.1 bt395.2.2.2.2.2.2.2.2.1 bt395.2.2.2.2.2.2.2.2.2.1 bt395.2.2.2.2.2.2.2.2.2.2 bt412.1 bt412.2.1 bt412.2.2.1 bt412.2.2.2.1 bt412.2.2.2.2.1 bt412.2.2.2.2.2.1 bt412.2.2.2.2.2.2.1 bt412.2.2.2.2.2.2.2.1 bt412.2.2.2.2.2.2.2.2.1 bt412.2.2.2.2.2.2.2.2.2.1 bt412.2.2.2.2.2.2.2.2.2.2).bind fun t429 => (if t429 = true then ((winnowlaw12_alive.f k).bind fun t430 => (some t430)) else (some false)))))) else (some false)) else (some false))) else (some false)) else (some false))) else (some false)))))))) = some r := H
  have A9 := Aside0.mk A90
  clear A90
  replace H := Option.bind_eq_some_iff.mp H
  obtain ⟨⟨t354, t355, t356, t357, t358⟩, A100, H⟩ := H
  replace H : ((register_Accept.f k t354 t355 t356 t357 t358 a1_0 a1_1 a2).bind fun bt359 => ((winnowref12_Accept.f a0_0 a0_1 a0_2 a0_3 a0_4 a1_0 a1_1 a2).bind fun bt366 => ((winnowlaw12_own.f a0_0 a0_1 a0_2 a0_3 a0_4).bind fun bt373 => ((register_Right.f k bt373.1 bt373.2.1 bt373.2.2.1 bt373.2.2.2.1 bt373.2.2.2.2).bind fun t378 => ((winnowref12_Right.f a0_0 a0_1 a0_2 a0_3 a0_4).bind fun t379 => (if (t378 == t379) = true then ((winnowlaw12_Back.f t340 t341 t342 t343 t344).bind fun bt380 => (if ((bt380.1 == t347 && (bt380.2.1 == t348)) && ((bt380.2.2.1 == t349 && (bt380.2.2.2.1 == t350)) && (bt380.2.2.2.2 == t351))) = true then (if (t345 == t352) = true then ((winnowlaw12_Back.f bt359.1 bt359.2.1 bt359.2.2.1 bt359.2.2.2.1 bt359.2.2.2.2.1).bind fun bt385 => (if ((bt385.1 == bt366.1 && (bt385.2.1 == bt366.2.1)) && ((bt385.2.2.1 == bt366.2.2.1 && (bt385.2.2.2.1 == bt366.2.2.2.1)) && (bt385.2.2.2.2 == bt366.2.2.2.2.1))) = true then (if (bt359.2.2.2.2.2 == bt366.2.2.2.2.2) = true then ((winnowlaw12_own.f a0_0 a0_1 a0_2 a0_3 a0_4).bind fun bt390 => ((register_Answer.f bt390.1 bt390.2.1 bt390.2.2.1 bt390.2.2.2.1 bt390.2.2.2.2 a3 a1_0 a1_1 a4 a5).bind fun bt395 => ((winnowref12_Answer.f k a0_0 a0_1 a0_2 a0_3 a0_4 a3 a1_0 a1_1 a4 a5).bind fun bt412 => ((winnowref05_Same.f k bt395.1 bt395.2.1 bt395.2.2.1 bt395.2.2.2.1 bt395.2.2.2.2.1 bt395.2.2.2.2.2.1 bt395.2.2.2.2.2.2.1 bt395.2.2.2.2.2.2.2.1 bt395.2.2.2.2.2.2.2.2.1 bt395.2.2.2.2.2.2.2.2.2.1 bt395.2.2.2.2.2.2.2.2.2.2 bt412.1 bt412.2.1 bt412.2.2.1 bt412.2.2.2.1 bt412.2.2.2.2.1 bt412.2.2.2.2.2.1 bt412.2.2.2.2.2.2.1 bt412.2.2.2.2.2.2.2.1 bt412.2.2.2.2.2.2.2.2.1 bt412.2.2.2.2.2.2.2.2.2.1 bt412.2.2.2.2.2.2.2.2.2.2).bind fun t429 => (if t429 = true then ((winnowlaw12_alive.f k).bind fun t430 => (some t430)) else (some false)))))) else (some false)) else (some false))) else (some false)) else (some false))) else (some false))))))) = some r := H
  have A10 := Aside0.mk A100
  clear A100
  replace H := Option.bind_eq_some_iff.mp H
  obtain ⟨⟨t359, t360, t361, t362, t363, t364⟩, A110, H⟩ := H
  replace H : ((winnowref12_Accept.f a0_0 a0_1 a0_2 a0_3 a0_4 a1_0 a1_1 a2).bind fun bt366 => ((winnowlaw12_own.f a0_0 a0_1 a0_2 a0_3 a0_4).bind fun bt373 => ((register_Right.f k bt373.1 bt373.2.1 bt373.2.2.1 bt373.2.2.2.1 bt373.2.2.2.2).bind fun t378 => ((winnowref12_Right.f a0_0 a0_1 a0_2 a0_3 a0_4).bind fun t379 => (if (t378 == t379) = true then ((winnowlaw12_Back.f t340 t341 t342 t343 t344).bind fun bt380 => (if ((bt380.1 == t347 && (bt380.2.1 == t348)) && ((bt380.2.2.1 == t349 && (bt380.2.2.2.1 == t350)) && (bt380.2.2.2.2 == t351))) = true then (if (t345 == t352) = true then ((winnowlaw12_Back.f t359 t360 t361 t362 t363).bind fun bt385 => (if ((bt385.1 == bt366.1 && (bt385.2.1 == bt366.2.1)) && ((bt385.2.2.1 == bt366.2.2.1 && (bt385.2.2.2.1 == bt366.2.2.2.1)) && (bt385.2.2.2.2 == bt366.2.2.2.2.1))) = true then (if (t364 == bt366.2.2.2.2.2) = true then ((winnowlaw12_own.f a0_0 a0_1 a0_2 a0_3 a0_4).bind fun bt390 => ((register_Answer.f bt390.1 bt390.2.1 bt390.2.2.1 bt390.2.2.2.1 bt390.2.2.2.2 a3 a1_0 a1_1 a4 a5).bind fun bt395 => ((winnowref12_Answer.f k a0_0 a0_1 a0_2 a0_3 a0_4 a3 a1_0 a1_1 a4 a5).bind fun bt412 => ((winnowref05_Same.f k bt395.1 bt395.2.1 bt395.2.2.1 bt395.2.2.2.1 bt395.2.2.2.2.1 bt395.2.2.2.2.2.1 bt395.2.2.2.2.2.2.1 bt395.2.2.2.2.2.2.2.1 bt395.2.2.2.2.2.2.2.2.1 bt395.2.2.2.2.2.2.2.2.2.1 bt395.2.2.2.2.2.2.2.2.2.2 bt412.1 bt412.2.1 bt412.2.2.1 bt412.2.2.2.1 bt412.2.2.2.2.1 bt412.2.2.2.2.2.1 bt412.2.2.2.2.2.2.1 bt412.2.2.2.2.2.2.2.1 bt412.2.2.2.2.2.2.2.2.1 bt412.2.2.2.2.2.2.2.2.2.1 bt412.2.2.2.2.2.2.2.2.2.2).bind fun t429 => (if t429 = true then ((winnowlaw12_alive.f k).bind fun t430 => (some t430)) else (some false)))))) else (some false)) else (some false))) else (some false)) else (some false))) else (some false)))))) = some r := H
  have A11 := Aside0.mk A110
  clear A110
  replace H := Option.bind_eq_some_iff.mp H
  obtain ⟨⟨t366, t367, t368, t369, t370, t371⟩, A120, H⟩ := H
  replace H : ((winnowlaw12_own.f a0_0 a0_1 a0_2 a0_3 a0_4).bind fun bt373 => ((register_Right.f k bt373.1 bt373.2.1 bt373.2.2.1 bt373.2.2.2.1 bt373.2.2.2.2).bind fun t378 => ((winnowref12_Right.f a0_0 a0_1 a0_2 a0_3 a0_4).bind fun t379 => (if (t378 == t379) = true then ((winnowlaw12_Back.f t340 t341 t342 t343 t344).bind fun bt380 => (if ((bt380.1 == t347 && (bt380.2.1 == t348)) && ((bt380.2.2.1 == t349 && (bt380.2.2.2.1 == t350)) && (bt380.2.2.2.2 == t351))) = true then (if (t345 == t352) = true then ((winnowlaw12_Back.f t359 t360 t361 t362 t363).bind fun bt385 => (if ((bt385.1 == t366 && (bt385.2.1 == t367)) && ((bt385.2.2.1 == t368 && (bt385.2.2.2.1 == t369)) && (bt385.2.2.2.2 == t370))) = true then (if (t364 == t371) = true then ((winnowlaw12_own.f a0_0 a0_1 a0_2 a0_3 a0_4).bind fun bt390 => ((register_Answer.f bt390.1 bt390.2.1 bt390.2.2.1 bt390.2.2.2.1 bt390.2.2.2.2 a3 a1_0 a1_1 a4 a5).bind fun bt395 => ((winnowref12_Answer.f k a0_0 a0_1 a0_2 a0_3 a0_4 a3 a1_0 a1_1 a4 a5).bind fun bt412 => ((winnowref05_Same.f k bt395.1 bt395.2.1 bt395.2.2.1 bt395.2.2.2.1 bt395.2.2.2.2.1 bt395.2.2.2.2.2.1 bt395.2.2.2.2.2.2.1 bt395.2.2.2.2.2.2.2.1 bt395.2.2.2.2.2.2.2.2.1 bt395.2.2.2.2.2.2.2.2.2.1 bt395.2.2.2.2.2.2.2.2.2.2 bt412.1 bt412.2.1 bt412.2.2.1 bt412.2.2.2.1 bt412.2.2.2.2.1 bt412.2.2.2.2.2.1 bt412.2.2.2.2.2.2.1 bt412.2.2.2.2.2.2.2.1 bt412.2.2.2.2.2.2.2.2.1 bt412.2.2.2.2.2.2.2.2.2.1 bt412.2.2.2.2.2.2.2.2.2.2).bind fun t429 => (if t429 = true then ((winnowlaw12_alive.f k).bind fun t430 => (some t430)) else (some false)))))) else (some false)) else (some false))) else (some false)) else (some false))) else (some false))))) = some r := H
  have A12 := Aside0.mk A120
  clear A120
  replace H := Option.bind_eq_some_iff.mp H
  obtain ⟨⟨t373, t374, t375, t376, t377⟩, A130, H⟩ := H
  replace H : ((register_Right.f k t373 t374 t375 t376 t377).bind fun t378 => ((winnowref12_Right.f a0_0 a0_1 a0_2 a0_3 a0_4).bind fun t379 => (if (t378 == t379) = true then ((winnowlaw12_Back.f t340 t341 t342 t343 t344).bind fun bt380 => (if ((bt380.1 == t347 && (bt380.2.1 == t348)) && ((bt380.2.2.1 == t349 && (bt380.2.2.2.1 == t350)) && (bt380.2.2.2.2 == t351))) = true then (if (t345 == t352) = true then ((winnowlaw12_Back.f t359 t360 t361 t362 t363).bind fun bt385 => (if ((bt385.1 == t366 && (bt385.2.1 == t367)) && ((bt385.2.2.1 == t368 && (bt385.2.2.2.1 == t369)) && (bt385.2.2.2.2 == t370))) = true then (if (t364 == t371) = true then ((winnowlaw12_own.f a0_0 a0_1 a0_2 a0_3 a0_4).bind fun bt390 => ((register_Answer.f bt390.1 bt390.2.1 bt390.2.2.1 bt390.2.2.2.1 bt390.2.2.2.2 a3 a1_0 a1_1 a4 a5).bind fun bt395 => ((winnowref12_Answer.f k a0_0 a0_1 a0_2 a0_3 a0_4 a3 a1_0 a1_1 a4 a5).bind fun bt412 => ((winnowref05_Same.f k bt395.1 bt395.2.1 bt395.2.2.1 bt395.2.2.2.1 bt395.2.2.2.2.1 bt395.2.2.2.2.2.1 bt395.2.2.2.2.2.2.1 bt395.2.2.2.2.2.2.2.1 bt395.2.2.2.2.2.2.2.2.1 bt395.2.2.2.2.2.2.2.2.2.1 bt395.2.2.2.2.2.2.2.2.2.2 bt412.1 bt412.2.1 bt412.2.2.1 bt412.2.2.2.1 bt412.2.2.2.2.1 bt412.2.2.2.2.2.1 bt412.2.2.2.2.2.2.1 bt412.2.2.2.2.2.2.2.1 bt412.2.2.2.2.2.2.2.2.1 bt412.2.2.2.2.2.2.2.2.2.1 bt412.2.2.2.2.2.2.2.2.2.2).bind fun t429 => (if t429 = true then ((winnowlaw12_alive.f k).bind fun t430 => (some t430)) else (some false)))))) else (some false)) else (some false))) else (some false)) else (some false))) else (some false)))) = some r := H
  have A13 := Aside0.mk A130
  clear A130
  replace H := Option.bind_eq_some_iff.mp H
  obtain ⟨t378, A140, H⟩ := H
  replace H : ((winnowref12_Right.f a0_0 a0_1 a0_2 a0_3 a0_4).bind fun t379 => (if (t378 == t379) = true then ((winnowlaw12_Back.f t340 t341 t342 t343 t344).bind fun bt380 => (if ((bt380.1 == t347 && (bt380.2.1 == t348)) && ((bt380.2.2.1 == t349 && (bt380.2.2.2.1 == t350)) && (bt380.2.2.2.2 == t351))) = true then (if (t345 == t352) = true then ((winnowlaw12_Back.f t359 t360 t361 t362 t363).bind fun bt385 => (if ((bt385.1 == t366 && (bt385.2.1 == t367)) && ((bt385.2.2.1 == t368 && (bt385.2.2.2.1 == t369)) && (bt385.2.2.2.2 == t370))) = true then (if (t364 == t371) = true then ((winnowlaw12_own.f a0_0 a0_1 a0_2 a0_3 a0_4).bind fun bt390 => ((register_Answer.f bt390.1 bt390.2.1 bt390.2.2.1 bt390.2.2.2.1 bt390.2.2.2.2 a3 a1_0 a1_1 a4 a5).bind fun bt395 => ((winnowref12_Answer.f k a0_0 a0_1 a0_2 a0_3 a0_4 a3 a1_0 a1_1 a4 a5).bind fun bt412 => ((winnowref05_Same.f k bt395.1 bt395.2.1 bt395.2.2.1 bt395.2.2.2.1 bt395.2.2.2.2.1 bt395.2.2.2.2.2.1 bt395.2.2.2.2.2.2.1 bt395.2.2.2.2.2.2.2.1 bt395.2.2.2.2.2.2.2.2.1 bt395.2.2.2.2.2.2.2.2.2.1 bt395.2.2.2.2.2.2.2.2.2.2 bt412.1 bt412.2.1 bt412.2.2.1 bt412.2.2.2.1 bt412.2.2.2.2.1 bt412.2.2.2.2.2.1 bt412.2.2.2.2.2.2.1 bt412.2.2.2.2.2.2.2.1 bt412.2.2.2.2.2.2.2.2.1 bt412.2.2.2.2.2.2.2.2.2.1 bt412.2.2.2.2.2.2.2.2.2.2).bind fun t429 => (if t429 = true then ((winnowlaw12_alive.f k).bind fun t430 => (some t430)) else (some false)))))) else (some false)) else (some false))) else (some false)) else (some false))) else (some false))) = some r := H
  have A14 := Aside0.mk A140
  clear A140
  replace H := Option.bind_eq_some_iff.mp H
  obtain ⟨t379, A150, H⟩ := H
  replace H : (if (t378 == t379) = true then ((winnowlaw12_Back.f t340 t341 t342 t343 t344).bind fun bt380 => (if ((bt380.1 == t347 && (bt380.2.1 == t348)) && ((bt380.2.2.1 == t349 && (bt380.2.2.2.1 == t350)) && (bt380.2.2.2.2 == t351))) = true then (if (t345 == t352) = true then ((winnowlaw12_Back.f t359 t360 t361 t362 t363).bind fun bt385 => (if ((bt385.1 == t366 && (bt385.2.1 == t367)) && ((bt385.2.2.1 == t368 && (bt385.2.2.2.1 == t369)) && (bt385.2.2.2.2 == t370))) = true then (if (t364 == t371) = true then ((winnowlaw12_own.f a0_0 a0_1 a0_2 a0_3 a0_4).bind fun bt390 => ((register_Answer.f bt390.1 bt390.2.1 bt390.2.2.1 bt390.2.2.2.1 bt390.2.2.2.2 a3 a1_0 a1_1 a4 a5).bind fun bt395 => ((winnowref12_Answer.f k a0_0 a0_1 a0_2 a0_3 a0_4 a3 a1_0 a1_1 a4 a5).bind fun bt412 => ((winnowref05_Same.f k bt395.1 bt395.2.1 bt395.2.2.1 bt395.2.2.2.1 bt395.2.2.2.2.1 bt395.2.2.2.2.2.1 bt395.2.2.2.2.2.2.1 bt395.2.2.2.2.2.2.2.1 bt395.2.2.2.2.2.2.2.2.1 bt395.2.2.2.2.2.2.2.2.2.1 bt395.2.2.2.2.2.2.2.2.2.2 bt412.1 bt412.2.1 bt412.2.2.1 bt412.2.2.2.1 bt412.2.2.2.2.1 bt412.2.2.2.2.2.1 bt412.2.2.2.2.2.2.1 bt412.2.2.2.2.2.2.2.1 bt412.2.2.2.2.2.2.2.2.1 bt412.2.2.2.2.2.2.2.2.2.1 bt412.2.2.2.2.2.2.2.2.2.2).bind fun t429 => (if t429 = true then ((winnowlaw12_alive.f k).bind fun t430 => (some t430)) else (some false)))))) else (some false)) else (some false))) else (some false)) else (some false))) else (some false)) = some r := H
  have A15 := Aside0.mk A150
  clear A150
  by_cases c16 : (t378 == t379) = true
  · rw [if_pos c16] at H
    have c16b0 : (t378 == t379) = true := c16
    (try (have c16b1 : decide (t378 = t379) = true := by simpa using c16))
    (try (have c16b2 : (t378 == t379) = true := by simpa using c16))
    clear c16
    replace H := Option.bind_eq_some_iff.mp H
    obtain ⟨⟨t380, t381, t382, t383, t384⟩, A170, H⟩ := H
    replace H : (if ((t380 == t347 && (t381 == t348)) && ((t382 == t349 && (t383 == t350)) && (t384 == t351))) = true then (if (t345 == t352) = true then ((winnowlaw12_Back.f t359 t360 t361 t362 t363).bind fun bt385 => (if ((bt385.1 == t366 && (bt385.2.1 == t367)) && ((bt385.2.2.1 == t368 && (bt385.2.2.2.1 == t369)) && (bt385.2.2.2.2 == t370))) = true then (if (t364 == t371) = true then ((winnowlaw12_own.f a0_0 a0_1 a0_2 a0_3 a0_4).bind fun bt390 => ((register_Answer.f bt390.1 bt390.2.1 bt390.2.2.1 bt390.2.2.2.1 bt390.2.2.2.2 a3 a1_0 a1_1 a4 a5).bind fun bt395 => ((winnowref12_Answer.f k a0_0 a0_1 a0_2 a0_3 a0_4 a3 a1_0 a1_1 a4 a5).bind fun bt412 => ((winnowref05_Same.f k bt395.1 bt395.2.1 bt395.2.2.1 bt395.2.2.2.1 bt395.2.2.2.2.1 bt395.2.2.2.2.2.1 bt395.2.2.2.2.2.2.1 bt395.2.2.2.2.2.2.2.1 bt395.2.2.2.2.2.2.2.2.1 bt395.2.2.2.2.2.2.2.2.2.1 bt395.2.2.2.2.2.2.2.2.2.2 bt412.1 bt412.2.1 bt412.2.2.1 bt412.2.2.2.1 bt412.2.2.2.2.1 bt412.2.2.2.2.2.1 bt412.2.2.2.2.2.2.1 bt412.2.2.2.2.2.2.2.1 bt412.2.2.2.2.2.2.2.2.1 bt412.2.2.2.2.2.2.2.2.2.1 bt412.2.2.2.2.2.2.2.2.2.2).bind fun t429 => (if t429 = true then ((winnowlaw12_alive.f k).bind fun t430 => (some t430)) else (some false)))))) else (some false)) else (some false))) else (some false)) else (some false)) = some r := H
    have A17 := Aside0.mk A170
    clear A170
    by_cases c18 : ((t380 == t347 && (t381 == t348)) && ((t382 == t349 && (t383 == t350)) && (t384 == t351))) = true
    · rw [if_pos c18] at H
      have c18b0 : ((t380 == t347 && (t381 == t348)) && ((t382 == t349 && (t383 == t350)) && (t384 == t351))) = true := c18
      clear c18
      by_cases c19 : (t345 == t352) = true
      · rw [if_pos c19] at H
        have c19b0 : (t345 == t352) = true := c19
        (try (have c19b1 : decide (t345 = t352) = true := by simpa using c19))
        (try (have c19b2 : (t345 == t352) = true := by simpa using c19))
        clear c19
        replace H := Option.bind_eq_some_iff.mp H
        obtain ⟨⟨t385, t386, t387, t388, t389⟩, A200, H⟩ := H
        replace H : (if ((t385 == t366 && (t386 == t367)) && ((t387 == t368 && (t388 == t369)) && (t389 == t370))) = true then (if (t364 == t371) = true then ((winnowlaw12_own.f a0_0 a0_1 a0_2 a0_3 a0_4).bind fun bt390 => ((register_Answer.f bt390.1 bt390.2.1 bt390.2.2.1 bt390.2.2.2.1 bt390.2.2.2.2 a3 a1_0 a1_1 a4 a5).bind fun bt395 => ((winnowref12_Answer.f k a0_0 a0_1 a0_2 a0_3 a0_4 a3 a1_0 a1_1 a4 a5).bind fun bt412 => ((winnowref05_Same.f k bt395.1 bt395.2.1 bt395.2.2.1 bt395.2.2.2.1 bt395.2.2.2.2.1 bt395.2.2.2.2.2.1 bt395.2.2.2.2.2.2.1 bt395.2.2.2.2.2.2.2.1 bt395.2.2.2.2.2.2.2.2.1 bt395.2.2.2.2.2.2.2.2.2.1 bt395.2.2.2.2.2.2.2.2.2.2 bt412.1 bt412.2.1 bt412.2.2.1 bt412.2.2.2.1 bt412.2.2.2.2.1 bt412.2.2.2.2.2.1 bt412.2.2.2.2.2.2.1 bt412.2.2.2.2.2.2.2.1 bt412.2.2.2.2.2.2.2.2.1 bt412.2.2.2.2.2.2.2.2.2.1 bt412.2.2.2.2.2.2.2.2.2.2).bind fun t429 => (if t429 = true then ((winnowlaw12_alive.f k).bind fun t430 => (some t430)) else (some false)))))) else (some false)) else (some false)) = some r := H
        have A20 := Aside0.mk A200
        clear A200
        by_cases c21 : ((t385 == t366 && (t386 == t367)) && ((t387 == t368 && (t388 == t369)) && (t389 == t370))) = true
        · rw [if_pos c21] at H
          have c21b0 : ((t385 == t366 && (t386 == t367)) && ((t387 == t368 && (t388 == t369)) && (t389 == t370))) = true := c21
          clear c21
          by_cases c22 : (t364 == t371) = true
          · rw [if_pos c22] at H
            have c22b0 : (t364 == t371) = true := c22
            (try (have c22b1 : decide (t364 = t371) = true := by simpa using c22))
            (try (have c22b2 : (t364 == t371) = true := by simpa using c22))
            clear c22
            replace H := Option.bind_eq_some_iff.mp H
            obtain ⟨⟨t390, t391, t392, t393, t394⟩, A230, H⟩ := H
            replace H : ((register_Answer.f t390 t391 t392 t393 t394 a3 a1_0 a1_1 a4 a5).bind fun bt395 => ((winnowref12_Answer.f k a0_0 a0_1 a0_2 a0_3 a0_4 a3 a1_0 a1_1 a4 a5).bind fun bt412 => ((winnowref05_Same.f k bt395.1 bt395.2.1 bt395.2.2.1 bt395.2.2.2.1 bt395.2.2.2.2.1 bt395.2.2.2.2.2.1 bt395.2.2.2.2.2.2.1 bt395.2.2.2.2.2.2.2.1 bt395.2.2.2.2.2.2.2.2.1 bt395.2.2.2.2.2.2.2.2.2.1 bt395.2.2.2.2.2.2.2.2.2.2 bt412.1 bt412.2.1 bt412.2.2.1 bt412.2.2.2.1 bt412.2.2.2.2.1 bt412.2.2.2.2.2.1 bt412.2.2.2.2.2.2.1 bt412.2.2.2.2.2.2.2.1 bt412.2.2.2.2.2.2.2.2.1 bt412.2.2.2.2.2.2.2.2.2.1 bt412.2.2.2.2.2.2.2.2.2.2).bind fun t429 => (if t429 = true then ((winnowlaw12_alive.f k).bind fun t430 => (some t430)) else (some false))))) = some r := H
            have A23 := Aside0.mk A230
            clear A230
            replace H := Option.bind_eq_some_iff.mp H
            obtain ⟨⟨t395, t396, t397, t398, t399, t400, t401, t402, t403, t406, t409⟩, A240, H⟩ := H
            replace H : ((winnowref12_Answer.f k a0_0 a0_1 a0_2 a0_3 a0_4 a3 a1_0 a1_1 a4 a5).bind fun bt412 => ((winnowref05_Same.f k t395 t396 t397 t398 t399 t400 t401 t402 t403 t406 t409 bt412.1 bt412.2.1 bt412.2.2.1 bt412.2.2.2.1 bt412.2.2.2.2.1 bt412.2.2.2.2.2.1 bt412.2.2.2.2.2.2.1 bt412.2.2.2.2.2.2.2.1 bt412.2.2.2.2.2.2.2.2.1 bt412.2.2.2.2.2.2.2.2.2.1 bt412.2.2.2.2.2.2.2.2.2.2).bind fun t429 => (if t429 = true then ((winnowlaw12_alive.f k).bind fun t430 => (some t430)) else (some false)))) = some r := H
            have A24 := Aside0.mk A240
            clear A240
            replace H := Option.bind_eq_some_iff.mp H
            obtain ⟨⟨t412, t413, t414, t415, t416, t417, t418, t419, t420, t423, t426⟩, A250, H⟩ := H
            replace H : ((winnowref05_Same.f k t395 t396 t397 t398 t399 t400 t401 t402 t403 t406 t409 t412 t413 t414 t415 t416 t417 t418 t419 t420 t423 t426).bind fun t429 => (if t429 = true then ((winnowlaw12_alive.f k).bind fun t430 => (some t430)) else (some false))) = some r := H
            have A25 := Aside0.mk A250
            clear A250
            replace H := Option.bind_eq_some_iff.mp H
            obtain ⟨t429, A260, H⟩ := H
            replace H : (if t429 = true then ((winnowlaw12_alive.f k).bind fun t430 => (some t430)) else (some false)) = some r := H
            have A26 := Aside0.mk A260
            clear A260
            by_cases c27 : t429 = true
            · subst c27
              have H1 : ((winnowlaw12_alive.f k).bind fun t430 => (some t430)) = some r := by rw [if_pos rfl] at H; exact H
              clear H
              have H := H1
              clear H1
              replace H := Option.bind_eq_some_iff.mp H
              obtain ⟨t430, A280, H⟩ := H
              replace H : (some t430) = some r := H
              have A28 := Aside0.mk A280
              clear A280
              obtain rfl := Option.some.inj H
              go_enter Try.func10, Try.ntmps10
              try go_wp2_with (first | ((with_reducible refine gate_dst (N := 6) rfl ?_); refine box_event ?hg (N := 6) ?hd (cs := #[.int .u64 a0_0, .int .u64 a0_1, .int .u64 a0_2, .int .u64 a0_3, .int .i64 a0_4]) (t := 40) ?hr ?_; (case hd => rfl); (case hg => rfl); (case hr => first | (go_simp; done) | (go_simp; rfl)); intro gb333 hg w29 hbox hb; have n0_ := Aside0.mk (below_step (by repeat (first | (with_reducible first | exact HB.out | apply below_alloc | apply pw_below_drewN | apply below_drew1) | exact HB.out)) hb); have n1_ := Aside0.mk (hbox); have n2_ := Aside0.mk ((by rw [hg]; exact (below_size (by repeat (first | (with_reducible first | exact HB.out | apply below_alloc | apply pw_below_drewN | apply below_drew1) | exact HB.out))) : w.heap.size ≤ gb333)); have n3_ := n2_; clear HB; have HB := n0_; have BK333 := n1_; have GW333 := n2_; have GE333 := n3_; clear n0_ n1_ n2_ n3_; clear hb hbox hg) | ((with_reducible refine gate_dst (N := 7) rfl ?_); refine box_event ?hg (N := 7) ?hd (cs := #[.int .u64 a1_0, .int .u64 a1_1]) (t := 24) ?hr ?_; (case hd => rfl); (case hg => rfl); (case hr => first | (go_simp; done) | (go_simp; rfl)); intro gb334 hg w30 hbox hb; have n0_ := Aside0.mk (blk_below (g := gb333) (o := .cells #[.int .u64 a0_0, .int .u64 a0_1, .int .u64 a0_2, .int .u64 a0_3, .int .i64 a0_4] 40 (0, 0)) (by (with_reducible repeat (first | refine blk_drewN ?_ _ | refine blk_drew ?_ | refine blk_alloc ?_ _)); exact BK333.out) hb); have n1_ := Aside0.mk (below_step (by repeat (first | (with_reducible first | exact HB.out | apply below_alloc | apply pw_below_drewN | apply below_drew1 | refine below_set ?_ GE333.out) | exact HB.out)) hb); have n2_ := Aside0.mk (hbox); have n3_ := Aside0.mk ((by rw [hg]; exact (below_size (by repeat (first | (with_reducible first | exact HB.out | apply below_alloc | apply pw_below_drewN | apply below_drew1 | refine below_set ?_ GE333.out) | exact HB.out))) : w.heap.size ≤ gb334)); have n4_ := n3_; have n5_ := Aside0.mk ((by rw [hg]; exact Nat.ne_of_lt (blk_lt (g := gb333) (o := .cells #[.int .u64 a0_0, .int .u64 a0_1, .int .u64 a0_2, .int .u64 a0_3, .int .i64 a0_4] 40 (0, 0)) (by (with_reducible repeat (first | refine blk_drewN ?_ _ | refine blk_drew ?_ | refine blk_alloc ?_ _)); exact BK333.out)) : gb333 ≠ gb334)); have n6_ := Aside0.mk ((by rw [hg]; exact Nat.ne_of_gt (blk_lt (g := gb333) (o := .cells #[.int .u64 a0_0, .int .u64 a0_1, .int .u64 a0_2, .int .u64 a0_3, .int .i64 a0_4] 40 (0, 0)) (by (with_reducible repeat (first | refine blk_drewN ?_ _ | refine blk_drew ?_ | refine blk_alloc ?_ _)); exact BK333.out)) : gb334 ≠ gb333)); clear BK333; clear HB; have BK333 := n0_; have HB := n1_; have BK334 := n2_; have GW334 := n3_; have GE334 := n4_; have NB333_334 := n5_; have NB334_333 := n6_; clear n0_ n1_ n2_ n3_ n4_ n5_ n6_; clear hb hbox hg))
              have n0_ := Aside0.mk (blk_drew BK333.out)
              have n1_ := Aside0.mk (blk_drew BK334.out)
              have n2_ := Aside0.mk (below_drew1 HB.out)
              clear BK333
              clear BK334
              clear HB
              have BK333 := n0_
              have BK334 := n1_
              have HB := n2_
              clear n0_ n1_ n2_
              refine start_ (n := 10) (S := fun w' => w'.cell? ⟨gb333, 0, none⟩ = some (.int .u64 a0_0) ∧ w'.cell? ⟨gb333, 1, none⟩ = some (.int .u64 a0_1) ∧ w'.cell? ⟨gb333, 2, none⟩ = some (.int .u64 a0_2) ∧ w'.cell? ⟨gb333, 3, none⟩ = some (.int .u64 a0_3) ∧ w'.cell? ⟨gb333, 4, none⟩ = some (.int .i64 a0_4) ∧ w'.cell? ⟨gb334, 0, none⟩ = some (.int .u64 a1_0) ∧ w'.cell? ⟨gb334, 1, none⟩ = some (.int .u64 a1_1)) (ds := []) #[false, false, false, false, false, false, false, false, false, false] (by kernel_rfl) rfl rfl ⟨(blk_cell BK333.out 0).trans rfl, (blk_cell BK333.out 1).trans rfl, (blk_cell BK333.out 2).trans rfl, (blk_cell BK333.out 3).trans rfl, (blk_cell BK333.out 4).trans rfl, (blk_cell BK334.out 0).trans rfl, (blk_cell BK334.out 1).trans rfl⟩ (fun hHeld => ?_); refine with_tabW winnowlaw12_RegisterSteps.tab1 winnowlaw12_RegisterSteps.bits1 (fun HT_ HW_ => ?_)
              generalize w30.drew = w31 at BK333 BK334 HB hHeld ⊢
              refine take_ (i := 0) (N := some 22) (v := ?_) (a' := ?_) #[true, false, false, false, false, false, false, false, false, false] rfl rfl (take_ofW HT_.out HW_.out (by kernel_rfl)) (fun _ _ _ h => h) (Or.inl ⟨by rfl, ?_⟩) hHeld ?_ ?_
              rotate_left
              · rintro w' ⟨s0, s1, s2, s3, s4, s5, s6⟩
                go_simp
                with_reducible rfl
              rotate_left
              · simp only [Act.put, List.setIfInBounds_toArray, List.set_cons_zero, List.set_cons_succ, i64_w, i32_w]
                rfl
              refine take_ (i := 2) (N := some 24) (v := ?_) (a' := ?_) #[true, false, true, false, false, false, false, false, false, false] rfl rfl (take_ofW HT_.out HW_.out (by kernel_rfl)) (fun _ _ _ h => h) (Or.inl ⟨by rfl, ?_⟩) hHeld ?_ ?_
              rotate_left
              · rintro w' ⟨s0, s1, s2, s3, s4, s5, s6⟩
                go_simp
                with_reducible rfl
              rotate_left
              · simp only [Act.put, List.setIfInBounds_toArray, List.set_cons_zero, List.set_cons_succ, i64_w, i32_w]
                rfl
              refine join_ (σ := Nat) 2 #[true, true, true, true, true, true, true, true, false, false] (fun s_ => [(23, .agg #[.int .u64 t335, .int .u64 t336, .int .u64 t337, .int .u64 t338, .int .i64 t339]), (25, .tuple #[.agg #[.int .u64 t340, .int .u64 t341, .int .u64 t342, .int .u64 t343, .int .i64 t344], .bool t345]), (13, .pointer (some ⟨s_, 0, none⟩)), (21, .tuple #[.agg #[.int .u64 t340, .int .u64 t341, .int .u64 t342, .int .u64 t343, .int .i64 t344], .bool t345]), (26, .agg #[.int .u64 t340, .int .u64 t341, .int .u64 t342, .int .u64 t343, .int .i64 t344]), (27, .bool t345)]) (fun s_ w' => (w'.cell? ⟨gb333, 0, none⟩ = some (.int .u64 a0_0) ∧ w'.cell? ⟨gb333, 1, none⟩ = some (.int .u64 a0_1) ∧ w'.cell? ⟨gb333, 2, none⟩ = some (.int .u64 a0_2) ∧ w'.cell? ⟨gb333, 3, none⟩ = some (.int .u64 a0_3) ∧ w'.cell? ⟨gb333, 4, none⟩ = some (.int .i64 a0_4) ∧ w'.cell? ⟨gb334, 0, none⟩ = some (.int .u64 a1_0) ∧ w'.cell? ⟨gb334, 1, none⟩ = some (.int .u64 a1_1)) ∧ (w'.heap[gb333]? = some (.cells #[.int .u64 a0_0, .int .u64 a0_1, .int .u64 a0_2, .int .u64 a0_3, .int .i64 a0_4] 40 (0, 0))) ∧ (w'.heap[gb334]? = some (.cells #[.int .u64 a1_0, .int .u64 a1_1] 24 (0, 0))) ∧ (w'.heap[s_]? = some (.cells #[.int .u64 0, .int .u64 0, .int .u64 0, .int .u64 0, .int .i64 0] 42 (0, 0))) ∧ (w.heap.size ≤ s_) ∧ (w.heap.size ≤ s_) ∧ (gb333 ≠ s_) ∧ (s_ ≠ gb333) ∧ (gb334 ≠ s_) ∧ (s_ ≠ gb334) ∧ (Below w.heap.size w w')) ?_ ?_
              rotate_left
              · intro hCont
                refine two_ (i := 1) (j := 7) (Ni := some 23) (Nj := some 13) #[true, true, true, false, false, false, false, false, false, false] #[true, false, true, false, false, false, false, true, false, false] rfl rfl rfl rfl (two_of HT_.out (by kernel_rfl)) (by decide) (by decide) (fun K hK => ?_) (fun K hK => ?_)
                · skip
                  refine goes_ Try.func23 (by kernel_rfl) rfl #[.agg #[.int .u64 a0_0, .int .u64 a0_1, .int .u64 a0_2, .int .u64 a0_3, .int .i64 a0_4]] (by rfl) rfl rfl (by (try simp only [List.map_toArray, List.map_cons, List.map_nil]); first | done | rfl | (simp only [List.length_drop, List.length_take]; rfl)) ?_
                  with_reducible refine (winnowlaw12_own.calls a0_0 a0_1 a0_2 a0_3 a0_4 t335 t336 t337 t338 t339 _ A7.out).mono ?_
                  rintro e w32 ⟨rfl, hb⟩
                  refine ⟨_, rfl, ?_⟩
                  have n0_ := Aside0.mk (blk_below (g := gb333) (o := .cells #[.int .u64 a0_0, .int .u64 a0_1, .int .u64 a0_2, .int .u64 a0_3, .int .i64 a0_4] 40 (0, 0)) (by (with_reducible repeat (first | refine blk_drewN ?_ _ | refine blk_drew ?_ | refine blk_alloc ?_ _)); exact BK333.out) hb)
                  have n1_ := Aside0.mk (blk_below (g := gb334) (o := .cells #[.int .u64 a1_0, .int .u64 a1_1] 24 (0, 0)) (by (with_reducible repeat (first | refine blk_drewN ?_ _ | refine blk_drew ?_ | refine blk_alloc ?_ _)); exact BK334.out) hb)
                  have n2_ := Aside0.mk (below_step (by repeat (first | (with_reducible first | exact HB.out | apply below_alloc | apply pw_below_drewN | apply below_drew1 | refine below_set ?_ GE333.out | refine below_set ?_ GE334.out) | exact HB.out)) hb)
                  clear BK333
                  clear BK334
                  clear HB
                  have BK333 := n0_
                  have BK334 := n1_
                  have HB := n2_
                  clear n0_ n1_ n2_
                  (try clear hb)
                  (try clear hb2)
                  (try clear hk)
                  (try clear hi)
                  refine hK.out _ _ ⟨(blk_cell BK333.out 0).trans rfl, (blk_cell BK333.out 1).trans rfl, (blk_cell BK333.out 2).trans rfl, (blk_cell BK333.out 3).trans rfl, (blk_cell BK333.out 4).trans rfl, (blk_cell BK334.out 0).trans rfl, (blk_cell BK334.out 1).trans rfl⟩ (fun hHeld => ?_)
                  clear hK K
                  refine norm_ (a' := ?_) ?_ ?_
                  rotate_left
                  · show Act.put _ (some 23) _ = _
                    simp only [Act.put, List.setIfInBounds_toArray, List.set_cons_zero, List.set_cons_succ, i64_w, i32_w]
                    rfl
                  refine two_ (i := 3) (j := 7) (Ni := some 25) (Nj := some 13) #[true, true, true, true, false, false, false, false, false, false] #[true, true, true, false, false, false, false, true, false, false] rfl rfl rfl rfl (two_of HT_.out (by kernel_rfl)) (by decide) (by decide) (fun K hK => ?_) (fun K hK => ?_)
                  · skip
                    refine goes_ Try.func22 (by kernel_rfl) rfl #[.agg #[.int .u64 t335, .int .u64 t336, .int .u64 t337, .int .u64 t338, .int .i64 t339], .agg #[.int .u64 a1_0, .int .u64 a1_1]] (by rfl) rfl rfl (by (try simp only [List.map_toArray, List.map_cons, List.map_nil]); first | done | rfl | (simp only [List.length_drop, List.length_take]; rfl)) ?_
                    with_reducible refine (register_Prepare.calls k t335 t336 t337 t338 t339 a1_0 a1_1 t340 t341 t342 t343 t344 t345 _ A8.out).mono ?_
                    rintro e w33 ⟨rfl, hb⟩
                    refine ⟨_, rfl, ?_⟩
                    have n0_ := Aside0.mk (blk_below (g := gb333) (o := .cells #[.int .u64 a0_0, .int .u64 a0_1, .int .u64 a0_2, .int .u64 a0_3, .int .i64 a0_4] 40 (0, 0)) (by (with_reducible repeat (first | refine blk_drewN ?_ _ | refine blk_drew ?_ | refine blk_alloc ?_ _)); exact BK333.out) hb)
                    have n1_ := Aside0.mk (blk_below (g := gb334) (o := .cells #[.int .u64 a1_0, .int .u64 a1_1] 24 (0, 0)) (by (with_reducible repeat (first | refine blk_drewN ?_ _ | refine blk_drew ?_ | refine blk_alloc ?_ _)); exact BK334.out) hb)
                    have n2_ := Aside0.mk (below_step (by repeat (first | (with_reducible first | exact HB.out | apply below_alloc | apply pw_below_drewN | apply below_drew1 | refine below_set ?_ GE333.out | refine below_set ?_ GE334.out) | exact HB.out)) hb)
                    clear BK333
                    clear BK334
                    clear HB
                    have BK333 := n0_
                    have BK334 := n1_
                    have HB := n2_
                    clear n0_ n1_ n2_
                    (try clear hb)
                    (try clear hb2)
                    (try clear hk)
                    (try clear hi)
                    refine hK.out _ _ ⟨(blk_cell BK333.out 0).trans rfl, (blk_cell BK333.out 1).trans rfl, (blk_cell BK333.out 2).trans rfl, (blk_cell BK333.out 3).trans rfl, (blk_cell BK333.out 4).trans rfl, (blk_cell BK334.out 0).trans rfl, (blk_cell BK334.out 1).trans rfl⟩ (fun hHeld => ?_)
                    clear hK K
                    refine norm_ (a' := ?_) ?_ ?_
                    rotate_left
                    · show Act.put _ (some 25) _ = _
                      simp only [Act.put, List.setIfInBounds_toArray, List.set_cons_zero, List.set_cons_succ, i64_w, i32_w]
                      rfl
                    refine pure_ (i := 4) (N := some 21) (v := ?_) (a' := ?_) #[true, true, true, true, true, false, false, false, false, false] rfl rfl (any_of HT_.out (by kernel_rfl)) (fun _ _ _ h => h) (Or.inl ⟨by rfl, ?_⟩) ?_ ?_
                    rotate_left
                    · intro w'
                      go_simp
                      with_reducible rfl
                    rotate_left
                    · simp only [Act.put, List.setIfInBounds_toArray, List.set_cons_zero, List.set_cons_succ, i64_w, i32_w]
                      rfl
                    refine pure_ (i := 5) (N := some 26) (v := ?_) (a' := ?_) #[true, true, true, true, true, true, false, false, false, false] rfl rfl (any_of HT_.out (by kernel_rfl)) (fun _ _ _ h => h) (Or.inl ⟨by rfl, ?_⟩) ?_ ?_
                    rotate_left
                    · intro w'
                      go_simp
                      with_reducible rfl
                    rotate_left
                    · simp only [Act.put, List.setIfInBounds_toArray, List.set_cons_zero, List.set_cons_succ, i64_w, i32_w]
                      rfl
                    refine pure_ (i := 6) (N := some 27) (v := ?_) (a' := ?_) #[true, true, true, true, true, true, true, false, false, false] rfl rfl (any_of HT_.out (by kernel_rfl)) (fun _ _ _ h => h) (Or.inl ⟨by rfl, ?_⟩) ?_ ?_
                    rotate_left
                    · intro w'
                      go_simp
                      with_reducible rfl
                    rotate_left
                    · simp only [Act.put, List.setIfInBounds_toArray, List.set_cons_zero, List.set_cons_succ, i64_w, i32_w]
                      rfl
                    refine one_ (i := 7) (N := some 13) #[true, true, true, true, true, true, true, true, false, false] rfl rfl (one_of HT_.out (by kernel_rfl)) (by decide) (fun K hK => ?_)
                    refine box_step ?hg (N := 13) ?hd (cs := #[.int .u64 0, .int .u64 0, .int .u64 0, .int .u64 0, .int .i64 0]) (t := 42) ?hr ?_; (case hd => rfl); (case hg => rfl); (case hr => first | (go_simp; done) | (go_simp; rfl))
                    intro gb346 hg w34 hbox hb
                    have n0_ := Aside0.mk (blk_below (g := gb333) (o := .cells #[.int .u64 a0_0, .int .u64 a0_1, .int .u64 a0_2, .int .u64 a0_3, .int .i64 a0_4] 40 (0, 0)) (by (with_reducible repeat (first | refine blk_drewN ?_ _ | refine blk_drew ?_ | refine blk_alloc ?_ _)); exact BK333.out) hb)
                    have n1_ := Aside0.mk (blk_below (g := gb334) (o := .cells #[.int .u64 a1_0, .int .u64 a1_1] 24 (0, 0)) (by (with_reducible repeat (first | refine blk_drewN ?_ _ | refine blk_drew ?_ | refine blk_alloc ?_ _)); exact BK334.out) hb)
                    have n2_ := Aside0.mk (below_step (by repeat (first | (with_reducible first | exact HB.out | apply below_alloc | apply pw_below_drewN | apply below_drew1 | refine below_set ?_ GE333.out | refine below_set ?_ GE334.out) | exact HB.out)) hb)
                    have n3_ := Aside0.mk (hbox)
                    have n4_ := Aside0.mk ((by rw [hg]; exact (below_size (by repeat (first | (with_reducible first | exact HB.out | apply below_alloc | apply pw_below_drewN | apply below_drew1 | refine below_set ?_ GE333.out | refine below_set ?_ GE334.out) | exact HB.out))) : w.heap.size ≤ gb346))
                    have n5_ := Aside0.mk ((by rw [hg]; exact (below_size (by repeat (first | (with_reducible first | exact HB.out | apply below_alloc | apply pw_below_drewN | apply below_drew1 | refine below_set ?_ GE333.out | refine below_set ?_ GE334.out) | exact HB.out))) : w.heap.size ≤ gb346))
                    have n6_ := Aside0.mk ((by rw [hg]; exact Nat.ne_of_lt (blk_lt (g := gb333) (o := .cells #[.int .u64 a0_0, .int .u64 a0_1, .int .u64 a0_2, .int .u64 a0_3, .int .i64 a0_4] 40 (0, 0)) (by (with_reducible repeat (first | refine blk_drewN ?_ _ | refine blk_drew ?_ | refine blk_alloc ?_ _)); exact BK333.out)) : gb333 ≠ gb346))
                    have n7_ := Aside0.mk ((by rw [hg]; exact Nat.ne_of_gt (blk_lt (g := gb333) (o := .cells #[.int .u64 a0_0, .int .u64 a0_1, .int .u64 a0_2, .int .u64 a0_3, .int .i64 a0_4] 40 (0, 0)) (by (with_reducible repeat (first | refine blk_drewN ?_ _ | refine blk_drew ?_ | refine blk_alloc ?_ _)); exact BK333.out)) : gb346 ≠ gb333))
                    have n8_ := Aside0.mk ((by rw [hg]; exact Nat.ne_of_lt (blk_lt (g := gb334) (o := .cells #[.int .u64 a1_0, .int .u64 a1_1] 24 (0, 0)) (by (with_reducible repeat (first | refine blk_drewN ?_ _ | refine blk_drew ?_ | refine blk_alloc ?_ _)); exact BK334.out)) : gb334 ≠ gb346))
                    have n9_ := Aside0.mk ((by rw [hg]; exact Nat.ne_of_gt (blk_lt (g := gb334) (o := .cells #[.int .u64 a1_0, .int .u64 a1_1] 24 (0, 0)) (by (with_reducible repeat (first | refine blk_drewN ?_ _ | refine blk_drew ?_ | refine blk_alloc ?_ _)); exact BK334.out)) : gb346 ≠ gb334))
                    clear BK333
                    clear BK334
                    clear HB
                    have BK333 := n0_
                    have BK334 := n1_
                    have HB := n2_
                    have BK346 := n3_
                    have GW346 := n4_
                    have GE346 := n5_
                    have NB333_346 := n6_
                    have NB346_333 := n7_
                    have NB334_346 := n8_
                    have NB346_334 := n9_
                    clear n0_ n1_ n2_ n3_ n4_ n5_ n6_ n7_ n8_ n9_
                    clear hb hbox hg
                    refine hK.out _ _ ⟨(blk_cell BK333.out 0).trans rfl, (blk_cell BK333.out 1).trans rfl, (blk_cell BK333.out 2).trans rfl, (blk_cell BK333.out 3).trans rfl, (blk_cell BK333.out 4).trans rfl, (blk_cell BK334.out 0).trans rfl, (blk_cell BK334.out 1).trans rfl⟩ (fun hHeld => ?_)
                    clear hK K
                    refine norm_ (a' := ?_) ?_ ?_
                    rotate_left
                    · show Act.put _ (some 13) _ = _
                      simp only [Act.put, List.setIfInBounds_toArray, List.set_cons_zero, List.set_cons_succ, i64_w, i32_w]
                      rfl
                    exact norm_ (by simp only [putAll, Act.put, List.setIfInBounds_toArray, List.set_cons_zero, List.set_cons_succ]) (hCont (gb346) _ ⟨hHeld, (by (with_reducible repeat (first | refine blk_drewN ?_ _ | refine blk_drew ?_ | refine blk_alloc ?_ _)); exact BK333.out), (by (with_reducible repeat (first | refine blk_drewN ?_ _ | refine blk_drew ?_ | refine blk_alloc ?_ _)); exact BK334.out), (by (with_reducible repeat (first | refine blk_drewN ?_ _ | refine blk_drew ?_ | refine blk_alloc ?_ _)); exact BK346.out), GW346.out, GE346.out, NB333_346.out, NB346_333.out, NB334_346.out, NB346_334.out, (by repeat (first | (with_reducible first | exact HB.out | apply below_alloc | apply pw_below_drewN | apply below_drew1 | refine below_set ?_ GE333.out | refine below_set ?_ GE334.out | refine below_set ?_ GE346.out) | exact HB.out))⟩)
                  · skip
                    refine box_step ?hg (N := 13) ?hd (cs := #[.int .u64 0, .int .u64 0, .int .u64 0, .int .u64 0, .int .i64 0]) (t := 42) ?hr ?_; (case hd => rfl); (case hg => rfl); (case hr => first | (go_simp; done) | (go_simp; rfl))
                    intro gb346 hg w33 hbox hb
                    have n0_ := Aside0.mk (blk_below (g := gb333) (o := .cells #[.int .u64 a0_0, .int .u64 a0_1, .int .u64 a0_2, .int .u64 a0_3, .int .i64 a0_4] 40 (0, 0)) (by (with_reducible repeat (first | refine blk_drewN ?_ _ | refine blk_drew ?_ | refine blk_alloc ?_ _)); exact BK333.out) hb)
                    have n1_ := Aside0.mk (blk_below (g := gb334) (o := .cells #[.int .u64 a1_0, .int .u64 a1_1] 24 (0, 0)) (by (with_reducible repeat (first | refine blk_drewN ?_ _ | refine blk_drew ?_ | refine blk_alloc ?_ _)); exact BK334.out) hb)
                    have n2_ := Aside0.mk (below_step (by repeat (first | (with_reducible first | exact HB.out | apply below_alloc | apply pw_below_drewN | apply below_drew1 | refine below_set ?_ GE333.out | refine below_set ?_ GE334.out) | exact HB.out)) hb)
                    have n3_ := Aside0.mk (hbox)
                    have n4_ := Aside0.mk ((by rw [hg]; exact (below_size (by repeat (first | (with_reducible first | exact HB.out | apply below_alloc | apply pw_below_drewN | apply below_drew1 | refine below_set ?_ GE333.out | refine below_set ?_ GE334.out) | exact HB.out))) : w.heap.size ≤ gb346))
                    have n5_ := Aside0.mk ((by rw [hg]; exact (below_size (by repeat (first | (with_reducible first | exact HB.out | apply below_alloc | apply pw_below_drewN | apply below_drew1 | refine below_set ?_ GE333.out | refine below_set ?_ GE334.out) | exact HB.out))) : w.heap.size ≤ gb346))
                    have n6_ := Aside0.mk ((by rw [hg]; exact Nat.ne_of_lt (blk_lt (g := gb333) (o := .cells #[.int .u64 a0_0, .int .u64 a0_1, .int .u64 a0_2, .int .u64 a0_3, .int .i64 a0_4] 40 (0, 0)) (by (with_reducible repeat (first | refine blk_drewN ?_ _ | refine blk_drew ?_ | refine blk_alloc ?_ _)); exact BK333.out)) : gb333 ≠ gb346))
                    have n7_ := Aside0.mk ((by rw [hg]; exact Nat.ne_of_gt (blk_lt (g := gb333) (o := .cells #[.int .u64 a0_0, .int .u64 a0_1, .int .u64 a0_2, .int .u64 a0_3, .int .i64 a0_4] 40 (0, 0)) (by (with_reducible repeat (first | refine blk_drewN ?_ _ | refine blk_drew ?_ | refine blk_alloc ?_ _)); exact BK333.out)) : gb346 ≠ gb333))
                    have n8_ := Aside0.mk ((by rw [hg]; exact Nat.ne_of_lt (blk_lt (g := gb334) (o := .cells #[.int .u64 a1_0, .int .u64 a1_1] 24 (0, 0)) (by (with_reducible repeat (first | refine blk_drewN ?_ _ | refine blk_drew ?_ | refine blk_alloc ?_ _)); exact BK334.out)) : gb334 ≠ gb346))
                    have n9_ := Aside0.mk ((by rw [hg]; exact Nat.ne_of_gt (blk_lt (g := gb334) (o := .cells #[.int .u64 a1_0, .int .u64 a1_1] 24 (0, 0)) (by (with_reducible repeat (first | refine blk_drewN ?_ _ | refine blk_drew ?_ | refine blk_alloc ?_ _)); exact BK334.out)) : gb346 ≠ gb334))
                    clear BK333
                    clear BK334
                    clear HB
                    have BK333 := n0_
                    have BK334 := n1_
                    have HB := n2_
                    have BK346 := n3_
                    have GW346 := n4_
                    have GE346 := n5_
                    have NB333_346 := n6_
                    have NB346_333 := n7_
                    have NB334_346 := n8_
                    have NB346_334 := n9_
                    clear n0_ n1_ n2_ n3_ n4_ n5_ n6_ n7_ n8_ n9_
                    clear hb hbox hg
                    refine hK.out _ _ ⟨(blk_cell BK333.out 0).trans rfl, (blk_cell BK333.out 1).trans rfl, (blk_cell BK333.out 2).trans rfl, (blk_cell BK333.out 3).trans rfl, (blk_cell BK333.out 4).trans rfl, (blk_cell BK334.out 0).trans rfl, (blk_cell BK334.out 1).trans rfl⟩ (fun hHeld => ?_)
                    clear hK K
                    refine norm_ (a' := ?_) ?_ ?_
                    rotate_left
                    · show Act.put _ (some 13) _ = _
                      simp only [Act.put, List.setIfInBounds_toArray, List.set_cons_zero, List.set_cons_succ, i64_w, i32_w]
                      rfl
                    refine one_ (i := 3) (N := some 25) #[true, true, true, true, false, false, false, true, false, false] rfl rfl (one_of HT_.out (by kernel_rfl)) (by decide) (fun K hK => ?_)
                    refine goes_ Try.func22 (by kernel_rfl) rfl #[.agg #[.int .u64 t335, .int .u64 t336, .int .u64 t337, .int .u64 t338, .int .i64 t339], .agg #[.int .u64 a1_0, .int .u64 a1_1]] (by rfl) rfl rfl (by (try simp only [List.map_toArray, List.map_cons, List.map_nil]); first | done | rfl | (simp only [List.length_drop, List.length_take]; rfl)) ?_
                    with_reducible refine (register_Prepare.calls k t335 t336 t337 t338 t339 a1_0 a1_1 t340 t341 t342 t343 t344 t345 _ A8.out).mono ?_
                    rintro e w34 ⟨rfl, hb⟩
                    refine ⟨_, rfl, ?_⟩
                    have n0_ := Aside0.mk (blk_below (g := gb333) (o := .cells #[.int .u64 a0_0, .int .u64 a0_1, .int .u64 a0_2, .int .u64 a0_3, .int .i64 a0_4] 40 (0, 0)) (by (with_reducible repeat (first | refine blk_drewN ?_ _ | refine blk_drew ?_ | refine blk_alloc ?_ _)); exact BK333.out) hb)
                    have n1_ := Aside0.mk (blk_below (g := gb334) (o := .cells #[.int .u64 a1_0, .int .u64 a1_1] 24 (0, 0)) (by (with_reducible repeat (first | refine blk_drewN ?_ _ | refine blk_drew ?_ | refine blk_alloc ?_ _)); exact BK334.out) hb)
                    have n2_ := Aside0.mk (blk_below (g := gb346) (o := .cells #[.int .u64 0, .int .u64 0, .int .u64 0, .int .u64 0, .int .i64 0] 42 (0, 0)) (by (with_reducible repeat (first | refine blk_drewN ?_ _ | refine blk_drew ?_ | refine blk_alloc ?_ _)); exact BK346.out) hb)
                    have n3_ := Aside0.mk (below_step (by repeat (first | (with_reducible first | exact HB.out | apply below_alloc | apply pw_below_drewN | apply below_drew1 | refine below_set ?_ GE333.out | refine below_set ?_ GE334.out | refine below_set ?_ GE346.out) | exact HB.out)) hb)
                    clear BK333
                    clear BK334
                    clear BK346
                    clear HB
                    have BK333 := n0_
                    have BK334 := n1_
                    have BK346 := n2_
                    have HB := n3_
                    clear n0_ n1_ n2_ n3_
                    (try clear hb)
                    (try clear hb2)
                    (try clear hk)
                    (try clear hi)
                    refine hK.out _ _ ⟨(blk_cell BK333.out 0).trans rfl, (blk_cell BK333.out 1).trans rfl, (blk_cell BK333.out 2).trans rfl, (blk_cell BK333.out 3).trans rfl, (blk_cell BK333.out 4).trans rfl, (blk_cell BK334.out 0).trans rfl, (blk_cell BK334.out 1).trans rfl⟩ (fun hHeld => ?_)
                    clear hK K
                    refine norm_ (a' := ?_) ?_ ?_
                    rotate_left
                    · show Act.put _ (some 25) _ = _
                      simp only [Act.put, List.setIfInBounds_toArray, List.set_cons_zero, List.set_cons_succ, i64_w, i32_w]
                      rfl
                    refine pure_ (i := 4) (N := some 21) (v := ?_) (a' := ?_) #[true, true, true, true, true, false, false, true, false, false] rfl rfl (any_of HT_.out (by kernel_rfl)) (fun _ _ _ h => h) (Or.inl ⟨by rfl, ?_⟩) ?_ ?_
                    rotate_left
                    · intro w'
                      go_simp
                      with_reducible rfl
                    rotate_left
                    · simp only [Act.put, List.setIfInBounds_toArray, List.set_cons_zero, List.set_cons_succ, i64_w, i32_w]
                      rfl
                    refine pure_ (i := 5) (N := some 26) (v := ?_) (a' := ?_) #[true, true, true, true, true, true, false, true, false, false] rfl rfl (any_of HT_.out (by kernel_rfl)) (fun _ _ _ h => h) (Or.inl ⟨by rfl, ?_⟩) ?_ ?_
                    rotate_left
                    · intro w'
                      go_simp
                      with_reducible rfl
                    rotate_left
                    · simp only [Act.put, List.setIfInBounds_toArray, List.set_cons_zero, List.set_cons_succ, i64_w, i32_w]
                      rfl
                    refine pure_ (i := 6) (N := some 27) (v := ?_) (a' := ?_) #[true, true, true, true, true, true, true, true, false, false] rfl rfl (any_of HT_.out (by kernel_rfl)) (fun _ _ _ h => h) (Or.inl ⟨by rfl, ?_⟩) ?_ ?_
                    rotate_left
                    · intro w'
                      go_simp
                      with_reducible rfl
                    rotate_left
                    · simp only [Act.put, List.setIfInBounds_toArray, List.set_cons_zero, List.set_cons_succ, i64_w, i32_w]
                      rfl
                    exact norm_ (by simp only [putAll, Act.put, List.setIfInBounds_toArray, List.set_cons_zero, List.set_cons_succ]) (hCont (gb346) _ ⟨hHeld, (by (with_reducible repeat (first | refine blk_drewN ?_ _ | refine blk_drew ?_ | refine blk_alloc ?_ _)); exact BK333.out), (by (with_reducible repeat (first | refine blk_drewN ?_ _ | refine blk_drew ?_ | refine blk_alloc ?_ _)); exact BK334.out), (by (with_reducible repeat (first | refine blk_drewN ?_ _ | refine blk_drew ?_ | refine blk_alloc ?_ _)); exact BK346.out), GW346.out, GE346.out, NB333_346.out, NB346_333.out, NB334_346.out, NB346_334.out, (by repeat (first | (with_reducible first | exact HB.out | apply below_alloc | apply pw_below_drewN | apply below_drew1 | refine below_set ?_ GE333.out | refine below_set ?_ GE334.out | refine below_set ?_ GE346.out) | exact HB.out))⟩)
                · skip
                  refine box_step ?hg (N := 13) ?hd (cs := #[.int .u64 0, .int .u64 0, .int .u64 0, .int .u64 0, .int .i64 0]) (t := 42) ?hr ?_; (case hd => rfl); (case hg => rfl); (case hr => first | (go_simp; done) | (go_simp; rfl))
                  intro gb346 hg w32 hbox hb
                  have n0_ := Aside0.mk (blk_below (g := gb333) (o := .cells #[.int .u64 a0_0, .int .u64 a0_1, .int .u64 a0_2, .int .u64 a0_3, .int .i64 a0_4] 40 (0, 0)) (by (with_reducible repeat (first | refine blk_drewN ?_ _ | refine blk_drew ?_ | refine blk_alloc ?_ _)); exact BK333.out) hb)
                  have n1_ := Aside0.mk (blk_below (g := gb334) (o := .cells #[.int .u64 a1_0, .int .u64 a1_1] 24 (0, 0)) (by (with_reducible repeat (first | refine blk_drewN ?_ _ | refine blk_drew ?_ | refine blk_alloc ?_ _)); exact BK334.out) hb)
                  have n2_ := Aside0.mk (below_step (by repeat (first | (with_reducible first | exact HB.out | apply below_alloc | apply pw_below_drewN | apply below_drew1 | refine below_set ?_ GE333.out | refine below_set ?_ GE334.out) | exact HB.out)) hb)
                  have n3_ := Aside0.mk (hbox)
                  have n4_ := Aside0.mk ((by rw [hg]; exact (below_size (by repeat (first | (with_reducible first | exact HB.out | apply below_alloc | apply pw_below_drewN | apply below_drew1 | refine below_set ?_ GE333.out | refine below_set ?_ GE334.out) | exact HB.out))) : w.heap.size ≤ gb346))
                  have n5_ := Aside0.mk ((by rw [hg]; exact (below_size (by repeat (first | (with_reducible first | exact HB.out | apply below_alloc | apply pw_below_drewN | apply below_drew1 | refine below_set ?_ GE333.out | refine below_set ?_ GE334.out) | exact HB.out))) : w.heap.size ≤ gb346))
                  have n6_ := Aside0.mk ((by rw [hg]; exact Nat.ne_of_lt (blk_lt (g := gb333) (o := .cells #[.int .u64 a0_0, .int .u64 a0_1, .int .u64 a0_2, .int .u64 a0_3, .int .i64 a0_4] 40 (0, 0)) (by (with_reducible repeat (first | refine blk_drewN ?_ _ | refine blk_drew ?_ | refine blk_alloc ?_ _)); exact BK333.out)) : gb333 ≠ gb346))
                  have n7_ := Aside0.mk ((by rw [hg]; exact Nat.ne_of_gt (blk_lt (g := gb333) (o := .cells #[.int .u64 a0_0, .int .u64 a0_1, .int .u64 a0_2, .int .u64 a0_3, .int .i64 a0_4] 40 (0, 0)) (by (with_reducible repeat (first | refine blk_drewN ?_ _ | refine blk_drew ?_ | refine blk_alloc ?_ _)); exact BK333.out)) : gb346 ≠ gb333))
                  have n8_ := Aside0.mk ((by rw [hg]; exact Nat.ne_of_lt (blk_lt (g := gb334) (o := .cells #[.int .u64 a1_0, .int .u64 a1_1] 24 (0, 0)) (by (with_reducible repeat (first | refine blk_drewN ?_ _ | refine blk_drew ?_ | refine blk_alloc ?_ _)); exact BK334.out)) : gb334 ≠ gb346))
                  have n9_ := Aside0.mk ((by rw [hg]; exact Nat.ne_of_gt (blk_lt (g := gb334) (o := .cells #[.int .u64 a1_0, .int .u64 a1_1] 24 (0, 0)) (by (with_reducible repeat (first | refine blk_drewN ?_ _ | refine blk_drew ?_ | refine blk_alloc ?_ _)); exact BK334.out)) : gb346 ≠ gb334))
                  clear BK333
                  clear BK334
                  clear HB
                  have BK333 := n0_
                  have BK334 := n1_
                  have HB := n2_
                  have BK346 := n3_
                  have GW346 := n4_
                  have GE346 := n5_
                  have NB333_346 := n6_
                  have NB346_333 := n7_
                  have NB334_346 := n8_
                  have NB346_334 := n9_
                  clear n0_ n1_ n2_ n3_ n4_ n5_ n6_ n7_ n8_ n9_
                  clear hb hbox hg
                  refine hK.out _ _ ⟨(blk_cell BK333.out 0).trans rfl, (blk_cell BK333.out 1).trans rfl, (blk_cell BK333.out 2).trans rfl, (blk_cell BK333.out 3).trans rfl, (blk_cell BK333.out 4).trans rfl, (blk_cell BK334.out 0).trans rfl, (blk_cell BK334.out 1).trans rfl⟩ (fun hHeld => ?_)
                  clear hK K
                  refine norm_ (a' := ?_) ?_ ?_
                  rotate_left
                  · show Act.put _ (some 13) _ = _
                    simp only [Act.put, List.setIfInBounds_toArray, List.set_cons_zero, List.set_cons_succ, i64_w, i32_w]
                    rfl
                  refine one_ (i := 1) (N := some 23) #[true, true, true, false, false, false, false, true, false, false] rfl rfl (one_of HT_.out (by kernel_rfl)) (by decide) (fun K hK => ?_)
                  refine goes_ Try.func23 (by kernel_rfl) rfl #[.agg #[.int .u64 a0_0, .int .u64 a0_1, .int .u64 a0_2, .int .u64 a0_3, .int .i64 a0_4]] (by rfl) rfl rfl (by (try simp only [List.map_toArray, List.map_cons, List.map_nil]); first | done | rfl | (simp only [List.length_drop, List.length_take]; rfl)) ?_
                  with_reducible refine (winnowlaw12_own.calls a0_0 a0_1 a0_2 a0_3 a0_4 t335 t336 t337 t338 t339 _ A7.out).mono ?_
                  rintro e w33 ⟨rfl, hb⟩
                  refine ⟨_, rfl, ?_⟩
                  have n0_ := Aside0.mk (blk_below (g := gb333) (o := .cells #[.int .u64 a0_0, .int .u64 a0_1, .int .u64 a0_2, .int .u64 a0_3, .int .i64 a0_4] 40 (0, 0)) (by (with_reducible repeat (first | refine blk_drewN ?_ _ | refine blk_drew ?_ | refine blk_alloc ?_ _)); exact BK333.out) hb)
                  have n1_ := Aside0.mk (blk_below (g := gb334) (o := .cells #[.int .u64 a1_0, .int .u64 a1_1] 24 (0, 0)) (by (with_reducible repeat (first | refine blk_drewN ?_ _ | refine blk_drew ?_ | refine blk_alloc ?_ _)); exact BK334.out) hb)
                  have n2_ := Aside0.mk (blk_below (g := gb346) (o := .cells #[.int .u64 0, .int .u64 0, .int .u64 0, .int .u64 0, .int .i64 0] 42 (0, 0)) (by (with_reducible repeat (first | refine blk_drewN ?_ _ | refine blk_drew ?_ | refine blk_alloc ?_ _)); exact BK346.out) hb)
                  have n3_ := Aside0.mk (below_step (by repeat (first | (with_reducible first | exact HB.out | apply below_alloc | apply pw_below_drewN | apply below_drew1 | refine below_set ?_ GE333.out | refine below_set ?_ GE334.out | refine below_set ?_ GE346.out) | exact HB.out)) hb)
                  clear BK333
                  clear BK334
                  clear BK346
                  clear HB
                  have BK333 := n0_
                  have BK334 := n1_
                  have BK346 := n2_
                  have HB := n3_
                  clear n0_ n1_ n2_ n3_
                  (try clear hb)
                  (try clear hb2)
                  (try clear hk)
                  (try clear hi)
                  refine hK.out _ _ ⟨(blk_cell BK333.out 0).trans rfl, (blk_cell BK333.out 1).trans rfl, (blk_cell BK333.out 2).trans rfl, (blk_cell BK333.out 3).trans rfl, (blk_cell BK333.out 4).trans rfl, (blk_cell BK334.out 0).trans rfl, (blk_cell BK334.out 1).trans rfl⟩ (fun hHeld => ?_)
                  clear hK K
                  refine norm_ (a' := ?_) ?_ ?_
                  rotate_left
                  · show Act.put _ (some 23) _ = _
                    simp only [Act.put, List.setIfInBounds_toArray, List.set_cons_zero, List.set_cons_succ, i64_w, i32_w]
                    rfl
                  refine one_ (i := 3) (N := some 25) #[true, true, true, true, false, false, false, true, false, false] rfl rfl (one_of HT_.out (by kernel_rfl)) (by decide) (fun K hK => ?_)
                  refine goes_ Try.func22 (by kernel_rfl) rfl #[.agg #[.int .u64 t335, .int .u64 t336, .int .u64 t337, .int .u64 t338, .int .i64 t339], .agg #[.int .u64 a1_0, .int .u64 a1_1]] (by rfl) rfl rfl (by (try simp only [List.map_toArray, List.map_cons, List.map_nil]); first | done | rfl | (simp only [List.length_drop, List.length_take]; rfl)) ?_
                  with_reducible refine (register_Prepare.calls k t335 t336 t337 t338 t339 a1_0 a1_1 t340 t341 t342 t343 t344 t345 _ A8.out).mono ?_
                  rintro e w34 ⟨rfl, hb⟩
                  refine ⟨_, rfl, ?_⟩
                  have n0_ := Aside0.mk (blk_below (g := gb333) (o := .cells #[.int .u64 a0_0, .int .u64 a0_1, .int .u64 a0_2, .int .u64 a0_3, .int .i64 a0_4] 40 (0, 0)) (by (with_reducible repeat (first | refine blk_drewN ?_ _ | refine blk_drew ?_ | refine blk_alloc ?_ _)); exact BK333.out) hb)
                  have n1_ := Aside0.mk (blk_below (g := gb334) (o := .cells #[.int .u64 a1_0, .int .u64 a1_1] 24 (0, 0)) (by (with_reducible repeat (first | refine blk_drewN ?_ _ | refine blk_drew ?_ | refine blk_alloc ?_ _)); exact BK334.out) hb)
                  have n2_ := Aside0.mk (blk_below (g := gb346) (o := .cells #[.int .u64 0, .int .u64 0, .int .u64 0, .int .u64 0, .int .i64 0] 42 (0, 0)) (by (with_reducible repeat (first | refine blk_drewN ?_ _ | refine blk_drew ?_ | refine blk_alloc ?_ _)); exact BK346.out) hb)
                  have n3_ := Aside0.mk (below_step (by repeat (first | (with_reducible first | exact HB.out | apply below_alloc | apply pw_below_drewN | apply below_drew1 | refine below_set ?_ GE333.out | refine below_set ?_ GE334.out | refine below_set ?_ GE346.out) | exact HB.out)) hb)
                  clear BK333
                  clear BK334
                  clear BK346
                  clear HB
                  have BK333 := n0_
                  have BK334 := n1_
                  have BK346 := n2_
                  have HB := n3_
                  clear n0_ n1_ n2_ n3_
                  (try clear hb)
                  (try clear hb2)
                  (try clear hk)
                  (try clear hi)
                  refine hK.out _ _ ⟨(blk_cell BK333.out 0).trans rfl, (blk_cell BK333.out 1).trans rfl, (blk_cell BK333.out 2).trans rfl, (blk_cell BK333.out 3).trans rfl, (blk_cell BK333.out 4).trans rfl, (blk_cell BK334.out 0).trans rfl, (blk_cell BK334.out 1).trans rfl⟩ (fun hHeld => ?_)
                  clear hK K
                  refine norm_ (a' := ?_) ?_ ?_
                  rotate_left
                  · show Act.put _ (some 25) _ = _
                    simp only [Act.put, List.setIfInBounds_toArray, List.set_cons_zero, List.set_cons_succ, i64_w, i32_w]
                    rfl
                  refine pure_ (i := 4) (N := some 21) (v := ?_) (a' := ?_) #[true, true, true, true, true, false, false, true, false, false] rfl rfl (any_of HT_.out (by kernel_rfl)) (fun _ _ _ h => h) (Or.inl ⟨by rfl, ?_⟩) ?_ ?_
                  rotate_left
                  · intro w'
                    go_simp
                    with_reducible rfl
                  rotate_left
                  · simp only [Act.put, List.setIfInBounds_toArray, List.set_cons_zero, List.set_cons_succ, i64_w, i32_w]
                    rfl
                  refine pure_ (i := 5) (N := some 26) (v := ?_) (a' := ?_) #[true, true, true, true, true, true, false, true, false, false] rfl rfl (any_of HT_.out (by kernel_rfl)) (fun _ _ _ h => h) (Or.inl ⟨by rfl, ?_⟩) ?_ ?_
                  rotate_left
                  · intro w'
                    go_simp
                    with_reducible rfl
                  rotate_left
                  · simp only [Act.put, List.setIfInBounds_toArray, List.set_cons_zero, List.set_cons_succ, i64_w, i32_w]
                    rfl
                  refine pure_ (i := 6) (N := some 27) (v := ?_) (a' := ?_) #[true, true, true, true, true, true, true, true, false, false] rfl rfl (any_of HT_.out (by kernel_rfl)) (fun _ _ _ h => h) (Or.inl ⟨by rfl, ?_⟩) ?_ ?_
                  rotate_left
                  · intro w'
                    go_simp
                    with_reducible rfl
                  rotate_left
                  · simp only [Act.put, List.setIfInBounds_toArray, List.set_cons_zero, List.set_cons_succ, i64_w, i32_w]
                    rfl
                  exact norm_ (by simp only [putAll, Act.put, List.setIfInBounds_toArray, List.set_cons_zero, List.set_cons_succ]) (hCont (gb346) _ ⟨hHeld, (by (with_reducible repeat (first | refine blk_drewN ?_ _ | refine blk_drew ?_ | refine blk_alloc ?_ _)); exact BK333.out), (by (with_reducible repeat (first | refine blk_drewN ?_ _ | refine blk_drew ?_ | refine blk_alloc ?_ _)); exact BK334.out), (by (with_reducible repeat (first | refine blk_drewN ?_ _ | refine blk_drew ?_ | refine blk_alloc ?_ _)); exact BK346.out), GW346.out, GE346.out, NB333_346.out, NB346_333.out, NB334_346.out, NB346_334.out, (by repeat (first | (with_reducible first | exact HB.out | apply below_alloc | apply pw_below_drewN | apply below_drew1 | refine below_set ?_ GE333.out | refine below_set ?_ GE334.out | refine below_set ?_ GE346.out) | exact HB.out))⟩)
              rintro gb346 w35 ⟨hS_, h0_, h1_, h2_, h3_, h4_, h5_, h6_, h7_, h8_, h9_⟩
              have n0_ : Aside0 (w35.heap[gb333]? = some (.cells #[.int .u64 a0_0, .int .u64 a0_1, .int .u64 a0_2, .int .u64 a0_3, .int .i64 a0_4] 40 (0, 0))) := ⟨h0_⟩
              have n1_ : Aside0 (w35.heap[gb334]? = some (.cells #[.int .u64 a1_0, .int .u64 a1_1] 24 (0, 0))) := ⟨h1_⟩
              have n2_ : Aside0 (w35.heap[gb346]? = some (.cells #[.int .u64 0, .int .u64 0, .int .u64 0, .int .u64 0, .int .i64 0] 42 (0, 0))) := ⟨h2_⟩
              have n3_ : Aside0 (w.heap.size ≤ gb346) := ⟨h3_⟩
              have n4_ : Aside0 (w.heap.size ≤ gb346) := ⟨h4_⟩
              have n5_ : Aside0 (gb333 ≠ gb346) := ⟨h5_⟩
              have n6_ : Aside0 (gb346 ≠ gb333) := ⟨h6_⟩
              have n7_ : Aside0 (gb334 ≠ gb346) := ⟨h7_⟩
              have n8_ : Aside0 (gb346 ≠ gb334) := ⟨h8_⟩
              have n9_ : Aside0 (Below w.heap.size w w35) := ⟨h9_⟩
              clear BK333
              clear BK334
              clear HB
              clear h0_ h1_ h2_ h3_ h4_ h5_ h6_ h7_ h8_ h9_
              have BK333 := n0_
              have BK334 := n1_
              have BK346 := n2_
              have GW346 := n3_
              have GE346 := n4_
              have NB333_346 := n5_
              have NB346_333 := n6_
              have NB334_346 := n7_
              have NB346_334 := n8_
              have HB := n9_
              clear n0_ n1_ n2_ n3_ n4_ n5_ n6_ n7_ n8_ n9_
              have hHeld : w35.cell? ⟨gb333, 0, none⟩ = some (.int .u64 a0_0) ∧ w35.cell? ⟨gb333, 1, none⟩ = some (.int .u64 a0_1) ∧ w35.cell? ⟨gb333, 2, none⟩ = some (.int .u64 a0_2) ∧ w35.cell? ⟨gb333, 3, none⟩ = some (.int .u64 a0_3) ∧ w35.cell? ⟨gb333, 4, none⟩ = some (.int .i64 a0_4) ∧ w35.cell? ⟨gb334, 0, none⟩ = some (.int .u64 a1_0) ∧ w35.cell? ⟨gb334, 1, none⟩ = some (.int .u64 a1_1) := hS_
              refine norm_ (a' := ?_) ?_ ?_
              rotate_left
              · simp only [putAll, Act.put, List.setIfInBounds_toArray, List.set_cons_zero, List.set_cons_succ]
                rfl
              refine one_ (i := 8) (N := none) #[true, true, true, true, true, true, true, true, true, false] rfl rfl (one_of HT_.out (by kernel_rfl)) (by decide) (fun K hK => ?_)
              have hs36 : w35.cell? ⟨gb346, 0, none⟩ = some (.int .u64 0) := (blk_cell BK346.out 0).trans rfl
              have hfs36 := blk_frozen BK346.out 0
              have hns36_0 := NB333_346.out
              have hns36_1 := NB334_346.out
              have hms36_0 := NB346_333.out
              have hms36_1 := NB346_334.out
              have hs37 : w35.cell? ⟨gb346, 1, none⟩ = some (.int .u64 0) := (blk_cell BK346.out 1).trans rfl
              have hfs37 := blk_frozen BK346.out 1
              have hns37_0 := NB333_346.out
              have hns37_1 := NB334_346.out
              have hms37_0 := NB346_333.out
              have hms37_1 := NB346_334.out
              have hs38 : w35.cell? ⟨gb346, 2, none⟩ = some (.int .u64 0) := (blk_cell BK346.out 2).trans rfl
              have hfs38 := blk_frozen BK346.out 2
              have hns38_0 := NB333_346.out
              have hns38_1 := NB334_346.out
              have hms38_0 := NB346_333.out
              have hms38_1 := NB346_334.out
              have hs39 : w35.cell? ⟨gb346, 3, none⟩ = some (.int .u64 0) := (blk_cell BK346.out 3).trans rfl
              have hfs39 := blk_frozen BK346.out 3
              have hns39_0 := NB333_346.out
              have hns39_1 := NB334_346.out
              have hms39_0 := NB346_333.out
              have hms39_1 := NB346_334.out
              have hs40 : w35.cell? ⟨gb346, 4, none⟩ = some (.int .i64 0) := (blk_cell BK346.out 4).trans rfl
              have hfs40 := blk_frozen BK346.out 4
              have hns40_0 := NB333_346.out
              have hns40_1 := NB334_346.out
              have hms40_0 := NB346_333.out
              have hms40_1 := NB346_334.out
              refine skip_ (w1 := ?_) (by rfl) rfl ?_ ?_
              rotate_left
              · go_simp
                rfl
              refine hK.out _ _ ⟨((cell_far (p := ⟨gb346, _, none⟩) NB333_346.out _).trans (((cell_far (p := ⟨gb346, _, none⟩) NB333_346.out _).trans (((cell_far (p := ⟨gb346, _, none⟩) NB333_346.out _).trans (((cell_far (p := ⟨gb346, _, none⟩) NB333_346.out _).trans (((cell_far (p := ⟨gb346, _, none⟩) NB333_346.out _).trans (hHeld.1)))))))))), ((cell_far (p := ⟨gb346, _, none⟩) NB333_346.out _).trans (((cell_far (p := ⟨gb346, _, none⟩) NB333_346.out _).trans (((cell_far (p := ⟨gb346, _, none⟩) NB333_346.out _).trans (((cell_far (p := ⟨gb346, _, none⟩) NB333_346.out _).trans (((cell_far (p := ⟨gb346, _, none⟩) NB333_346.out _).trans (hHeld.2.1)))))))))), ((cell_far (p := ⟨gb346, _, none⟩) NB333_346.out _).trans (((cell_far (p := ⟨gb346, _, none⟩) NB333_346.out _).trans (((cell_far (p := ⟨gb346, _, none⟩) NB333_346.out _).trans (((cell_far (p := ⟨gb346, _, none⟩) NB333_346.out _).trans (((cell_far (p := ⟨gb346, _, none⟩) NB333_346.out _).trans (hHeld.2.2.1)))))))))), ((cell_far (p := ⟨gb346, _, none⟩) NB333_346.out _).trans (((cell_far (p := ⟨gb346, _, none⟩) NB333_346.out _).trans (((cell_far (p := ⟨gb346, _, none⟩) NB333_346.out _).trans (((cell_far (p := ⟨gb346, _, none⟩) NB333_346.out _).trans (((cell_far (p := ⟨gb346, _, none⟩) NB333_346.out _).trans (hHeld.2.2.2.1)))))))))), ((cell_far (p := ⟨gb346, _, none⟩) NB333_346.out _).trans (((cell_far (p := ⟨gb346, _, none⟩) NB333_346.out _).trans (((cell_far (p := ⟨gb346, _, none⟩) NB333_346.out _).trans (((cell_far (p := ⟨gb346, _, none⟩) NB333_346.out _).trans (((cell_far (p := ⟨gb346, _, none⟩) NB333_346.out _).trans (hHeld.2.2.2.2.1)))))))))), ((cell_far (p := ⟨gb346, _, none⟩) NB334_346.out _).trans (((cell_far (p := ⟨gb346, _, none⟩) NB334_346.out _).trans (((cell_far (p := ⟨gb346, _, none⟩) NB334_346.out _).trans (((cell_far (p := ⟨gb346, _, none⟩) NB334_346.out _).trans (((cell_far (p := ⟨gb346, _, none⟩) NB334_346.out _).trans (hHeld.2.2.2.2.2.1)))))))))), ((cell_far (p := ⟨gb346, _, none⟩) NB334_346.out _).trans (((cell_far (p := ⟨gb346, _, none⟩) NB334_346.out _).trans (((cell_far (p := ⟨gb346, _, none⟩) NB334_346.out _).trans (((cell_far (p := ⟨gb346, _, none⟩) NB334_346.out _).trans (((cell_far (p := ⟨gb346, _, none⟩) NB334_346.out _).trans (hHeld.2.2.2.2.2.2))))))))))⟩ (fun hHeld => ?_)
              clear hK K
              refine pure_ (i := 9) (N := some 14) (v := ?_) (a' := ?_) #[true, true, true, true, true, true, true, true, true, true] rfl rfl (any_of HT_.out (by kernel_rfl)) (fun _ _ _ h => h) (Or.inl ⟨by rfl, ?_⟩) ?_ ?_
              rotate_left
              · intro w'
                go_simp
                with_reducible rfl
              rotate_left
              · simp only [Act.put, List.setIfInBounds_toArray, List.set_cons_zero, List.set_cons_succ, i64_w, i32_w]
                rfl
              refine done_ (done_of HT_.out (by kernel_rfl)) ?_
              have hnb41 := NB333_334.out
              have hnc41 := NB334_333.out
              have hnb42 := NB333_346.out
              have hnc42 := NB346_333.out
              have hcz43_0 : w35.cell? ⟨gb333, 0, none⟩ = some (.int .u64 a0_0) := (blk_cell BK333.out 0).trans rfl
              have hcz43_1 : w35.cell? ⟨gb333, 1, none⟩ = some (.int .u64 a0_1) := (blk_cell BK333.out 1).trans rfl
              have hcz43_2 : w35.cell? ⟨gb333, 2, none⟩ = some (.int .u64 a0_2) := (blk_cell BK333.out 2).trans rfl
              have hcz43_3 : w35.cell? ⟨gb333, 3, none⟩ = some (.int .u64 a0_3) := (blk_cell BK333.out 3).trans rfl
              have hcz43_4 : w35.cell? ⟨gb333, 4, none⟩ = some (.int .i64 a0_4) := (blk_cell BK333.out 4).trans rfl
              have hfz43_0 := blk_frozen BK333.out 0
              have hfz43_1 := blk_frozen BK333.out 1
              have hfz43_2 := blk_frozen BK333.out 2
              have hfz43_3 := blk_frozen BK333.out 3
              have hfz43_4 := blk_frozen BK333.out 4
              have hnb44 := NB334_346.out
              have hnc44 := NB346_334.out
              have hcz45_0 : w35.cell? ⟨gb334, 0, none⟩ = some (.int .u64 a1_0) := (blk_cell BK334.out 0).trans rfl
              have hcz45_1 : w35.cell? ⟨gb334, 1, none⟩ = some (.int .u64 a1_1) := (blk_cell BK334.out 1).trans rfl
              have hfz45_0 := blk_frozen BK334.out 0
              have hfz45_1 := blk_frozen BK334.out 1
              try go_wp2_with (first | ((with_reducible refine gate_callee (f := 26) rfl ?_); refine goesL_ (some 31) rfl rfl Try.func26 (by kernel_rfl) rfl #[.agg #[.int .u64 a0_0, .int .u64 a0_1, .int .u64 a0_2, .int .u64 a0_3, .int .i64 a0_4], .agg #[.int .u64 a1_0, .int .u64 a1_1]] rfl (by (try simp only [List.map_toArray, List.map_cons, List.map_nil]); first | done | rfl | (simp only [List.length_drop, List.length_take]; rfl)) ?_; (with_reducible refine (winnowref12_Prepare.calls a0_0 a0_1 a0_2 a0_3 a0_4 a1_0 a1_1 t347 t348 t349 t350 t351 t352 _ A9.out).mono ?_); rintro e w46 ⟨rfl, hb⟩; refine ⟨_, rfl, ?_⟩; have n0_ := Aside0.mk (blk_below (g := gb333) (o := .cells #[.int .u64 a0_0, .int .u64 a0_1, .int .u64 a0_2, .int .u64 a0_3, .int .i64 a0_4] 40 (0, 0)) (by (with_reducible repeat (first | refine blk_drewN ?_ _ | refine blk_drew ?_ | refine blk_alloc ?_ _)); refine blk_far ?_ NB333_346.out _; (with_reducible repeat (first | refine blk_drewN ?_ _ | refine blk_drew ?_ | refine blk_alloc ?_ _)); refine blk_far ?_ NB333_346.out _; (with_reducible repeat (first | refine blk_drewN ?_ _ | refine blk_drew ?_ | refine blk_alloc ?_ _)); refine blk_far ?_ NB333_346.out _; (with_reducible repeat (first | refine blk_drewN ?_ _ | refine blk_drew ?_ | refine blk_alloc ?_ _)); refine blk_far ?_ NB333_346.out _; (with_reducible repeat (first | refine blk_drewN ?_ _ | refine blk_drew ?_ | refine blk_alloc ?_ _)); refine blk_far ?_ NB333_346.out _; (with_reducible repeat (first | refine blk_drewN ?_ _ | refine blk_drew ?_ | refine blk_alloc ?_ _)); exact BK333.out) hb); have n1_ := Aside0.mk (blk_below (g := gb334) (o := .cells #[.int .u64 a1_0, .int .u64 a1_1] 24 (0, 0)) (by (with_reducible repeat (first | refine blk_drewN ?_ _ | refine blk_drew ?_ | refine blk_alloc ?_ _)); refine blk_far ?_ NB334_346.out _; (with_reducible repeat (first | refine blk_drewN ?_ _ | refine blk_drew ?_ | refine blk_alloc ?_ _)); refine blk_far ?_ NB334_346.out _; (with_reducible repeat (first | refine blk_drewN ?_ _ | refine blk_drew ?_ | refine blk_alloc ?_ _)); refine blk_far ?_ NB334_346.out _; (with_reducible repeat (first | refine blk_drewN ?_ _ | refine blk_drew ?_ | refine blk_alloc ?_ _)); refine blk_far ?_ NB334_346.out _; (with_reducible repeat (first | refine blk_drewN ?_ _ | refine blk_drew ?_ | refine blk_alloc ?_ _)); refine blk_far ?_ NB334_346.out _; (with_reducible repeat (first | refine blk_drewN ?_ _ | refine blk_drew ?_ | refine blk_alloc ?_ _)); exact BK334.out) hb); have n2_ := Aside0.mk (blk_below (g := gb346) (o := .cells #[.int .u64 t340, .int .u64 t341, .int .u64 t342, .int .u64 t343, .int .i64 t344] 42 (0, 0)) (by (with_reducible repeat (first | refine blk_drewN ?_ _ | refine blk_drew ?_ | refine blk_alloc ?_ _)); refine blk_put (cs := #[.int .u64 t340, .int .u64 t341, .int .u64 t342, .int .u64 t343, .int .i64 0]) ?_ 4 _ rfl; (with_reducible repeat (first | refine blk_drewN ?_ _ | refine blk_drew ?_ | refine blk_alloc ?_ _)); refine blk_put (cs := #[.int .u64 t340, .int .u64 t341, .int .u64 t342, .int .u64 0, .int .i64 0]) ?_ 3 _ rfl; (with_reducible repeat (first | refine blk_drewN ?_ _ | refine blk_drew ?_ | refine blk_alloc ?_ _)); refine blk_put (cs := #[.int .u64 t340, .int .u64 t341, .int .u64 0, .int .u64 0, .int .i64 0]) ?_ 2 _ rfl; (with_reducible repeat (first | refine blk_drewN ?_ _ | refine blk_drew ?_ | refine blk_alloc ?_ _)); refine blk_put (cs := #[.int .u64 t340, .int .u64 0, .int .u64 0, .int .u64 0, .int .i64 0]) ?_ 1 _ rfl; (with_reducible repeat (first | refine blk_drewN ?_ _ | refine blk_drew ?_ | refine blk_alloc ?_ _)); refine blk_put (cs := #[.int .u64 0, .int .u64 0, .int .u64 0, .int .u64 0, .int .i64 0]) ?_ 0 _ rfl; (with_reducible repeat (first | refine blk_drewN ?_ _ | refine blk_drew ?_ | refine blk_alloc ?_ _)); exact BK346.out) hb); have n3_ := Aside0.mk (below_step (by repeat (first | (with_reducible first | exact HB.out | apply below_alloc | apply pw_below_drewN | apply below_drew1 | refine below_set ?_ GE333.out | refine below_set ?_ GE334.out | refine below_set ?_ GE346.out) | exact HB.out)) hb); clear BK333; clear BK334; clear BK346; clear HB; have BK333 := n0_; have BK334 := n1_; have BK346 := n2_; have HB := n3_; clear n0_ n1_ n2_ n3_; (try clear hb); (try clear hb2); (try clear hk); (try clear hi)) | ((with_reducible refine gate_dst (N := 15) rfl ?_); refine box_event ?hg (N := 15) ?hd (cs := #[.int .u64 0, .int .u64 0, .int .u64 0, .int .u64 0, .int .i64 0]) (t := 40) ?hr ?_; (case hd => rfl); (case hg => rfl); (case hr => first | (go_simp; done) | (go_simp; rfl)); intro gb353 hg w47 hbox hb; have n0_ := Aside0.mk (blk_below (g := gb333) (o := .cells #[.int .u64 a0_0, .int .u64 a0_1, .int .u64 a0_2, .int .u64 a0_3, .int .i64 a0_4] 40 (0, 0)) (by (with_reducible repeat (first | refine blk_drewN ?_ _ | refine blk_drew ?_ | refine blk_alloc ?_ _)); exact BK333.out) hb); have n1_ := Aside0.mk (blk_below (g := gb334) (o := .cells #[.int .u64 a1_0, .int .u64 a1_1] 24 (0, 0)) (by (with_reducible repeat (first | refine blk_drewN ?_ _ | refine blk_drew ?_ | refine blk_alloc ?_ _)); exact BK334.out) hb); have n2_ := Aside0.mk (blk_below (g := gb346) (o := .cells #[.int .u64 t340, .int .u64 t341, .int .u64 t342, .int .u64 t343, .int .i64 t344] 42 (0, 0)) (by (with_reducible repeat (first | refine blk_drewN ?_ _ | refine blk_drew ?_ | refine blk_alloc ?_ _)); exact BK346.out) hb); have n3_ := Aside0.mk (below_step (by repeat (first | (with_reducible first | exact HB.out | apply below_alloc | apply pw_below_drewN | apply below_drew1 | refine below_set ?_ GE333.out | refine below_set ?_ GE334.out | refine below_set ?_ GE346.out) | exact HB.out)) hb); have n4_ := Aside0.mk (hbox); have n5_ := Aside0.mk ((by rw [hg]; exact (below_size (by repeat (first | (with_reducible first | exact HB.out | apply below_alloc | apply pw_below_drewN | apply below_drew1 | refine below_set ?_ GE333.out | refine below_set ?_ GE334.out | refine below_set ?_ GE346.out) | exact HB.out))) : w.heap.size ≤ gb353)); have n6_ := n5_; have n7_ := Aside0.mk ((by rw [hg]; exact Nat.ne_of_lt (blk_lt (g := gb333) (o := .cells #[.int .u64 a0_0, .int .u64 a0_1, .int .u64 a0_2, .int .u64 a0_3, .int .i64 a0_4] 40 (0, 0)) (by (with_reducible repeat (first | refine blk_drewN ?_ _ | refine blk_drew ?_ | refine blk_alloc ?_ _)); exact BK333.out)) : gb333 ≠ gb353)); have n8_ := Aside0.mk ((by rw [hg]; exact Nat.ne_of_gt (blk_lt (g := gb333) (o := .cells #[.int .u64 a0_0, .int .u64 a0_1, .int .u64 a0_2, .int .u64 a0_3, .int .i64 a0_4] 40 (0, 0)) (by (with_reducible repeat (first | refine blk_drewN ?_ _ | refine blk_drew ?_ | refine blk_alloc ?_ _)); exact BK333.out)) : gb353 ≠ gb333)); have n9_ := Aside0.mk ((by rw [hg]; exact Nat.ne_of_lt (blk_lt (g := gb334) (o := .cells #[.int .u64 a1_0, .int .u64 a1_1] 24 (0, 0)) (by (with_reducible repeat (first | refine blk_drewN ?_ _ | refine blk_drew ?_ | refine blk_alloc ?_ _)); exact BK334.out)) : gb334 ≠ gb353)); have n10_ := Aside0.mk ((by rw [hg]; exact Nat.ne_of_gt (blk_lt (g := gb334) (o := .cells #[.int .u64 a1_0, .int .u64 a1_1] 24 (0, 0)) (by (with_reducible repeat (first | refine blk_drewN ?_ _ | refine blk_drew ?_ | refine blk_alloc ?_ _)); exact BK334.out)) : gb353 ≠ gb334)); have n11_ := Aside0.mk ((by rw [hg]; exact Nat.ne_of_lt (blk_lt (g := gb346) (o := .cells #[.int .u64 t340, .int .u64 t341, .int .u64 t342, .int .u64 t343, .int .i64 t344] 42 (0, 0)) (by (with_reducible repeat (first | refine blk_drewN ?_ _ | refine blk_drew ?_ | refine blk_alloc ?_ _)); exact BK346.out)) : gb346 ≠ gb353)); have n12_ := Aside0.mk ((by rw [hg]; exact Nat.ne_of_gt (blk_lt (g := gb346) (o := .cells #[.int .u64 t340, .int .u64 t341, .int .u64 t342, .int .u64 t343, .int .i64 t344] 42 (0, 0)) (by (with_reducible repeat (first | refine blk_drewN ?_ _ | refine blk_drew ?_ | refine blk_alloc ?_ _)); exact BK346.out)) : gb353 ≠ gb346)); clear BK333; clear BK334; clear BK346; clear HB; have BK333 := n0_; have BK334 := n1_; have BK346 := n2_; have HB := n3_; have BK353 := n4_; have GW353 := n5_; have GE353 := n6_; have NB333_353 := n7_; have NB353_333 := n8_; have NB334_353 := n9_; have NB353_334 := n10_; have NB346_353 := n11_; have NB353_346 := n12_; clear n0_ n1_ n2_ n3_ n4_ n5_ n6_ n7_ n8_ n9_ n10_ n11_ n12_; clear hb hbox hg; have hnb48 := NB353_333.out; have hnc48 := NB333_353.out; have hnb49 := NB353_334.out; have hnc49 := NB334_353.out; have hnb50 := NB353_346.out; have hnc50 := NB346_353.out; have hcz51_0 : w47.cell? ⟨gb353, 0, none⟩ = some (.int .u64 0) := (blk_cell BK353.out 0).trans rfl; have hcz51_1 : w47.cell? ⟨gb353, 1, none⟩ = some (.int .u64 0) := (blk_cell BK353.out 1).trans rfl; have hcz51_2 : w47.cell? ⟨gb353, 2, none⟩ = some (.int .u64 0) := (blk_cell BK353.out 2).trans rfl; have hcz51_3 : w47.cell? ⟨gb353, 3, none⟩ = some (.int .u64 0) := (blk_cell BK353.out 3).trans rfl; have hcz51_4 : w47.cell? ⟨gb353, 4, none⟩ = some (.int .i64 0) := (blk_cell BK353.out 4).trans rfl; have hfz51_0 := blk_frozen BK353.out 0; have hfz51_1 := blk_frozen BK353.out 1; have hfz51_2 := blk_frozen BK353.out 2; have hfz51_3 := blk_frozen BK353.out 3; have hfz51_4 := blk_frozen BK353.out 4))
              have n0_ : Aside0 ((((((w47.setCell ⟨gb353, 0, none⟩ (.int .u64 t347)).setCell ⟨gb353, 1, none⟩ (.int .u64 t348)).setCell ⟨gb353, 2, none⟩ (.int .u64 t349)).setCell ⟨gb353, 3, none⟩ (.int .u64 t350)).setCell ⟨gb353, 4, none⟩ (.int .i64 t351)).heap[gb333]? = some (.cells #[.int .u64 a0_0, .int .u64 a0_1, .int .u64 a0_2, .int .u64 a0_3, .int .i64 a0_4] 40 (0, 0))) := ⟨by (with_reducible repeat (first | refine blk_drewN ?_ _ | refine blk_drew ?_ | refine blk_alloc ?_ _)); refine blk_far ?_ NB333_353.out _; (with_reducible repeat (first | refine blk_drewN ?_ _ | refine blk_drew ?_ | refine blk_alloc ?_ _)); refine blk_far ?_ NB333_353.out _; (with_reducible repeat (first | refine blk_drewN ?_ _ | refine blk_drew ?_ | refine blk_alloc ?_ _)); refine blk_far ?_ NB333_353.out _; (with_reducible repeat (first | refine blk_drewN ?_ _ | refine blk_drew ?_ | refine blk_alloc ?_ _)); refine blk_far ?_ NB333_353.out _; (with_reducible repeat (first | refine blk_drewN ?_ _ | refine blk_drew ?_ | refine blk_alloc ?_ _)); refine blk_far ?_ NB333_353.out _; (with_reducible repeat (first | refine blk_drewN ?_ _ | refine blk_drew ?_ | refine blk_alloc ?_ _)); exact BK333.out⟩
              have n1_ : Aside0 ((((((w47.setCell ⟨gb353, 0, none⟩ (.int .u64 t347)).setCell ⟨gb353, 1, none⟩ (.int .u64 t348)).setCell ⟨gb353, 2, none⟩ (.int .u64 t349)).setCell ⟨gb353, 3, none⟩ (.int .u64 t350)).setCell ⟨gb353, 4, none⟩ (.int .i64 t351)).heap[gb334]? = some (.cells #[.int .u64 a1_0, .int .u64 a1_1] 24 (0, 0))) := ⟨by (with_reducible repeat (first | refine blk_drewN ?_ _ | refine blk_drew ?_ | refine blk_alloc ?_ _)); refine blk_far ?_ NB334_353.out _; (with_reducible repeat (first | refine blk_drewN ?_ _ | refine blk_drew ?_ | refine blk_alloc ?_ _)); refine blk_far ?_ NB334_353.out _; (with_reducible repeat (first | refine blk_drewN ?_ _ | refine blk_drew ?_ | refine blk_alloc ?_ _)); refine blk_far ?_ NB334_353.out _; (with_reducible repeat (first | refine blk_drewN ?_ _ | refine blk_drew ?_ | refine blk_alloc ?_ _)); refine blk_far ?_ NB334_353.out _; (with_reducible repeat (first | refine blk_drewN ?_ _ | refine blk_drew ?_ | refine blk_alloc ?_ _)); refine blk_far ?_ NB334_353.out _; (with_reducible repeat (first | refine blk_drewN ?_ _ | refine blk_drew ?_ | refine blk_alloc ?_ _)); exact BK334.out⟩
              have n2_ : Aside0 ((((((w47.setCell ⟨gb353, 0, none⟩ (.int .u64 t347)).setCell ⟨gb353, 1, none⟩ (.int .u64 t348)).setCell ⟨gb353, 2, none⟩ (.int .u64 t349)).setCell ⟨gb353, 3, none⟩ (.int .u64 t350)).setCell ⟨gb353, 4, none⟩ (.int .i64 t351)).heap[gb346]? = some (.cells #[.int .u64 t340, .int .u64 t341, .int .u64 t342, .int .u64 t343, .int .i64 t344] 42 (0, 0))) := ⟨by (with_reducible repeat (first | refine blk_drewN ?_ _ | refine blk_drew ?_ | refine blk_alloc ?_ _)); refine blk_far ?_ NB346_353.out _; (with_reducible repeat (first | refine blk_drewN ?_ _ | refine blk_drew ?_ | refine blk_alloc ?_ _)); refine blk_far ?_ NB346_353.out _; (with_reducible repeat (first | refine blk_drewN ?_ _ | refine blk_drew ?_ | refine blk_alloc ?_ _)); refine blk_far ?_ NB346_353.out _; (with_reducible repeat (first | refine blk_drewN ?_ _ | refine blk_drew ?_ | refine blk_alloc ?_ _)); refine blk_far ?_ NB346_353.out _; (with_reducible repeat (first | refine blk_drewN ?_ _ | refine blk_drew ?_ | refine blk_alloc ?_ _)); refine blk_far ?_ NB346_353.out _; (with_reducible repeat (first | refine blk_drewN ?_ _ | refine blk_drew ?_ | refine blk_alloc ?_ _)); exact BK346.out⟩
              have n3_ : Aside0 ((((((w47.setCell ⟨gb353, 0, none⟩ (.int .u64 t347)).setCell ⟨gb353, 1, none⟩ (.int .u64 t348)).setCell ⟨gb353, 2, none⟩ (.int .u64 t349)).setCell ⟨gb353, 3, none⟩ (.int .u64 t350)).setCell ⟨gb353, 4, none⟩ (.int .i64 t351)).heap[gb353]? = some (.cells #[.int .u64 t347, .int .u64 t348, .int .u64 t349, .int .u64 t350, .int .i64 t351] 40 (0, 0))) := ⟨by (with_reducible repeat (first | refine blk_drewN ?_ _ | refine blk_drew ?_ | refine blk_alloc ?_ _)); refine blk_put (cs := #[.int .u64 t347, .int .u64 t348, .int .u64 t349, .int .u64 t350, .int .i64 0]) ?_ 4 _ rfl; (with_reducible repeat (first | refine blk_drewN ?_ _ | refine blk_drew ?_ | refine blk_alloc ?_ _)); refine blk_put (cs := #[.int .u64 t347, .int .u64 t348, .int .u64 t349, .int .u64 0, .int .i64 0]) ?_ 3 _ rfl; (with_reducible repeat (first | refine blk_drewN ?_ _ | refine blk_drew ?_ | refine blk_alloc ?_ _)); refine blk_put (cs := #[.int .u64 t347, .int .u64 t348, .int .u64 0, .int .u64 0, .int .i64 0]) ?_ 2 _ rfl; (with_reducible repeat (first | refine blk_drewN ?_ _ | refine blk_drew ?_ | refine blk_alloc ?_ _)); refine blk_put (cs := #[.int .u64 t347, .int .u64 0, .int .u64 0, .int .u64 0, .int .i64 0]) ?_ 1 _ rfl; (with_reducible repeat (first | refine blk_drewN ?_ _ | refine blk_drew ?_ | refine blk_alloc ?_ _)); refine blk_put (cs := #[.int .u64 0, .int .u64 0, .int .u64 0, .int .u64 0, .int .i64 0]) ?_ 0 _ rfl; (with_reducible repeat (first | refine blk_drewN ?_ _ | refine blk_drew ?_ | refine blk_alloc ?_ _)); exact BK353.out⟩
              have n4_ : Aside0 (Below w.heap.size w (((((w47.setCell ⟨gb353, 0, none⟩ (.int .u64 t347)).setCell ⟨gb353, 1, none⟩ (.int .u64 t348)).setCell ⟨gb353, 2, none⟩ (.int .u64 t349)).setCell ⟨gb353, 3, none⟩ (.int .u64 t350)).setCell ⟨gb353, 4, none⟩ (.int .i64 t351))) := ⟨by repeat (first | (with_reducible first | exact HB.out | apply below_alloc | apply pw_below_drewN | apply below_drew1 | refine below_set ?_ GE333.out | refine below_set ?_ GE334.out | refine below_set ?_ GE346.out | refine below_set ?_ GE353.out) | exact HB.out)⟩
              (try clear BK333)
              (try clear BK334)
              (try clear BK346)
              (try clear BK353)
              (try clear HB)
              generalize (((((w47.setCell ⟨gb353, 0, none⟩ (.int .u64 t347)).setCell ⟨gb353, 1, none⟩ (.int .u64 t348)).setCell ⟨gb353, 2, none⟩ (.int .u64 t349)).setCell ⟨gb353, 3, none⟩ (.int .u64 t350)).setCell ⟨gb353, 4, none⟩ (.int .i64 t351)) = w52 at n0_ n1_ n2_ n3_ n4_ ⊢
              have BK333 := n0_
              have BK334 := n1_
              have BK346 := n2_
              have BK353 := n3_
              have HB := n4_
              clear n0_ n1_ n2_ n3_ n4_
              have n0_ := Aside0.mk (blk_drew BK333.out)
              have n1_ := Aside0.mk (blk_drew BK334.out)
              have n2_ := Aside0.mk (blk_drew BK346.out)
              have n3_ := Aside0.mk (blk_drew BK353.out)
              have n4_ := Aside0.mk (below_drew1 HB.out)
              clear BK333
              clear BK334
              clear BK346
              clear BK353
              clear HB
              have BK333 := n0_
              have BK334 := n1_
              have BK346 := n2_
              have BK353 := n3_
              have HB := n4_
              clear n0_ n1_ n2_ n3_ n4_
              refine start_ (n := 11) (S := fun w' => w'.cell? ⟨gb333, 0, none⟩ = some (.int .u64 a0_0) ∧ w'.cell? ⟨gb333, 1, none⟩ = some (.int .u64 a0_1) ∧ w'.cell? ⟨gb333, 2, none⟩ = some (.int .u64 a0_2) ∧ w'.cell? ⟨gb333, 3, none⟩ = some (.int .u64 a0_3) ∧ w'.cell? ⟨gb333, 4, none⟩ = some (.int .i64 a0_4) ∧ w'.cell? ⟨gb334, 0, none⟩ = some (.int .u64 a1_0) ∧ w'.cell? ⟨gb334, 1, none⟩ = some (.int .u64 a1_1)) (ds := []) #[false, false, false, false, false, false, false, false, false, false, false] (by kernel_rfl) rfl rfl ⟨(blk_cell BK333.out 0).trans rfl, (blk_cell BK333.out 1).trans rfl, (blk_cell BK333.out 2).trans rfl, (blk_cell BK333.out 3).trans rfl, (blk_cell BK333.out 4).trans rfl, (blk_cell BK334.out 0).trans rfl, (blk_cell BK334.out 1).trans rfl⟩ (fun hHeld => ?_); refine with_tabW winnowlaw12_RegisterSteps.tab3 winnowlaw12_RegisterSteps.bits3 (fun HT_ HW_ => ?_)
              generalize w52.drew = w53 at BK333 BK334 BK346 BK353 HB hHeld ⊢
              refine pure_ (i := 3) (N := some 38) (v := ?_) (a' := ?_) #[false, false, false, true, false, false, false, false, false, false, false] rfl rfl (any_of HT_.out (by kernel_rfl)) (fun _ _ _ h => h) (Or.inl ⟨by rfl, ?_⟩) ?_ ?_
              rotate_left
              · intro w'
                go_simp
                with_reducible rfl
              rotate_left
              · simp only [Act.put, List.setIfInBounds_toArray, List.set_cons_zero, List.set_cons_succ, i64_w, i32_w]
                rfl
              refine take_ (i := 0) (N := some 35) (v := ?_) (a' := ?_) #[true, false, false, true, false, false, false, false, false, false, false] rfl rfl (take_ofW HT_.out HW_.out (by kernel_rfl)) (fun _ _ _ h => h) (Or.inl ⟨by rfl, ?_⟩) hHeld ?_ ?_
              rotate_left
              · rintro w' ⟨s0, s1, s2, s3, s4, s5, s6⟩
                go_simp
                with_reducible rfl
              rotate_left
              · simp only [Act.put, List.setIfInBounds_toArray, List.set_cons_zero, List.set_cons_succ, i64_w, i32_w]
                rfl
              refine take_ (i := 2) (N := some 37) (v := ?_) (a' := ?_) #[true, false, true, true, false, false, false, false, false, false, false] rfl rfl (take_ofW HT_.out HW_.out (by kernel_rfl)) (fun _ _ _ h => h) (Or.inl ⟨by rfl, ?_⟩) hHeld ?_ ?_
              rotate_left
              · rintro w' ⟨s0, s1, s2, s3, s4, s5, s6⟩
                go_simp
                with_reducible rfl
              rotate_left
              · simp only [Act.put, List.setIfInBounds_toArray, List.set_cons_zero, List.set_cons_succ, i64_w, i32_w]
                rfl
              refine join_ (σ := Nat) 2 #[true, true, true, true, true, true, true, true, true, false, false] (fun s_ => [(36, .agg #[.int .u64 t354, .int .u64 t355, .int .u64 t356, .int .u64 t357, .int .i64 t358]), (39, .tuple #[.agg #[.int .u64 t359, .int .u64 t360, .int .u64 t361, .int .u64 t362, .int .i64 t363], .bool t364]), (17, .pointer (some ⟨s_, 0, none⟩)), (34, .tuple #[.agg #[.int .u64 t359, .int .u64 t360, .int .u64 t361, .int .u64 t362, .int .i64 t363], .bool t364]), (40, .agg #[.int .u64 t359, .int .u64 t360, .int .u64 t361, .int .u64 t362, .int .i64 t363]), (41, .bool t364)]) (fun s_ w' => (w'.cell? ⟨gb333, 0, none⟩ = some (.int .u64 a0_0) ∧ w'.cell? ⟨gb333, 1, none⟩ = some (.int .u64 a0_1) ∧ w'.cell? ⟨gb333, 2, none⟩ = some (.int .u64 a0_2) ∧ w'.cell? ⟨gb333, 3, none⟩ = some (.int .u64 a0_3) ∧ w'.cell? ⟨gb333, 4, none⟩ = some (.int .i64 a0_4) ∧ w'.cell? ⟨gb334, 0, none⟩ = some (.int .u64 a1_0) ∧ w'.cell? ⟨gb334, 1, none⟩ = some (.int .u64 a1_1)) ∧ (w'.heap[gb333]? = some (.cells #[.int .u64 a0_0, .int .u64 a0_1, .int .u64 a0_2, .int .u64 a0_3, .int .i64 a0_4] 40 (0, 0))) ∧ (w'.heap[gb334]? = some (.cells #[.int .u64 a1_0, .int .u64 a1_1] 24 (0, 0))) ∧ (w'.heap[gb346]? = some (.cells #[.int .u64 t340, .int .u64 t341, .int .u64 t342, .int .u64 t343, .int .i64 t344] 42 (0, 0))) ∧ (w'.heap[gb353]? = some (.cells #[.int .u64 t347, .int .u64 t348, .int .u64 t349, .int .u64 t350, .int .i64 t351] 40 (0, 0))) ∧ (w'.heap[s_]? = some (.cells #[.int .u64 0, .int .u64 0, .int .u64 0, .int .u64 0, .int .i64 0] 42 (0, 0))) ∧ (w.heap.size ≤ s_) ∧ (w.heap.size ≤ s_) ∧ (gb333 ≠ s_) ∧ (s_ ≠ gb333) ∧ (gb334 ≠ s_) ∧ (s_ ≠ gb334) ∧ (gb346 ≠ s_) ∧ (s_ ≠ gb346) ∧ (gb353 ≠ s_) ∧ (s_ ≠ gb353) ∧ (Below w.heap.size w w')) ?_ ?_
              rotate_left
              · intro hCont
                refine two_ (i := 1) (j := 8) (Ni := some 36) (Nj := some 17) #[true, true, true, true, false, false, false, false, false, false, false] #[true, false, true, true, false, false, false, false, true, false, false] rfl rfl rfl rfl (two_of HT_.out (by kernel_rfl)) (by decide) (by decide) (fun K hK => ?_) (fun K hK => ?_)
                · skip
                  refine goes_ Try.func23 (by kernel_rfl) rfl #[.agg #[.int .u64 a0_0, .int .u64 a0_1, .int .u64 a0_2, .int .u64 a0_3, .int .i64 a0_4]] (by rfl) rfl rfl (by (try simp only [List.map_toArray, List.map_cons, List.map_nil]); first | done | rfl | (simp only [List.length_drop, List.length_take]; rfl)) ?_
                  with_reducible refine (winnowlaw12_own.calls a0_0 a0_1 a0_2 a0_3 a0_4 t354 t355 t356 t357 t358 _ A10.out).mono ?_
                  rintro e w54 ⟨rfl, hb⟩
                  refine ⟨_, rfl, ?_⟩
                  have n0_ := Aside0.mk (blk_below (g := gb333) (o := .cells #[.int .u64 a0_0, .int .u64 a0_1, .int .u64 a0_2, .int .u64 a0_3, .int .i64 a0_4] 40 (0, 0)) (by (with_reducible repeat (first | refine blk_drewN ?_ _ | refine blk_drew ?_ | refine blk_alloc ?_ _)); exact BK333.out) hb)
                  have n1_ := Aside0.mk (blk_below (g := gb334) (o := .cells #[.int .u64 a1_0, .int .u64 a1_1] 24 (0, 0)) (by (with_reducible repeat (first | refine blk_drewN ?_ _ | refine blk_drew ?_ | refine blk_alloc ?_ _)); exact BK334.out) hb)
                  have n2_ := Aside0.mk (blk_below (g := gb346) (o := .cells #[.int .u64 t340, .int .u64 t341, .int .u64 t342, .int .u64 t343, .int .i64 t344] 42 (0, 0)) (by (with_reducible repeat (first | refine blk_drewN ?_ _ | refine blk_drew ?_ | refine blk_alloc ?_ _)); exact BK346.out) hb)
                  have n3_ := Aside0.mk (blk_below (g := gb353) (o := .cells #[.int .u64 t347, .int .u64 t348, .int .u64 t349, .int .u64 t350, .int .i64 t351] 40 (0, 0)) (by (with_reducible repeat (first | refine blk_drewN ?_ _ | refine blk_drew ?_ | refine blk_alloc ?_ _)); exact BK353.out) hb)
                  have n4_ := Aside0.mk (below_step (by repeat (first | (with_reducible first | exact HB.out | apply below_alloc | apply pw_below_drewN | apply below_drew1 | refine below_set ?_ GE333.out | refine below_set ?_ GE334.out | refine below_set ?_ GE346.out | refine below_set ?_ GE353.out) | exact HB.out)) hb)
                  clear BK333
                  clear BK334
                  clear BK346
                  clear BK353
                  clear HB
                  have BK333 := n0_
                  have BK334 := n1_
                  have BK346 := n2_
                  have BK353 := n3_
                  have HB := n4_
                  clear n0_ n1_ n2_ n3_ n4_
                  (try clear hb)
                  (try clear hb2)
                  (try clear hk)
                  (try clear hi)
                  refine hK.out _ _ ⟨(blk_cell BK333.out 0).trans rfl, (blk_cell BK333.out 1).trans rfl, (blk_cell BK333.out 2).trans rfl, (blk_cell BK333.out 3).trans rfl, (blk_cell BK333.out 4).trans rfl, (blk_cell BK334.out 0).trans rfl, (blk_cell BK334.out 1).trans rfl⟩ (fun hHeld => ?_)
                  clear hK K
                  refine norm_ (a' := ?_) ?_ ?_
                  rotate_left
                  · show Act.put _ (some 36) _ = _
                    simp only [Act.put, List.setIfInBounds_toArray, List.set_cons_zero, List.set_cons_succ, i64_w, i32_w]
                    rfl
                  refine two_ (i := 4) (j := 8) (Ni := some 39) (Nj := some 17) #[true, true, true, true, true, false, false, false, false, false, false] #[true, true, true, true, false, false, false, false, true, false, false] rfl rfl rfl rfl (two_of HT_.out (by kernel_rfl)) (by decide) (by decide) (fun K hK => ?_) (fun K hK => ?_)
                  · skip
                    refine goes_ Try.func24 (by kernel_rfl) rfl #[.agg #[.int .u64 t354, .int .u64 t355, .int .u64 t356, .int .u64 t357, .int .i64 t358], .agg #[.int .u64 a1_0, .int .u64 a1_1], .int .i64 a2] (by rfl) rfl rfl (by (try simp only [List.map_toArray, List.map_cons, List.map_nil]); first | done | rfl | (simp only [List.length_drop, List.length_take]; rfl)) ?_
                    with_reducible refine (register_Accept.calls k t354 t355 t356 t357 t358 a1_0 a1_1 a2 t359 t360 t361 t362 t363 t364 _ A11.out).mono ?_
                    rintro e w55 ⟨rfl, hb⟩
                    refine ⟨_, rfl, ?_⟩
                    have n0_ := Aside0.mk (blk_below (g := gb333) (o := .cells #[.int .u64 a0_0, .int .u64 a0_1, .int .u64 a0_2, .int .u64 a0_3, .int .i64 a0_4] 40 (0, 0)) (by (with_reducible repeat (first | refine blk_drewN ?_ _ | refine blk_drew ?_ | refine blk_alloc ?_ _)); exact BK333.out) hb)
                    have n1_ := Aside0.mk (blk_below (g := gb334) (o := .cells #[.int .u64 a1_0, .int .u64 a1_1] 24 (0, 0)) (by (with_reducible repeat (first | refine blk_drewN ?_ _ | refine blk_drew ?_ | refine blk_alloc ?_ _)); exact BK334.out) hb)
                    have n2_ := Aside0.mk (blk_below (g := gb346) (o := .cells #[.int .u64 t340, .int .u64 t341, .int .u64 t342, .int .u64 t343, .int .i64 t344] 42 (0, 0)) (by (with_reducible repeat (first | refine blk_drewN ?_ _ | refine blk_drew ?_ | refine blk_alloc ?_ _)); exact BK346.out) hb)
                    have n3_ := Aside0.mk (blk_below (g := gb353) (o := .cells #[.int .u64 t347, .int .u64 t348, .int .u64 t349, .int .u64 t350, .int .i64 t351] 40 (0, 0)) (by (with_reducible repeat (first | refine blk_drewN ?_ _ | refine blk_drew ?_ | refine blk_alloc ?_ _)); exact BK353.out) hb)
                    have n4_ := Aside0.mk (below_step (by repeat (first | (with_reducible first | exact HB.out | apply below_alloc | apply pw_below_drewN | apply below_drew1 | refine below_set ?_ GE333.out | refine below_set ?_ GE334.out | refine below_set ?_ GE346.out | refine below_set ?_ GE353.out) | exact HB.out)) hb)
                    clear BK333
                    clear BK334
                    clear BK346
                    clear BK353
                    clear HB
                    have BK333 := n0_
                    have BK334 := n1_
                    have BK346 := n2_
                    have BK353 := n3_
                    have HB := n4_
                    clear n0_ n1_ n2_ n3_ n4_
                    (try clear hb)
                    (try clear hb2)
                    (try clear hk)
                    (try clear hi)
                    refine hK.out _ _ ⟨(blk_cell BK333.out 0).trans rfl, (blk_cell BK333.out 1).trans rfl, (blk_cell BK333.out 2).trans rfl, (blk_cell BK333.out 3).trans rfl, (blk_cell BK333.out 4).trans rfl, (blk_cell BK334.out 0).trans rfl, (blk_cell BK334.out 1).trans rfl⟩ (fun hHeld => ?_)
                    clear hK K
                    refine norm_ (a' := ?_) ?_ ?_
                    rotate_left
                    · show Act.put _ (some 39) _ = _
                      simp only [Act.put, List.setIfInBounds_toArray, List.set_cons_zero, List.set_cons_succ, i64_w, i32_w]
                      rfl
                    refine pure_ (i := 5) (N := some 34) (v := ?_) (a' := ?_) #[true, true, true, true, true, true, false, false, false, false, false] rfl rfl (any_of HT_.out (by kernel_rfl)) (fun _ _ _ h => h) (Or.inl ⟨by rfl, ?_⟩) ?_ ?_
                    rotate_left
                    · intro w'
                      go_simp
                      with_reducible rfl
                    rotate_left
                    · simp only [Act.put, List.setIfInBounds_toArray, List.set_cons_zero, List.set_cons_succ, i64_w, i32_w]
                      rfl
                    refine pure_ (i := 6) (N := some 40) (v := ?_) (a' := ?_) #[true, true, true, true, true, true, true, false, false, false, false] rfl rfl (any_of HT_.out (by kernel_rfl)) (fun _ _ _ h => h) (Or.inl ⟨by rfl, ?_⟩) ?_ ?_
                    rotate_left
                    · intro w'
                      go_simp
                      with_reducible rfl
                    rotate_left
                    · simp only [Act.put, List.setIfInBounds_toArray, List.set_cons_zero, List.set_cons_succ, i64_w, i32_w]
                      rfl
                    refine pure_ (i := 7) (N := some 41) (v := ?_) (a' := ?_) #[true, true, true, true, true, true, true, true, false, false, false] rfl rfl (any_of HT_.out (by kernel_rfl)) (fun _ _ _ h => h) (Or.inl ⟨by rfl, ?_⟩) ?_ ?_
                    rotate_left
                    · intro w'
                      go_simp
                      with_reducible rfl
                    rotate_left
                    · simp only [Act.put, List.setIfInBounds_toArray, List.set_cons_zero, List.set_cons_succ, i64_w, i32_w]
                      rfl
                    refine one_ (i := 8) (N := some 17) #[true, true, true, true, true, true, true, true, true, false, false] rfl rfl (one_of HT_.out (by kernel_rfl)) (by decide) (fun K hK => ?_)
                    refine box_step ?hg (N := 17) ?hd (cs := #[.int .u64 0, .int .u64 0, .int .u64 0, .int .u64 0, .int .i64 0]) (t := 42) ?hr ?_; (case hd => rfl); (case hg => rfl); (case hr => first | (go_simp; done) | (go_simp; rfl))
                    intro gb365 hg w56 hbox hb
                    have n0_ := Aside0.mk (blk_below (g := gb333) (o := .cells #[.int .u64 a0_0, .int .u64 a0_1, .int .u64 a0_2, .int .u64 a0_3, .int .i64 a0_4] 40 (0, 0)) (by (with_reducible repeat (first | refine blk_drewN ?_ _ | refine blk_drew ?_ | refine blk_alloc ?_ _)); exact BK333.out) hb)
                    have n1_ := Aside0.mk (blk_below (g := gb334) (o := .cells #[.int .u64 a1_0, .int .u64 a1_1] 24 (0, 0)) (by (with_reducible repeat (first | refine blk_drewN ?_ _ | refine blk_drew ?_ | refine blk_alloc ?_ _)); exact BK334.out) hb)
                    have n2_ := Aside0.mk (blk_below (g := gb346) (o := .cells #[.int .u64 t340, .int .u64 t341, .int .u64 t342, .int .u64 t343, .int .i64 t344] 42 (0, 0)) (by (with_reducible repeat (first | refine blk_drewN ?_ _ | refine blk_drew ?_ | refine blk_alloc ?_ _)); exact BK346.out) hb)
                    have n3_ := Aside0.mk (blk_below (g := gb353) (o := .cells #[.int .u64 t347, .int .u64 t348, .int .u64 t349, .int .u64 t350, .int .i64 t351] 40 (0, 0)) (by (with_reducible repeat (first | refine blk_drewN ?_ _ | refine blk_drew ?_ | refine blk_alloc ?_ _)); exact BK353.out) hb)
                    have n4_ := Aside0.mk (below_step (by repeat (first | (with_reducible first | exact HB.out | apply below_alloc | apply pw_below_drewN | apply below_drew1 | refine below_set ?_ GE333.out | refine below_set ?_ GE334.out | refine below_set ?_ GE346.out | refine below_set ?_ GE353.out) | exact HB.out)) hb)
                    have n5_ := Aside0.mk (hbox)
                    have n6_ := Aside0.mk ((by rw [hg]; exact (below_size (by repeat (first | (with_reducible first | exact HB.out | apply below_alloc | apply pw_below_drewN | apply below_drew1 | refine below_set ?_ GE333.out | refine below_set ?_ GE334.out | refine below_set ?_ GE346.out | refine below_set ?_ GE353.out) | exact HB.out))) : w.heap.size ≤ gb365))
                    have n7_ := Aside0.mk ((by rw [hg]; exact (below_size (by repeat (first | (with_reducible first | exact HB.out | apply below_alloc | apply pw_below_drewN | apply below_drew1 | refine below_set ?_ GE333.out | refine below_set ?_ GE334.out | refine below_set ?_ GE346.out | refine below_set ?_ GE353.out) | exact HB.out))) : w.heap.size ≤ gb365))
                    have n8_ := Aside0.mk ((by rw [hg]; exact Nat.ne_of_lt (blk_lt (g := gb333) (o := .cells #[.int .u64 a0_0, .int .u64 a0_1, .int .u64 a0_2, .int .u64 a0_3, .int .i64 a0_4] 40 (0, 0)) (by (with_reducible repeat (first | refine blk_drewN ?_ _ | refine blk_drew ?_ | refine blk_alloc ?_ _)); exact BK333.out)) : gb333 ≠ gb365))
                    have n9_ := Aside0.mk ((by rw [hg]; exact Nat.ne_of_gt (blk_lt (g := gb333) (o := .cells #[.int .u64 a0_0, .int .u64 a0_1, .int .u64 a0_2, .int .u64 a0_3, .int .i64 a0_4] 40 (0, 0)) (by (with_reducible repeat (first | refine blk_drewN ?_ _ | refine blk_drew ?_ | refine blk_alloc ?_ _)); exact BK333.out)) : gb365 ≠ gb333))
                    have n10_ := Aside0.mk ((by rw [hg]; exact Nat.ne_of_lt (blk_lt (g := gb334) (o := .cells #[.int .u64 a1_0, .int .u64 a1_1] 24 (0, 0)) (by (with_reducible repeat (first | refine blk_drewN ?_ _ | refine blk_drew ?_ | refine blk_alloc ?_ _)); exact BK334.out)) : gb334 ≠ gb365))
                    have n11_ := Aside0.mk ((by rw [hg]; exact Nat.ne_of_gt (blk_lt (g := gb334) (o := .cells #[.int .u64 a1_0, .int .u64 a1_1] 24 (0, 0)) (by (with_reducible repeat (first | refine blk_drewN ?_ _ | refine blk_drew ?_ | refine blk_alloc ?_ _)); exact BK334.out)) : gb365 ≠ gb334))
                    have n12_ := Aside0.mk ((by rw [hg]; exact Nat.ne_of_lt (blk_lt (g := gb346) (o := .cells #[.int .u64 t340, .int .u64 t341, .int .u64 t342, .int .u64 t343, .int .i64 t344] 42 (0, 0)) (by (with_reducible repeat (first | refine blk_drewN ?_ _ | refine blk_drew ?_ | refine blk_alloc ?_ _)); exact BK346.out)) : gb346 ≠ gb365))
                    have n13_ := Aside0.mk ((by rw [hg]; exact Nat.ne_of_gt (blk_lt (g := gb346) (o := .cells #[.int .u64 t340, .int .u64 t341, .int .u64 t342, .int .u64 t343, .int .i64 t344] 42 (0, 0)) (by (with_reducible repeat (first | refine blk_drewN ?_ _ | refine blk_drew ?_ | refine blk_alloc ?_ _)); exact BK346.out)) : gb365 ≠ gb346))
                    have n14_ := Aside0.mk ((by rw [hg]; exact Nat.ne_of_lt (blk_lt (g := gb353) (o := .cells #[.int .u64 t347, .int .u64 t348, .int .u64 t349, .int .u64 t350, .int .i64 t351] 40 (0, 0)) (by (with_reducible repeat (first | refine blk_drewN ?_ _ | refine blk_drew ?_ | refine blk_alloc ?_ _)); exact BK353.out)) : gb353 ≠ gb365))
                    have n15_ := Aside0.mk ((by rw [hg]; exact Nat.ne_of_gt (blk_lt (g := gb353) (o := .cells #[.int .u64 t347, .int .u64 t348, .int .u64 t349, .int .u64 t350, .int .i64 t351] 40 (0, 0)) (by (with_reducible repeat (first | refine blk_drewN ?_ _ | refine blk_drew ?_ | refine blk_alloc ?_ _)); exact BK353.out)) : gb365 ≠ gb353))
                    clear BK333
                    clear BK334
                    clear BK346
                    clear BK353
                    clear HB
                    have BK333 := n0_
                    have BK334 := n1_
                    have BK346 := n2_
                    have BK353 := n3_
                    have HB := n4_
                    have BK365 := n5_
                    have GW365 := n6_
                    have GE365 := n7_
                    have NB333_365 := n8_
                    have NB365_333 := n9_
                    have NB334_365 := n10_
                    have NB365_334 := n11_
                    have NB346_365 := n12_
                    have NB365_346 := n13_
                    have NB353_365 := n14_
                    have NB365_353 := n15_
                    clear n0_ n1_ n2_ n3_ n4_ n5_ n6_ n7_ n8_ n9_ n10_ n11_ n12_ n13_ n14_ n15_
                    clear hb hbox hg
                    refine hK.out _ _ ⟨(blk_cell BK333.out 0).trans rfl, (blk_cell BK333.out 1).trans rfl, (blk_cell BK333.out 2).trans rfl, (blk_cell BK333.out 3).trans rfl, (blk_cell BK333.out 4).trans rfl, (blk_cell BK334.out 0).trans rfl, (blk_cell BK334.out 1).trans rfl⟩ (fun hHeld => ?_)
                    clear hK K
                    refine norm_ (a' := ?_) ?_ ?_
                    rotate_left
                    · show Act.put _ (some 17) _ = _
                      simp only [Act.put, List.setIfInBounds_toArray, List.set_cons_zero, List.set_cons_succ, i64_w, i32_w]
                      rfl
                    exact norm_ (by simp only [putAll, Act.put, List.setIfInBounds_toArray, List.set_cons_zero, List.set_cons_succ]) (hCont (gb365) _ ⟨hHeld, (by (with_reducible repeat (first | refine blk_drewN ?_ _ | refine blk_drew ?_ | refine blk_alloc ?_ _)); exact BK333.out), (by (with_reducible repeat (first | refine blk_drewN ?_ _ | refine blk_drew ?_ | refine blk_alloc ?_ _)); exact BK334.out), (by (with_reducible repeat (first | refine blk_drewN ?_ _ | refine blk_drew ?_ | refine blk_alloc ?_ _)); exact BK346.out), (by (with_reducible repeat (first | refine blk_drewN ?_ _ | refine blk_drew ?_ | refine blk_alloc ?_ _)); exact BK353.out), (by (with_reducible repeat (first | refine blk_drewN ?_ _ | refine blk_drew ?_ | refine blk_alloc ?_ _)); exact BK365.out), GW365.out, GE365.out, NB333_365.out, NB365_333.out, NB334_365.out, NB365_334.out, NB346_365.out, NB365_346.out, NB353_365.out, NB365_353.out, (by repeat (first | (with_reducible first | exact HB.out | apply below_alloc | apply pw_below_drewN | apply below_drew1 | refine below_set ?_ GE333.out | refine below_set ?_ GE334.out | refine below_set ?_ GE346.out | refine below_set ?_ GE353.out | refine below_set ?_ GE365.out) | exact HB.out))⟩)
                  · skip
                    refine box_step ?hg (N := 17) ?hd (cs := #[.int .u64 0, .int .u64 0, .int .u64 0, .int .u64 0, .int .i64 0]) (t := 42) ?hr ?_; (case hd => rfl); (case hg => rfl); (case hr => first | (go_simp; done) | (go_simp; rfl))
                    intro gb365 hg w55 hbox hb
                    have n0_ := Aside0.mk (blk_below (g := gb333) (o := .cells #[.int .u64 a0_0, .int .u64 a0_1, .int .u64 a0_2, .int .u64 a0_3, .int .i64 a0_4] 40 (0, 0)) (by (with_reducible repeat (first | refine blk_drewN ?_ _ | refine blk_drew ?_ | refine blk_alloc ?_ _)); exact BK333.out) hb)
                    have n1_ := Aside0.mk (blk_below (g := gb334) (o := .cells #[.int .u64 a1_0, .int .u64 a1_1] 24 (0, 0)) (by (with_reducible repeat (first | refine blk_drewN ?_ _ | refine blk_drew ?_ | refine blk_alloc ?_ _)); exact BK334.out) hb)
                    have n2_ := Aside0.mk (blk_below (g := gb346) (o := .cells #[.int .u64 t340, .int .u64 t341, .int .u64 t342, .int .u64 t343, .int .i64 t344] 42 (0, 0)) (by (with_reducible repeat (first | refine blk_drewN ?_ _ | refine blk_drew ?_ | refine blk_alloc ?_ _)); exact BK346.out) hb)
                    have n3_ := Aside0.mk (blk_below (g := gb353) (o := .cells #[.int .u64 t347, .int .u64 t348, .int .u64 t349, .int .u64 t350, .int .i64 t351] 40 (0, 0)) (by (with_reducible repeat (first | refine blk_drewN ?_ _ | refine blk_drew ?_ | refine blk_alloc ?_ _)); exact BK353.out) hb)
                    have n4_ := Aside0.mk (below_step (by repeat (first | (with_reducible first | exact HB.out | apply below_alloc | apply pw_below_drewN | apply below_drew1 | refine below_set ?_ GE333.out | refine below_set ?_ GE334.out | refine below_set ?_ GE346.out | refine below_set ?_ GE353.out) | exact HB.out)) hb)
                    have n5_ := Aside0.mk (hbox)
                    have n6_ := Aside0.mk ((by rw [hg]; exact (below_size (by repeat (first | (with_reducible first | exact HB.out | apply below_alloc | apply pw_below_drewN | apply below_drew1 | refine below_set ?_ GE333.out | refine below_set ?_ GE334.out | refine below_set ?_ GE346.out | refine below_set ?_ GE353.out) | exact HB.out))) : w.heap.size ≤ gb365))
                    have n7_ := Aside0.mk ((by rw [hg]; exact (below_size (by repeat (first | (with_reducible first | exact HB.out | apply below_alloc | apply pw_below_drewN | apply below_drew1 | refine below_set ?_ GE333.out | refine below_set ?_ GE334.out | refine below_set ?_ GE346.out | refine below_set ?_ GE353.out) | exact HB.out))) : w.heap.size ≤ gb365))
                    have n8_ := Aside0.mk ((by rw [hg]; exact Nat.ne_of_lt (blk_lt (g := gb333) (o := .cells #[.int .u64 a0_0, .int .u64 a0_1, .int .u64 a0_2, .int .u64 a0_3, .int .i64 a0_4] 40 (0, 0)) (by (with_reducible repeat (first | refine blk_drewN ?_ _ | refine blk_drew ?_ | refine blk_alloc ?_ _)); exact BK333.out)) : gb333 ≠ gb365))
                    have n9_ := Aside0.mk ((by rw [hg]; exact Nat.ne_of_gt (blk_lt (g := gb333) (o := .cells #[.int .u64 a0_0, .int .u64 a0_1, .int .u64 a0_2, .int .u64 a0_3, .int .i64 a0_4] 40 (0, 0)) (by (with_reducible repeat (first | refine blk_drewN ?_ _ | refine blk_drew ?_ | refine blk_alloc ?_ _)); exact BK333.out)) : gb365 ≠ gb333))
                    have n10_ := Aside0.mk ((by rw [hg]; exact Nat.ne_of_lt (blk_lt (g := gb334) (o := .cells #[.int .u64 a1_0, .int .u64 a1_1] 24 (0, 0)) (by (with_reducible repeat (first | refine blk_drewN ?_ _ | refine blk_drew ?_ | refine blk_alloc ?_ _)); exact BK334.out)) : gb334 ≠ gb365))
                    have n11_ := Aside0.mk ((by rw [hg]; exact Nat.ne_of_gt (blk_lt (g := gb334) (o := .cells #[.int .u64 a1_0, .int .u64 a1_1] 24 (0, 0)) (by (with_reducible repeat (first | refine blk_drewN ?_ _ | refine blk_drew ?_ | refine blk_alloc ?_ _)); exact BK334.out)) : gb365 ≠ gb334))
                    have n12_ := Aside0.mk ((by rw [hg]; exact Nat.ne_of_lt (blk_lt (g := gb346) (o := .cells #[.int .u64 t340, .int .u64 t341, .int .u64 t342, .int .u64 t343, .int .i64 t344] 42 (0, 0)) (by (with_reducible repeat (first | refine blk_drewN ?_ _ | refine blk_drew ?_ | refine blk_alloc ?_ _)); exact BK346.out)) : gb346 ≠ gb365))
                    have n13_ := Aside0.mk ((by rw [hg]; exact Nat.ne_of_gt (blk_lt (g := gb346) (o := .cells #[.int .u64 t340, .int .u64 t341, .int .u64 t342, .int .u64 t343, .int .i64 t344] 42 (0, 0)) (by (with_reducible repeat (first | refine blk_drewN ?_ _ | refine blk_drew ?_ | refine blk_alloc ?_ _)); exact BK346.out)) : gb365 ≠ gb346))
                    have n14_ := Aside0.mk ((by rw [hg]; exact Nat.ne_of_lt (blk_lt (g := gb353) (o := .cells #[.int .u64 t347, .int .u64 t348, .int .u64 t349, .int .u64 t350, .int .i64 t351] 40 (0, 0)) (by (with_reducible repeat (first | refine blk_drewN ?_ _ | refine blk_drew ?_ | refine blk_alloc ?_ _)); exact BK353.out)) : gb353 ≠ gb365))
                    have n15_ := Aside0.mk ((by rw [hg]; exact Nat.ne_of_gt (blk_lt (g := gb353) (o := .cells #[.int .u64 t347, .int .u64 t348, .int .u64 t349, .int .u64 t350, .int .i64 t351] 40 (0, 0)) (by (with_reducible repeat (first | refine blk_drewN ?_ _ | refine blk_drew ?_ | refine blk_alloc ?_ _)); exact BK353.out)) : gb365 ≠ gb353))
                    clear BK333
                    clear BK334
                    clear BK346
                    clear BK353
                    clear HB
                    have BK333 := n0_
                    have BK334 := n1_
                    have BK346 := n2_
                    have BK353 := n3_
                    have HB := n4_
                    have BK365 := n5_
                    have GW365 := n6_
                    have GE365 := n7_
                    have NB333_365 := n8_
                    have NB365_333 := n9_
                    have NB334_365 := n10_
                    have NB365_334 := n11_
                    have NB346_365 := n12_
                    have NB365_346 := n13_
                    have NB353_365 := n14_
                    have NB365_353 := n15_
                    clear n0_ n1_ n2_ n3_ n4_ n5_ n6_ n7_ n8_ n9_ n10_ n11_ n12_ n13_ n14_ n15_
                    clear hb hbox hg
                    refine hK.out _ _ ⟨(blk_cell BK333.out 0).trans rfl, (blk_cell BK333.out 1).trans rfl, (blk_cell BK333.out 2).trans rfl, (blk_cell BK333.out 3).trans rfl, (blk_cell BK333.out 4).trans rfl, (blk_cell BK334.out 0).trans rfl, (blk_cell BK334.out 1).trans rfl⟩ (fun hHeld => ?_)
                    clear hK K
                    refine norm_ (a' := ?_) ?_ ?_
                    rotate_left
                    · show Act.put _ (some 17) _ = _
                      simp only [Act.put, List.setIfInBounds_toArray, List.set_cons_zero, List.set_cons_succ, i64_w, i32_w]
                      rfl
                    refine one_ (i := 4) (N := some 39) #[true, true, true, true, true, false, false, false, true, false, false] rfl rfl (one_of HT_.out (by kernel_rfl)) (by decide) (fun K hK => ?_)
                    refine goes_ Try.func24 (by kernel_rfl) rfl #[.agg #[.int .u64 t354, .int .u64 t355, .int .u64 t356, .int .u64 t357, .int .i64 t358], .agg #[.int .u64 a1_0, .int .u64 a1_1], .int .i64 a2] (by rfl) rfl rfl (by (try simp only [List.map_toArray, List.map_cons, List.map_nil]); first | done | rfl | (simp only [List.length_drop, List.length_take]; rfl)) ?_
                    with_reducible refine (register_Accept.calls k t354 t355 t356 t357 t358 a1_0 a1_1 a2 t359 t360 t361 t362 t363 t364 _ A11.out).mono ?_
                    rintro e w56 ⟨rfl, hb⟩
                    refine ⟨_, rfl, ?_⟩
                    have n0_ := Aside0.mk (blk_below (g := gb333) (o := .cells #[.int .u64 a0_0, .int .u64 a0_1, .int .u64 a0_2, .int .u64 a0_3, .int .i64 a0_4] 40 (0, 0)) (by (with_reducible repeat (first | refine blk_drewN ?_ _ | refine blk_drew ?_ | refine blk_alloc ?_ _)); exact BK333.out) hb)
                    have n1_ := Aside0.mk (blk_below (g := gb334) (o := .cells #[.int .u64 a1_0, .int .u64 a1_1] 24 (0, 0)) (by (with_reducible repeat (first | refine blk_drewN ?_ _ | refine blk_drew ?_ | refine blk_alloc ?_ _)); exact BK334.out) hb)
                    have n2_ := Aside0.mk (blk_below (g := gb346) (o := .cells #[.int .u64 t340, .int .u64 t341, .int .u64 t342, .int .u64 t343, .int .i64 t344] 42 (0, 0)) (by (with_reducible repeat (first | refine blk_drewN ?_ _ | refine blk_drew ?_ | refine blk_alloc ?_ _)); exact BK346.out) hb)
                    have n3_ := Aside0.mk (blk_below (g := gb353) (o := .cells #[.int .u64 t347, .int .u64 t348, .int .u64 t349, .int .u64 t350, .int .i64 t351] 40 (0, 0)) (by (with_reducible repeat (first | refine blk_drewN ?_ _ | refine blk_drew ?_ | refine blk_alloc ?_ _)); exact BK353.out) hb)
                    have n4_ := Aside0.mk (blk_below (g := gb365) (o := .cells #[.int .u64 0, .int .u64 0, .int .u64 0, .int .u64 0, .int .i64 0] 42 (0, 0)) (by (with_reducible repeat (first | refine blk_drewN ?_ _ | refine blk_drew ?_ | refine blk_alloc ?_ _)); exact BK365.out) hb)
                    have n5_ := Aside0.mk (below_step (by repeat (first | (with_reducible first | exact HB.out | apply below_alloc | apply pw_below_drewN | apply below_drew1 | refine below_set ?_ GE333.out | refine below_set ?_ GE334.out | refine below_set ?_ GE346.out | refine below_set ?_ GE353.out | refine below_set ?_ GE365.out) | exact HB.out)) hb)
                    clear BK333
                    clear BK334
                    clear BK346
                    clear BK353
                    clear BK365
                    clear HB
                    have BK333 := n0_
                    have BK334 := n1_
                    have BK346 := n2_
                    have BK353 := n3_
                    have BK365 := n4_
                    have HB := n5_
                    clear n0_ n1_ n2_ n3_ n4_ n5_
                    (try clear hb)
                    (try clear hb2)
                    (try clear hk)
                    (try clear hi)
                    refine hK.out _ _ ⟨(blk_cell BK333.out 0).trans rfl, (blk_cell BK333.out 1).trans rfl, (blk_cell BK333.out 2).trans rfl, (blk_cell BK333.out 3).trans rfl, (blk_cell BK333.out 4).trans rfl, (blk_cell BK334.out 0).trans rfl, (blk_cell BK334.out 1).trans rfl⟩ (fun hHeld => ?_)
                    clear hK K
                    refine norm_ (a' := ?_) ?_ ?_
                    rotate_left
                    · show Act.put _ (some 39) _ = _
                      simp only [Act.put, List.setIfInBounds_toArray, List.set_cons_zero, List.set_cons_succ, i64_w, i32_w]
                      rfl
                    refine pure_ (i := 5) (N := some 34) (v := ?_) (a' := ?_) #[true, true, true, true, true, true, false, false, true, false, false] rfl rfl (any_of HT_.out (by kernel_rfl)) (fun _ _ _ h => h) (Or.inl ⟨by rfl, ?_⟩) ?_ ?_
                    rotate_left
                    · intro w'
                      go_simp
                      with_reducible rfl
                    rotate_left
                    · simp only [Act.put, List.setIfInBounds_toArray, List.set_cons_zero, List.set_cons_succ, i64_w, i32_w]
                      rfl
                    refine pure_ (i := 6) (N := some 40) (v := ?_) (a' := ?_) #[true, true, true, true, true, true, true, false, true, false, false] rfl rfl (any_of HT_.out (by kernel_rfl)) (fun _ _ _ h => h) (Or.inl ⟨by rfl, ?_⟩) ?_ ?_
                    rotate_left
                    · intro w'
                      go_simp
                      with_reducible rfl
                    rotate_left
                    · simp only [Act.put, List.setIfInBounds_toArray, List.set_cons_zero, List.set_cons_succ, i64_w, i32_w]
                      rfl
                    refine pure_ (i := 7) (N := some 41) (v := ?_) (a' := ?_) #[true, true, true, true, true, true, true, true, true, false, false] rfl rfl (any_of HT_.out (by kernel_rfl)) (fun _ _ _ h => h) (Or.inl ⟨by rfl, ?_⟩) ?_ ?_
                    rotate_left
                    · intro w'
                      go_simp
                      with_reducible rfl
                    rotate_left
                    · simp only [Act.put, List.setIfInBounds_toArray, List.set_cons_zero, List.set_cons_succ, i64_w, i32_w]
                      rfl
                    exact norm_ (by simp only [putAll, Act.put, List.setIfInBounds_toArray, List.set_cons_zero, List.set_cons_succ]) (hCont (gb365) _ ⟨hHeld, (by (with_reducible repeat (first | refine blk_drewN ?_ _ | refine blk_drew ?_ | refine blk_alloc ?_ _)); exact BK333.out), (by (with_reducible repeat (first | refine blk_drewN ?_ _ | refine blk_drew ?_ | refine blk_alloc ?_ _)); exact BK334.out), (by (with_reducible repeat (first | refine blk_drewN ?_ _ | refine blk_drew ?_ | refine blk_alloc ?_ _)); exact BK346.out), (by (with_reducible repeat (first | refine blk_drewN ?_ _ | refine blk_drew ?_ | refine blk_alloc ?_ _)); exact BK353.out), (by (with_reducible repeat (first | refine blk_drewN ?_ _ | refine blk_drew ?_ | refine blk_alloc ?_ _)); exact BK365.out), GW365.out, GE365.out, NB333_365.out, NB365_333.out, NB334_365.out, NB365_334.out, NB346_365.out, NB365_346.out, NB353_365.out, NB365_353.out, (by repeat (first | (with_reducible first | exact HB.out | apply below_alloc | apply pw_below_drewN | apply below_drew1 | refine below_set ?_ GE333.out | refine below_set ?_ GE334.out | refine below_set ?_ GE346.out | refine below_set ?_ GE353.out | refine below_set ?_ GE365.out) | exact HB.out))⟩)
                · skip
                  refine box_step ?hg (N := 17) ?hd (cs := #[.int .u64 0, .int .u64 0, .int .u64 0, .int .u64 0, .int .i64 0]) (t := 42) ?hr ?_; (case hd => rfl); (case hg => rfl); (case hr => first | (go_simp; done) | (go_simp; rfl))
                  intro gb365 hg w54 hbox hb
                  have n0_ := Aside0.mk (blk_below (g := gb333) (o := .cells #[.int .u64 a0_0, .int .u64 a0_1, .int .u64 a0_2, .int .u64 a0_3, .int .i64 a0_4] 40 (0, 0)) (by (with_reducible repeat (first | refine blk_drewN ?_ _ | refine blk_drew ?_ | refine blk_alloc ?_ _)); exact BK333.out) hb)
                  have n1_ := Aside0.mk (blk_below (g := gb334) (o := .cells #[.int .u64 a1_0, .int .u64 a1_1] 24 (0, 0)) (by (with_reducible repeat (first | refine blk_drewN ?_ _ | refine blk_drew ?_ | refine blk_alloc ?_ _)); exact BK334.out) hb)
                  have n2_ := Aside0.mk (blk_below (g := gb346) (o := .cells #[.int .u64 t340, .int .u64 t341, .int .u64 t342, .int .u64 t343, .int .i64 t344] 42 (0, 0)) (by (with_reducible repeat (first | refine blk_drewN ?_ _ | refine blk_drew ?_ | refine blk_alloc ?_ _)); exact BK346.out) hb)
                  have n3_ := Aside0.mk (blk_below (g := gb353) (o := .cells #[.int .u64 t347, .int .u64 t348, .int .u64 t349, .int .u64 t350, .int .i64 t351] 40 (0, 0)) (by (with_reducible repeat (first | refine blk_drewN ?_ _ | refine blk_drew ?_ | refine blk_alloc ?_ _)); exact BK353.out) hb)
                  have n4_ := Aside0.mk (below_step (by repeat (first | (with_reducible first | exact HB.out | apply below_alloc | apply pw_below_drewN | apply below_drew1 | refine below_set ?_ GE333.out | refine below_set ?_ GE334.out | refine below_set ?_ GE346.out | refine below_set ?_ GE353.out) | exact HB.out)) hb)
                  have n5_ := Aside0.mk (hbox)
                  have n6_ := Aside0.mk ((by rw [hg]; exact (below_size (by repeat (first | (with_reducible first | exact HB.out | apply below_alloc | apply pw_below_drewN | apply below_drew1 | refine below_set ?_ GE333.out | refine below_set ?_ GE334.out | refine below_set ?_ GE346.out | refine below_set ?_ GE353.out) | exact HB.out))) : w.heap.size ≤ gb365))
                  have n7_ := Aside0.mk ((by rw [hg]; exact (below_size (by repeat (first | (with_reducible first | exact HB.out | apply below_alloc | apply pw_below_drewN | apply below_drew1 | refine below_set ?_ GE333.out | refine below_set ?_ GE334.out | refine below_set ?_ GE346.out | refine below_set ?_ GE353.out) | exact HB.out))) : w.heap.size ≤ gb365))
                  have n8_ := Aside0.mk ((by rw [hg]; exact Nat.ne_of_lt (blk_lt (g := gb333) (o := .cells #[.int .u64 a0_0, .int .u64 a0_1, .int .u64 a0_2, .int .u64 a0_3, .int .i64 a0_4] 40 (0, 0)) (by (with_reducible repeat (first | refine blk_drewN ?_ _ | refine blk_drew ?_ | refine blk_alloc ?_ _)); exact BK333.out)) : gb333 ≠ gb365))
                  have n9_ := Aside0.mk ((by rw [hg]; exact Nat.ne_of_gt (blk_lt (g := gb333) (o := .cells #[.int .u64 a0_0, .int .u64 a0_1, .int .u64 a0_2, .int .u64 a0_3, .int .i64 a0_4] 40 (0, 0)) (by (with_reducible repeat (first | refine blk_drewN ?_ _ | refine blk_drew ?_ | refine blk_alloc ?_ _)); exact BK333.out)) : gb365 ≠ gb333))
                  have n10_ := Aside0.mk ((by rw [hg]; exact Nat.ne_of_lt (blk_lt (g := gb334) (o := .cells #[.int .u64 a1_0, .int .u64 a1_1] 24 (0, 0)) (by (with_reducible repeat (first | refine blk_drewN ?_ _ | refine blk_drew ?_ | refine blk_alloc ?_ _)); exact BK334.out)) : gb334 ≠ gb365))
                  have n11_ := Aside0.mk ((by rw [hg]; exact Nat.ne_of_gt (blk_lt (g := gb334) (o := .cells #[.int .u64 a1_0, .int .u64 a1_1] 24 (0, 0)) (by (with_reducible repeat (first | refine blk_drewN ?_ _ | refine blk_drew ?_ | refine blk_alloc ?_ _)); exact BK334.out)) : gb365 ≠ gb334))
                  have n12_ := Aside0.mk ((by rw [hg]; exact Nat.ne_of_lt (blk_lt (g := gb346) (o := .cells #[.int .u64 t340, .int .u64 t341, .int .u64 t342, .int .u64 t343, .int .i64 t344] 42 (0, 0)) (by (with_reducible repeat (first | refine blk_drewN ?_ _ | refine blk_drew ?_ | refine blk_alloc ?_ _)); exact BK346.out)) : gb346 ≠ gb365))
                  have n13_ := Aside0.mk ((by rw [hg]; exact Nat.ne_of_gt (blk_lt (g := gb346) (o := .cells #[.int .u64 t340, .int .u64 t341, .int .u64 t342, .int .u64 t343, .int .i64 t344] 42 (0, 0)) (by (with_reducible repeat (first | refine blk_drewN ?_ _ | refine blk_drew ?_ | refine blk_alloc ?_ _)); exact BK346.out)) : gb365 ≠ gb346))
                  have n14_ := Aside0.mk ((by rw [hg]; exact Nat.ne_of_lt (blk_lt (g := gb353) (o := .cells #[.int .u64 t347, .int .u64 t348, .int .u64 t349, .int .u64 t350, .int .i64 t351] 40 (0, 0)) (by (with_reducible repeat (first | refine blk_drewN ?_ _ | refine blk_drew ?_ | refine blk_alloc ?_ _)); exact BK353.out)) : gb353 ≠ gb365))
                  have n15_ := Aside0.mk ((by rw [hg]; exact Nat.ne_of_gt (blk_lt (g := gb353) (o := .cells #[.int .u64 t347, .int .u64 t348, .int .u64 t349, .int .u64 t350, .int .i64 t351] 40 (0, 0)) (by (with_reducible repeat (first | refine blk_drewN ?_ _ | refine blk_drew ?_ | refine blk_alloc ?_ _)); exact BK353.out)) : gb365 ≠ gb353))
                  clear BK333
                  clear BK334
                  clear BK346
                  clear BK353
                  clear HB
                  have BK333 := n0_
                  have BK334 := n1_
                  have BK346 := n2_
                  have BK353 := n3_
                  have HB := n4_
                  have BK365 := n5_
                  have GW365 := n6_
                  have GE365 := n7_
                  have NB333_365 := n8_
                  have NB365_333 := n9_
                  have NB334_365 := n10_
                  have NB365_334 := n11_
                  have NB346_365 := n12_
                  have NB365_346 := n13_
                  have NB353_365 := n14_
                  have NB365_353 := n15_
                  clear n0_ n1_ n2_ n3_ n4_ n5_ n6_ n7_ n8_ n9_ n10_ n11_ n12_ n13_ n14_ n15_
                  clear hb hbox hg
                  refine hK.out _ _ ⟨(blk_cell BK333.out 0).trans rfl, (blk_cell BK333.out 1).trans rfl, (blk_cell BK333.out 2).trans rfl, (blk_cell BK333.out 3).trans rfl, (blk_cell BK333.out 4).trans rfl, (blk_cell BK334.out 0).trans rfl, (blk_cell BK334.out 1).trans rfl⟩ (fun hHeld => ?_)
                  clear hK K
                  refine norm_ (a' := ?_) ?_ ?_
                  rotate_left
                  · show Act.put _ (some 17) _ = _
                    simp only [Act.put, List.setIfInBounds_toArray, List.set_cons_zero, List.set_cons_succ, i64_w, i32_w]
                    rfl
                  refine one_ (i := 1) (N := some 36) #[true, true, true, true, false, false, false, false, true, false, false] rfl rfl (one_of HT_.out (by kernel_rfl)) (by decide) (fun K hK => ?_)
                  refine goes_ Try.func23 (by kernel_rfl) rfl #[.agg #[.int .u64 a0_0, .int .u64 a0_1, .int .u64 a0_2, .int .u64 a0_3, .int .i64 a0_4]] (by rfl) rfl rfl (by (try simp only [List.map_toArray, List.map_cons, List.map_nil]); first | done | rfl | (simp only [List.length_drop, List.length_take]; rfl)) ?_
                  with_reducible refine (winnowlaw12_own.calls a0_0 a0_1 a0_2 a0_3 a0_4 t354 t355 t356 t357 t358 _ A10.out).mono ?_
                  rintro e w55 ⟨rfl, hb⟩
                  refine ⟨_, rfl, ?_⟩
                  have n0_ := Aside0.mk (blk_below (g := gb333) (o := .cells #[.int .u64 a0_0, .int .u64 a0_1, .int .u64 a0_2, .int .u64 a0_3, .int .i64 a0_4] 40 (0, 0)) (by (with_reducible repeat (first | refine blk_drewN ?_ _ | refine blk_drew ?_ | refine blk_alloc ?_ _)); exact BK333.out) hb)
                  have n1_ := Aside0.mk (blk_below (g := gb334) (o := .cells #[.int .u64 a1_0, .int .u64 a1_1] 24 (0, 0)) (by (with_reducible repeat (first | refine blk_drewN ?_ _ | refine blk_drew ?_ | refine blk_alloc ?_ _)); exact BK334.out) hb)
                  have n2_ := Aside0.mk (blk_below (g := gb346) (o := .cells #[.int .u64 t340, .int .u64 t341, .int .u64 t342, .int .u64 t343, .int .i64 t344] 42 (0, 0)) (by (with_reducible repeat (first | refine blk_drewN ?_ _ | refine blk_drew ?_ | refine blk_alloc ?_ _)); exact BK346.out) hb)
                  have n3_ := Aside0.mk (blk_below (g := gb353) (o := .cells #[.int .u64 t347, .int .u64 t348, .int .u64 t349, .int .u64 t350, .int .i64 t351] 40 (0, 0)) (by (with_reducible repeat (first | refine blk_drewN ?_ _ | refine blk_drew ?_ | refine blk_alloc ?_ _)); exact BK353.out) hb)
                  have n4_ := Aside0.mk (blk_below (g := gb365) (o := .cells #[.int .u64 0, .int .u64 0, .int .u64 0, .int .u64 0, .int .i64 0] 42 (0, 0)) (by (with_reducible repeat (first | refine blk_drewN ?_ _ | refine blk_drew ?_ | refine blk_alloc ?_ _)); exact BK365.out) hb)
                  have n5_ := Aside0.mk (below_step (by repeat (first | (with_reducible first | exact HB.out | apply below_alloc | apply pw_below_drewN | apply below_drew1 | refine below_set ?_ GE333.out | refine below_set ?_ GE334.out | refine below_set ?_ GE346.out | refine below_set ?_ GE353.out | refine below_set ?_ GE365.out) | exact HB.out)) hb)
                  clear BK333
                  clear BK334
                  clear BK346
                  clear BK353
                  clear BK365
                  clear HB
                  have BK333 := n0_
                  have BK334 := n1_
                  have BK346 := n2_
                  have BK353 := n3_
                  have BK365 := n4_
                  have HB := n5_
                  clear n0_ n1_ n2_ n3_ n4_ n5_
                  (try clear hb)
                  (try clear hb2)
                  (try clear hk)
                  (try clear hi)
                  refine hK.out _ _ ⟨(blk_cell BK333.out 0).trans rfl, (blk_cell BK333.out 1).trans rfl, (blk_cell BK333.out 2).trans rfl, (blk_cell BK333.out 3).trans rfl, (blk_cell BK333.out 4).trans rfl, (blk_cell BK334.out 0).trans rfl, (blk_cell BK334.out 1).trans rfl⟩ (fun hHeld => ?_)
                  clear hK K
                  refine norm_ (a' := ?_) ?_ ?_
                  rotate_left
                  · show Act.put _ (some 36) _ = _
                    simp only [Act.put, List.setIfInBounds_toArray, List.set_cons_zero, List.set_cons_succ, i64_w, i32_w]
                    rfl
                  refine one_ (i := 4) (N := some 39) #[true, true, true, true, true, false, false, false, true, false, false] rfl rfl (one_of HT_.out (by kernel_rfl)) (by decide) (fun K hK => ?_)
                  refine goes_ Try.func24 (by kernel_rfl) rfl #[.agg #[.int .u64 t354, .int .u64 t355, .int .u64 t356, .int .u64 t357, .int .i64 t358], .agg #[.int .u64 a1_0, .int .u64 a1_1], .int .i64 a2] (by rfl) rfl rfl (by (try simp only [List.map_toArray, List.map_cons, List.map_nil]); first | done | rfl | (simp only [List.length_drop, List.length_take]; rfl)) ?_
                  with_reducible refine (register_Accept.calls k t354 t355 t356 t357 t358 a1_0 a1_1 a2 t359 t360 t361 t362 t363 t364 _ A11.out).mono ?_
                  rintro e w56 ⟨rfl, hb⟩
                  refine ⟨_, rfl, ?_⟩
                  have n0_ := Aside0.mk (blk_below (g := gb333) (o := .cells #[.int .u64 a0_0, .int .u64 a0_1, .int .u64 a0_2, .int .u64 a0_3, .int .i64 a0_4] 40 (0, 0)) (by (with_reducible repeat (first | refine blk_drewN ?_ _ | refine blk_drew ?_ | refine blk_alloc ?_ _)); exact BK333.out) hb)
                  have n1_ := Aside0.mk (blk_below (g := gb334) (o := .cells #[.int .u64 a1_0, .int .u64 a1_1] 24 (0, 0)) (by (with_reducible repeat (first | refine blk_drewN ?_ _ | refine blk_drew ?_ | refine blk_alloc ?_ _)); exact BK334.out) hb)
                  have n2_ := Aside0.mk (blk_below (g := gb346) (o := .cells #[.int .u64 t340, .int .u64 t341, .int .u64 t342, .int .u64 t343, .int .i64 t344] 42 (0, 0)) (by (with_reducible repeat (first | refine blk_drewN ?_ _ | refine blk_drew ?_ | refine blk_alloc ?_ _)); exact BK346.out) hb)
                  have n3_ := Aside0.mk (blk_below (g := gb353) (o := .cells #[.int .u64 t347, .int .u64 t348, .int .u64 t349, .int .u64 t350, .int .i64 t351] 40 (0, 0)) (by (with_reducible repeat (first | refine blk_drewN ?_ _ | refine blk_drew ?_ | refine blk_alloc ?_ _)); exact BK353.out) hb)
                  have n4_ := Aside0.mk (blk_below (g := gb365) (o := .cells #[.int .u64 0, .int .u64 0, .int .u64 0, .int .u64 0, .int .i64 0] 42 (0, 0)) (by (with_reducible repeat (first | refine blk_drewN ?_ _ | refine blk_drew ?_ | refine blk_alloc ?_ _)); exact BK365.out) hb)
                  have n5_ := Aside0.mk (below_step (by repeat (first | (with_reducible first | exact HB.out | apply below_alloc | apply pw_below_drewN | apply below_drew1 | refine below_set ?_ GE333.out | refine below_set ?_ GE334.out | refine below_set ?_ GE346.out | refine below_set ?_ GE353.out | refine below_set ?_ GE365.out) | exact HB.out)) hb)
                  clear BK333
                  clear BK334
                  clear BK346
                  clear BK353
                  clear BK365
                  clear HB
                  have BK333 := n0_
                  have BK334 := n1_
                  have BK346 := n2_
                  have BK353 := n3_
                  have BK365 := n4_
                  have HB := n5_
                  clear n0_ n1_ n2_ n3_ n4_ n5_
                  (try clear hb)
                  (try clear hb2)
                  (try clear hk)
                  (try clear hi)
                  refine hK.out _ _ ⟨(blk_cell BK333.out 0).trans rfl, (blk_cell BK333.out 1).trans rfl, (blk_cell BK333.out 2).trans rfl, (blk_cell BK333.out 3).trans rfl, (blk_cell BK333.out 4).trans rfl, (blk_cell BK334.out 0).trans rfl, (blk_cell BK334.out 1).trans rfl⟩ (fun hHeld => ?_)
                  clear hK K
                  refine norm_ (a' := ?_) ?_ ?_
                  rotate_left
                  · show Act.put _ (some 39) _ = _
                    simp only [Act.put, List.setIfInBounds_toArray, List.set_cons_zero, List.set_cons_succ, i64_w, i32_w]
                    rfl
                  refine pure_ (i := 5) (N := some 34) (v := ?_) (a' := ?_) #[true, true, true, true, true, true, false, false, true, false, false] rfl rfl (any_of HT_.out (by kernel_rfl)) (fun _ _ _ h => h) (Or.inl ⟨by rfl, ?_⟩) ?_ ?_
                  rotate_left
                  · intro w'
                    go_simp
                    with_reducible rfl
                  rotate_left
                  · simp only [Act.put, List.setIfInBounds_toArray, List.set_cons_zero, List.set_cons_succ, i64_w, i32_w]
                    rfl
                  refine pure_ (i := 6) (N := some 40) (v := ?_) (a' := ?_) #[true, true, true, true, true, true, true, false, true, false, false] rfl rfl (any_of HT_.out (by kernel_rfl)) (fun _ _ _ h => h) (Or.inl ⟨by rfl, ?_⟩) ?_ ?_
                  rotate_left
                  · intro w'
                    go_simp
                    with_reducible rfl
                  rotate_left
                  · simp only [Act.put, List.setIfInBounds_toArray, List.set_cons_zero, List.set_cons_succ, i64_w, i32_w]
                    rfl
                  refine pure_ (i := 7) (N := some 41) (v := ?_) (a' := ?_) #[true, true, true, true, true, true, true, true, true, false, false] rfl rfl (any_of HT_.out (by kernel_rfl)) (fun _ _ _ h => h) (Or.inl ⟨by rfl, ?_⟩) ?_ ?_
                  rotate_left
                  · intro w'
                    go_simp
                    with_reducible rfl
                  rotate_left
                  · simp only [Act.put, List.setIfInBounds_toArray, List.set_cons_zero, List.set_cons_succ, i64_w, i32_w]
                    rfl
                  exact norm_ (by simp only [putAll, Act.put, List.setIfInBounds_toArray, List.set_cons_zero, List.set_cons_succ]) (hCont (gb365) _ ⟨hHeld, (by (with_reducible repeat (first | refine blk_drewN ?_ _ | refine blk_drew ?_ | refine blk_alloc ?_ _)); exact BK333.out), (by (with_reducible repeat (first | refine blk_drewN ?_ _ | refine blk_drew ?_ | refine blk_alloc ?_ _)); exact BK334.out), (by (with_reducible repeat (first | refine blk_drewN ?_ _ | refine blk_drew ?_ | refine blk_alloc ?_ _)); exact BK346.out), (by (with_reducible repeat (first | refine blk_drewN ?_ _ | refine blk_drew ?_ | refine blk_alloc ?_ _)); exact BK353.out), (by (with_reducible repeat (first | refine blk_drewN ?_ _ | refine blk_drew ?_ | refine blk_alloc ?_ _)); exact BK365.out), GW365.out, GE365.out, NB333_365.out, NB365_333.out, NB334_365.out, NB365_334.out, NB346_365.out, NB365_346.out, NB353_365.out, NB365_353.out, (by repeat (first | (with_reducible first | exact HB.out | apply below_alloc | apply pw_below_drewN | apply below_drew1 | refine below_set ?_ GE333.out | refine below_set ?_ GE334.out | refine below_set ?_ GE346.out | refine below_set ?_ GE353.out | refine below_set ?_ GE365.out) | exact HB.out))⟩)
              rintro gb365 w57 ⟨hS_, h0_, h1_, h2_, h3_, h4_, h5_, h6_, h7_, h8_, h9_, h10_, h11_, h12_, h13_, h14_, h15_⟩
              have n0_ : Aside0 (w57.heap[gb333]? = some (.cells #[.int .u64 a0_0, .int .u64 a0_1, .int .u64 a0_2, .int .u64 a0_3, .int .i64 a0_4] 40 (0, 0))) := ⟨h0_⟩
              have n1_ : Aside0 (w57.heap[gb334]? = some (.cells #[.int .u64 a1_0, .int .u64 a1_1] 24 (0, 0))) := ⟨h1_⟩
              have n2_ : Aside0 (w57.heap[gb346]? = some (.cells #[.int .u64 t340, .int .u64 t341, .int .u64 t342, .int .u64 t343, .int .i64 t344] 42 (0, 0))) := ⟨h2_⟩
              have n3_ : Aside0 (w57.heap[gb353]? = some (.cells #[.int .u64 t347, .int .u64 t348, .int .u64 t349, .int .u64 t350, .int .i64 t351] 40 (0, 0))) := ⟨h3_⟩
              have n4_ : Aside0 (w57.heap[gb365]? = some (.cells #[.int .u64 0, .int .u64 0, .int .u64 0, .int .u64 0, .int .i64 0] 42 (0, 0))) := ⟨h4_⟩
              have n5_ : Aside0 (w.heap.size ≤ gb365) := ⟨h5_⟩
              have n6_ : Aside0 (w.heap.size ≤ gb365) := ⟨h6_⟩
              have n7_ : Aside0 (gb333 ≠ gb365) := ⟨h7_⟩
              have n8_ : Aside0 (gb365 ≠ gb333) := ⟨h8_⟩
              have n9_ : Aside0 (gb334 ≠ gb365) := ⟨h9_⟩
              have n10_ : Aside0 (gb365 ≠ gb334) := ⟨h10_⟩
              have n11_ : Aside0 (gb346 ≠ gb365) := ⟨h11_⟩
              have n12_ : Aside0 (gb365 ≠ gb346) := ⟨h12_⟩
              have n13_ : Aside0 (gb353 ≠ gb365) := ⟨h13_⟩
              have n14_ : Aside0 (gb365 ≠ gb353) := ⟨h14_⟩
              have n15_ : Aside0 (Below w.heap.size w w57) := ⟨h15_⟩
              clear BK333
              clear BK334
              clear BK346
              clear BK353
              clear HB
              clear h0_ h1_ h2_ h3_ h4_ h5_ h6_ h7_ h8_ h9_ h10_ h11_ h12_ h13_ h14_ h15_
              have BK333 := n0_
              have BK334 := n1_
              have BK346 := n2_
              have BK353 := n3_
              have BK365 := n4_
              have GW365 := n5_
              have GE365 := n6_
              have NB333_365 := n7_
              have NB365_333 := n8_
              have NB334_365 := n9_
              have NB365_334 := n10_
              have NB346_365 := n11_
              have NB365_346 := n12_
              have NB353_365 := n13_
              have NB365_353 := n14_
              have HB := n15_
              clear n0_ n1_ n2_ n3_ n4_ n5_ n6_ n7_ n8_ n9_ n10_ n11_ n12_ n13_ n14_ n15_
              have hHeld : w57.cell? ⟨gb333, 0, none⟩ = some (.int .u64 a0_0) ∧ w57.cell? ⟨gb333, 1, none⟩ = some (.int .u64 a0_1) ∧ w57.cell? ⟨gb333, 2, none⟩ = some (.int .u64 a0_2) ∧ w57.cell? ⟨gb333, 3, none⟩ = some (.int .u64 a0_3) ∧ w57.cell? ⟨gb333, 4, none⟩ = some (.int .i64 a0_4) ∧ w57.cell? ⟨gb334, 0, none⟩ = some (.int .u64 a1_0) ∧ w57.cell? ⟨gb334, 1, none⟩ = some (.int .u64 a1_1) := hS_
              refine norm_ (a' := ?_) ?_ ?_
              rotate_left
              · simp only [putAll, Act.put, List.setIfInBounds_toArray, List.set_cons_zero, List.set_cons_succ]
                rfl
              refine one_ (i := 9) (N := none) #[true, true, true, true, true, true, true, true, true, true, false] rfl rfl (one_of HT_.out (by kernel_rfl)) (by decide) (fun K hK => ?_)
              have hs58 : w57.cell? ⟨gb365, 0, none⟩ = some (.int .u64 0) := (blk_cell BK365.out 0).trans rfl
              have hfs58 := blk_frozen BK365.out 0
              have hns58_0 := NB333_365.out
              have hns58_1 := NB334_365.out
              have hns58_2 := NB346_365.out
              have hns58_3 := NB353_365.out
              have hms58_0 := NB365_333.out
              have hms58_1 := NB365_334.out
              have hms58_2 := NB365_346.out
              have hms58_3 := NB365_353.out
              have hs59 : w57.cell? ⟨gb365, 1, none⟩ = some (.int .u64 0) := (blk_cell BK365.out 1).trans rfl
              have hfs59 := blk_frozen BK365.out 1
              have hns59_0 := NB333_365.out
              have hns59_1 := NB334_365.out
              have hns59_2 := NB346_365.out
              have hns59_3 := NB353_365.out
              have hms59_0 := NB365_333.out
              have hms59_1 := NB365_334.out
              have hms59_2 := NB365_346.out
              have hms59_3 := NB365_353.out
              have hs60 : w57.cell? ⟨gb365, 2, none⟩ = some (.int .u64 0) := (blk_cell BK365.out 2).trans rfl
              have hfs60 := blk_frozen BK365.out 2
              have hns60_0 := NB333_365.out
              have hns60_1 := NB334_365.out
              have hns60_2 := NB346_365.out
              have hns60_3 := NB353_365.out
              have hms60_0 := NB365_333.out
              have hms60_1 := NB365_334.out
              have hms60_2 := NB365_346.out
              have hms60_3 := NB365_353.out
              have hs61 : w57.cell? ⟨gb365, 3, none⟩ = some (.int .u64 0) := (blk_cell BK365.out 3).trans rfl
              have hfs61 := blk_frozen BK365.out 3
              have hns61_0 := NB333_365.out
              have hns61_1 := NB334_365.out
              have hns61_2 := NB346_365.out
              have hns61_3 := NB353_365.out
              have hms61_0 := NB365_333.out
              have hms61_1 := NB365_334.out
              have hms61_2 := NB365_346.out
              have hms61_3 := NB365_353.out
              have hs62 : w57.cell? ⟨gb365, 4, none⟩ = some (.int .i64 0) := (blk_cell BK365.out 4).trans rfl
              have hfs62 := blk_frozen BK365.out 4
              have hns62_0 := NB333_365.out
              have hns62_1 := NB334_365.out
              have hns62_2 := NB346_365.out
              have hns62_3 := NB353_365.out
              have hms62_0 := NB365_333.out
              have hms62_1 := NB365_334.out
              have hms62_2 := NB365_346.out
              have hms62_3 := NB365_353.out
              refine skip_ (w1 := ?_) (by rfl) rfl ?_ ?_
              rotate_left
              · go_simp
                rfl
              refine hK.out _ _ ⟨((cell_far (p := ⟨gb365, _, none⟩) NB333_365.out _).trans (((cell_far (p := ⟨gb365, _, none⟩) NB333_365.out _).trans (((cell_far (p := ⟨gb365, _, none⟩) NB333_365.out _).trans (((cell_far (p := ⟨gb365, _, none⟩) NB333_365.out _).trans (((cell_far (p := ⟨gb365, _, none⟩) NB333_365.out _).trans (hHeld.1)))))))))), ((cell_far (p := ⟨gb365, _, none⟩) NB333_365.out _).trans (((cell_far (p := ⟨gb365, _, none⟩) NB333_365.out _).trans (((cell_far (p := ⟨gb365, _, none⟩) NB333_365.out _).trans (((cell_far (p := ⟨gb365, _, none⟩) NB333_365.out _).trans (((cell_far (p := ⟨gb365, _, none⟩) NB333_365.out _).trans (hHeld.2.1)))))))))), ((cell_far (p := ⟨gb365, _, none⟩) NB333_365.out _).trans (((cell_far (p := ⟨gb365, _, none⟩) NB333_365.out _).trans (((cell_far (p := ⟨gb365, _, none⟩) NB333_365.out _).trans (((cell_far (p := ⟨gb365, _, none⟩) NB333_365.out _).trans (((cell_far (p := ⟨gb365, _, none⟩) NB333_365.out _).trans (hHeld.2.2.1)))))))))), ((cell_far (p := ⟨gb365, _, none⟩) NB333_365.out _).trans (((cell_far (p := ⟨gb365, _, none⟩) NB333_365.out _).trans (((cell_far (p := ⟨gb365, _, none⟩) NB333_365.out _).trans (((cell_far (p := ⟨gb365, _, none⟩) NB333_365.out _).trans (((cell_far (p := ⟨gb365, _, none⟩) NB333_365.out _).trans (hHeld.2.2.2.1)))))))))), ((cell_far (p := ⟨gb365, _, none⟩) NB333_365.out _).trans (((cell_far (p := ⟨gb365, _, none⟩) NB333_365.out _).trans (((cell_far (p := ⟨gb365, _, none⟩) NB333_365.out _).trans (((cell_far (p := ⟨gb365, _, none⟩) NB333_365.out _).trans (((cell_far (p := ⟨gb365, _, none⟩) NB333_365.out _).trans (hHeld.2.2.2.2.1)))))))))), ((cell_far (p := ⟨gb365, _, none⟩) NB334_365.out _).trans (((cell_far (p := ⟨gb365, _, none⟩) NB334_365.out _).trans (((cell_far (p := ⟨gb365, _, none⟩) NB334_365.out _).trans (((cell_far (p := ⟨gb365, _, none⟩) NB334_365.out _).trans (((cell_far (p := ⟨gb365, _, none⟩) NB334_365.out _).trans (hHeld.2.2.2.2.2.1)))))))))), ((cell_far (p := ⟨gb365, _, none⟩) NB334_365.out _).trans (((cell_far (p := ⟨gb365, _, none⟩) NB334_365.out _).trans (((cell_far (p := ⟨gb365, _, none⟩) NB334_365.out _).trans (((cell_far (p := ⟨gb365, _, none⟩) NB334_365.out _).trans (((cell_far (p := ⟨gb365, _, none⟩) NB334_365.out _).trans (hHeld.2.2.2.2.2.2))))))))))⟩ (fun hHeld => ?_)
              clear hK K
              refine pure_ (i := 10) (N := some 18) (v := ?_) (a' := ?_) #[true, true, true, true, true, true, true, true, true, true, true] rfl rfl (any_of HT_.out (by kernel_rfl)) (fun _ _ _ h => h) (Or.inl ⟨by rfl, ?_⟩) ?_ ?_
              rotate_left
              · intro w'
                go_simp
                with_reducible rfl
              rotate_left
              · simp only [Act.put, List.setIfInBounds_toArray, List.set_cons_zero, List.set_cons_succ, i64_w, i32_w]
                rfl
              refine done_ (done_of HT_.out (by kernel_rfl)) ?_
              have hnb63 := NB333_365.out
              have hnc63 := NB365_333.out
              have hcz64_0 : w57.cell? ⟨gb333, 0, none⟩ = some (.int .u64 a0_0) := (blk_cell BK333.out 0).trans rfl
              have hcz64_1 : w57.cell? ⟨gb333, 1, none⟩ = some (.int .u64 a0_1) := (blk_cell BK333.out 1).trans rfl
              have hcz64_2 : w57.cell? ⟨gb333, 2, none⟩ = some (.int .u64 a0_2) := (blk_cell BK333.out 2).trans rfl
              have hcz64_3 : w57.cell? ⟨gb333, 3, none⟩ = some (.int .u64 a0_3) := (blk_cell BK333.out 3).trans rfl
              have hcz64_4 : w57.cell? ⟨gb333, 4, none⟩ = some (.int .i64 a0_4) := (blk_cell BK333.out 4).trans rfl
              have hfz64_0 := blk_frozen BK333.out 0
              have hfz64_1 := blk_frozen BK333.out 1
              have hfz64_2 := blk_frozen BK333.out 2
              have hfz64_3 := blk_frozen BK333.out 3
              have hfz64_4 := blk_frozen BK333.out 4
              have hnb65 := NB334_365.out
              have hnc65 := NB365_334.out
              have hcz66_0 : w57.cell? ⟨gb334, 0, none⟩ = some (.int .u64 a1_0) := (blk_cell BK334.out 0).trans rfl
              have hcz66_1 : w57.cell? ⟨gb334, 1, none⟩ = some (.int .u64 a1_1) := (blk_cell BK334.out 1).trans rfl
              have hfz66_0 := blk_frozen BK334.out 0
              have hfz66_1 := blk_frozen BK334.out 1
              try go_wp2_with (first | ((with_reducible refine gate_callee (f := 27) rfl ?_); refine goesL_ (some 46) rfl rfl Try.func27 (by kernel_rfl) rfl #[.agg #[.int .u64 a0_0, .int .u64 a0_1, .int .u64 a0_2, .int .u64 a0_3, .int .i64 a0_4], .agg #[.int .u64 a1_0, .int .u64 a1_1], .int .i64 a2] rfl (by (try simp only [List.map_toArray, List.map_cons, List.map_nil]); first | done | rfl | (simp only [List.length_drop, List.length_take]; rfl)) ?_; (with_reducible refine (winnowref12_Accept.calls a0_0 a0_1 a0_2 a0_3 a0_4 a1_0 a1_1 a2 t366 t367 t368 t369 t370 t371 _ A12.out).mono ?_); rintro e w67 ⟨rfl, hb⟩; refine ⟨_, rfl, ?_⟩; have n0_ := Aside0.mk (blk_below (g := gb333) (o := .cells #[.int .u64 a0_0, .int .u64 a0_1, .int .u64 a0_2, .int .u64 a0_3, .int .i64 a0_4] 40 (0, 0)) (by (with_reducible repeat (first | refine blk_drewN ?_ _ | refine blk_drew ?_ | refine blk_alloc ?_ _)); refine blk_far ?_ NB333_365.out _; (with_reducible repeat (first | refine blk_drewN ?_ _ | refine blk_drew ?_ | refine blk_alloc ?_ _)); refine blk_far ?_ NB333_365.out _; (with_reducible repeat (first | refine blk_drewN ?_ _ | refine blk_drew ?_ | refine blk_alloc ?_ _)); refine blk_far ?_ NB333_365.out _; (with_reducible repeat (first | refine blk_drewN ?_ _ | refine blk_drew ?_ | refine blk_alloc ?_ _)); refine blk_far ?_ NB333_365.out _; (with_reducible repeat (first | refine blk_drewN ?_ _ | refine blk_drew ?_ | refine blk_alloc ?_ _)); refine blk_far ?_ NB333_365.out _; (with_reducible repeat (first | refine blk_drewN ?_ _ | refine blk_drew ?_ | refine blk_alloc ?_ _)); exact BK333.out) hb); have n1_ := Aside0.mk (blk_below (g := gb334) (o := .cells #[.int .u64 a1_0, .int .u64 a1_1] 24 (0, 0)) (by (with_reducible repeat (first | refine blk_drewN ?_ _ | refine blk_drew ?_ | refine blk_alloc ?_ _)); refine blk_far ?_ NB334_365.out _; (with_reducible repeat (first | refine blk_drewN ?_ _ | refine blk_drew ?_ | refine blk_alloc ?_ _)); refine blk_far ?_ NB334_365.out _; (with_reducible repeat (first | refine blk_drewN ?_ _ | refine blk_drew ?_ | refine blk_alloc ?_ _)); refine blk_far ?_ NB334_365.out _; (with_reducible repeat (first | refine blk_drewN ?_ _ | refine blk_drew ?_ | refine blk_alloc ?_ _)); refine blk_far ?_ NB334_365.out _; (with_reducible repeat (first | refine blk_drewN ?_ _ | refine blk_drew ?_ | refine blk_alloc ?_ _)); refine blk_far ?_ NB334_365.out _; (with_reducible repeat (first | refine blk_drewN ?_ _ | refine blk_drew ?_ | refine blk_alloc ?_ _)); exact BK334.out) hb); have n2_ := Aside0.mk (blk_below (g := gb346) (o := .cells #[.int .u64 t340, .int .u64 t341, .int .u64 t342, .int .u64 t343, .int .i64 t344] 42 (0, 0)) (by (with_reducible repeat (first | refine blk_drewN ?_ _ | refine blk_drew ?_ | refine blk_alloc ?_ _)); refine blk_far ?_ NB346_365.out _; (with_reducible repeat (first | refine blk_drewN ?_ _ | refine blk_drew ?_ | refine blk_alloc ?_ _)); refine blk_far ?_ NB346_365.out _; (with_reducible repeat (first | refine blk_drewN ?_ _ | refine blk_drew ?_ | refine blk_alloc ?_ _)); refine blk_far ?_ NB346_365.out _; (with_reducible repeat (first | refine blk_drewN ?_ _ | refine blk_drew ?_ | refine blk_alloc ?_ _)); refine blk_far ?_ NB346_365.out _; (with_reducible repeat (first | refine blk_drewN ?_ _ | refine blk_drew ?_ | refine blk_alloc ?_ _)); refine blk_far ?_ NB346_365.out _; (with_reducible repeat (first | refine blk_drewN ?_ _ | refine blk_drew ?_ | refine blk_alloc ?_ _)); exact BK346.out) hb); have n3_ := Aside0.mk (blk_below (g := gb353) (o := .cells #[.int .u64 t347, .int .u64 t348, .int .u64 t349, .int .u64 t350, .int .i64 t351] 40 (0, 0)) (by (with_reducible repeat (first | refine blk_drewN ?_ _ | refine blk_drew ?_ | refine blk_alloc ?_ _)); refine blk_far ?_ NB353_365.out _; (with_reducible repeat (first | refine blk_drewN ?_ _ | refine blk_drew ?_ | refine blk_alloc ?_ _)); refine blk_far ?_ NB353_365.out _; (with_reducible repeat (first | refine blk_drewN ?_ _ | refine blk_drew ?_ | refine blk_alloc ?_ _)); refine blk_far ?_ NB353_365.out _; (with_reducible repeat (first | refine blk_drewN ?_ _ | refine blk_drew ?_ | refine blk_alloc ?_ _)); refine blk_far ?_ NB353_365.out _; (with_reducible repeat (first | refine blk_drewN ?_ _ | refine blk_drew ?_ | refine blk_alloc ?_ _)); refine blk_far ?_ NB353_365.out _; (with_reducible repeat (first | refine blk_drewN ?_ _ | refine blk_drew ?_ | refine blk_alloc ?_ _)); exact BK353.out) hb); have n4_ := Aside0.mk (blk_below (g := gb365) (o := .cells #[.int .u64 t359, .int .u64 t360, .int .u64 t361, .int .u64 t362, .int .i64 t363] 42 (0, 0)) (by (with_reducible repeat (first | refine blk_drewN ?_ _ | refine blk_drew ?_ | refine blk_alloc ?_ _)); refine blk_put (cs := #[.int .u64 t359, .int .u64 t360, .int .u64 t361, .int .u64 t362, .int .i64 0]) ?_ 4 _ rfl; (with_reducible repeat (first | refine blk_drewN ?_ _ | refine blk_drew ?_ | refine blk_alloc ?_ _)); refine blk_put (cs := #[.int .u64 t359, .int .u64 t360, .int .u64 t361, .int .u64 0, .int .i64 0]) ?_ 3 _ rfl; (with_reducible repeat (first | refine blk_drewN ?_ _ | refine blk_drew ?_ | refine blk_alloc ?_ _)); refine blk_put (cs := #[.int .u64 t359, .int .u64 t360, .int .u64 0, .int .u64 0, .int .i64 0]) ?_ 2 _ rfl; (with_reducible repeat (first | refine blk_drewN ?_ _ | refine blk_drew ?_ | refine blk_alloc ?_ _)); refine blk_put (cs := #[.int .u64 t359, .int .u64 0, .int .u64 0, .int .u64 0, .int .i64 0]) ?_ 1 _ rfl; (with_reducible repeat (first | refine blk_drewN ?_ _ | refine blk_drew ?_ | refine blk_alloc ?_ _)); refine blk_put (cs := #[.int .u64 0, .int .u64 0, .int .u64 0, .int .u64 0, .int .i64 0]) ?_ 0 _ rfl; (with_reducible repeat (first | refine blk_drewN ?_ _ | refine blk_drew ?_ | refine blk_alloc ?_ _)); exact BK365.out) hb); have n5_ := Aside0.mk (below_step (by repeat (first | (with_reducible first | exact HB.out | apply below_alloc | apply pw_below_drewN | apply below_drew1 | refine below_set ?_ GE333.out | refine below_set ?_ GE334.out | refine below_set ?_ GE346.out | refine below_set ?_ GE353.out | refine below_set ?_ GE365.out) | exact HB.out)) hb); clear BK333; clear BK334; clear BK346; clear BK353; clear BK365; clear HB; have BK333 := n0_; have BK334 := n1_; have BK346 := n2_; have BK353 := n3_; have BK365 := n4_; have HB := n5_; clear n0_ n1_ n2_ n3_ n4_ n5_; (try clear hb); (try clear hb2); (try clear hk); (try clear hi)) | ((with_reducible refine gate_dst (N := 19) rfl ?_); refine box_event ?hg (N := 19) ?hd (cs := #[.int .u64 0, .int .u64 0, .int .u64 0, .int .u64 0, .int .i64 0]) (t := 40) ?hr ?_; (case hd => rfl); (case hg => rfl); (case hr => first | (go_simp; done) | (go_simp; rfl)); intro gb372 hg w68 hbox hb; have n0_ := Aside0.mk (blk_below (g := gb333) (o := .cells #[.int .u64 a0_0, .int .u64 a0_1, .int .u64 a0_2, .int .u64 a0_3, .int .i64 a0_4] 40 (0, 0)) (by (with_reducible repeat (first | refine blk_drewN ?_ _ | refine blk_drew ?_ | refine blk_alloc ?_ _)); exact BK333.out) hb); have n1_ := Aside0.mk (blk_below (g := gb334) (o := .cells #[.int .u64 a1_0, .int .u64 a1_1] 24 (0, 0)) (by (with_reducible repeat (first | refine blk_drewN ?_ _ | refine blk_drew ?_ | refine blk_alloc ?_ _)); exact BK334.out) hb); have n2_ := Aside0.mk (blk_below (g := gb346) (o := .cells #[.int .u64 t340, .int .u64 t341, .int .u64 t342, .int .u64 t343, .int .i64 t344] 42 (0, 0)) (by (with_reducible repeat (first | refine blk_drewN ?_ _ | refine blk_drew ?_ | refine blk_alloc ?_ _)); exact BK346.out) hb); have n3_ := Aside0.mk (blk_below (g := gb353) (o := .cells #[.int .u64 t347, .int .u64 t348, .int .u64 t349, .int .u64 t350, .int .i64 t351] 40 (0, 0)) (by (with_reducible repeat (first | refine blk_drewN ?_ _ | refine blk_drew ?_ | refine blk_alloc ?_ _)); exact BK353.out) hb); have n4_ := Aside0.mk (blk_below (g := gb365) (o := .cells #[.int .u64 t359, .int .u64 t360, .int .u64 t361, .int .u64 t362, .int .i64 t363] 42 (0, 0)) (by (with_reducible repeat (first | refine blk_drewN ?_ _ | refine blk_drew ?_ | refine blk_alloc ?_ _)); exact BK365.out) hb); have n5_ := Aside0.mk (below_step (by repeat (first | (with_reducible first | exact HB.out | apply below_alloc | apply pw_below_drewN | apply below_drew1 | refine below_set ?_ GE333.out | refine below_set ?_ GE334.out | refine below_set ?_ GE346.out | refine below_set ?_ GE353.out | refine below_set ?_ GE365.out) | exact HB.out)) hb); have n6_ := Aside0.mk (hbox); have n7_ := Aside0.mk ((by rw [hg]; exact (below_size (by repeat (first | (with_reducible first | exact HB.out | apply below_alloc | apply pw_below_drewN | apply below_drew1 | refine below_set ?_ GE333.out | refine below_set ?_ GE334.out | refine below_set ?_ GE346.out | refine below_set ?_ GE353.out | refine below_set ?_ GE365.out) | exact HB.out))) : w.heap.size ≤ gb372)); have n8_ := n7_; have n9_ := Aside0.mk ((by rw [hg]; exact Nat.ne_of_lt (blk_lt (g := gb333) (o := .cells #[.int .u64 a0_0, .int .u64 a0_1, .int .u64 a0_2, .int .u64 a0_3, .int .i64 a0_4] 40 (0, 0)) (by (with_reducible repeat (first | refine blk_drewN ?_ _ | refine blk_drew ?_ | refine blk_alloc ?_ _)); exact BK333.out)) : gb333 ≠ gb372)); have n10_ := Aside0.mk ((by rw [hg]; exact Nat.ne_of_gt (blk_lt (g := gb333) (o := .cells #[.int .u64 a0_0, .int .u64 a0_1, .int .u64 a0_2, .int .u64 a0_3, .int .i64 a0_4] 40 (0, 0)) (by (with_reducible repeat (first | refine blk_drewN ?_ _ | refine blk_drew ?_ | refine blk_alloc ?_ _)); exact BK333.out)) : gb372 ≠ gb333)); have n11_ := Aside0.mk ((by rw [hg]; exact Nat.ne_of_lt (blk_lt (g := gb334) (o := .cells #[.int .u64 a1_0, .int .u64 a1_1] 24 (0, 0)) (by (with_reducible repeat (first | refine blk_drewN ?_ _ | refine blk_drew ?_ | refine blk_alloc ?_ _)); exact BK334.out)) : gb334 ≠ gb372)); have n12_ := Aside0.mk ((by rw [hg]; exact Nat.ne_of_gt (blk_lt (g := gb334) (o := .cells #[.int .u64 a1_0, .int .u64 a1_1] 24 (0, 0)) (by (with_reducible repeat (first | refine blk_drewN ?_ _ | refine blk_drew ?_ | refine blk_alloc ?_ _)); exact BK334.out)) : gb372 ≠ gb334)); have n13_ := Aside0.mk ((by rw [hg]; exact Nat.ne_of_lt (blk_lt (g := gb346) (o := .cells #[.int .u64 t340, .int .u64 t341, .int .u64 t342, .int .u64 t343, .int .i64 t344] 42 (0, 0)) (by (with_reducible repeat (first | refine blk_drewN ?_ _ | refine blk_drew ?_ | refine blk_alloc ?_ _)); exact BK346.out)) : gb346 ≠ gb372)); have n14_ := Aside0.mk ((by rw [hg]; exact Nat.ne_of_gt (blk_lt (g := gb346) (o := .cells #[.int .u64 t340, .int .u64 t341, .int .u64 t342, .int .u64 t343, .int .i64 t344] 42 (0, 0)) (by (with_reducible repeat (first | refine blk_drewN ?_ _ | refine blk_drew ?_ | refine blk_alloc ?_ _)); exact BK346.out)) : gb372 ≠ gb346)); have n15_ := Aside0.mk ((by rw [hg]; exact Nat.ne_of_lt (blk_lt (g := gb353) (o := .cells #[.int .u64 t347, .int .u64 t348, .int .u64 t349, .int .u64 t350, .int .i64 t351] 40 (0, 0)) (by (with_reducible repeat (first | refine blk_drewN ?_ _ | refine blk_drew ?_ | refine blk_alloc ?_ _)); exact BK353.out)) : gb353 ≠ gb372)); have n16_ := Aside0.mk ((by rw [hg]; exact Nat.ne_of_gt (blk_lt (g := gb353) (o := .cells #[.int .u64 t347, .int .u64 t348, .int .u64 t349, .int .u64 t350, .int .i64 t351] 40 (0, 0)) (by (with_reducible repeat (first | refine blk_drewN ?_ _ | refine blk_drew ?_ | refine blk_alloc ?_ _)); exact BK353.out)) : gb372 ≠ gb353)); have n17_ := Aside0.mk ((by rw [hg]; exact Nat.ne_of_lt (blk_lt (g := gb365) (o := .cells #[.int .u64 t359, .int .u64 t360, .int .u64 t361, .int .u64 t362, .int .i64 t363] 42 (0, 0)) (by (with_reducible repeat (first | refine blk_drewN ?_ _ | refine blk_drew ?_ | refine blk_alloc ?_ _)); exact BK365.out)) : gb365 ≠ gb372)); have n18_ := Aside0.mk ((by rw [hg]; exact Nat.ne_of_gt (blk_lt (g := gb365) (o := .cells #[.int .u64 t359, .int .u64 t360, .int .u64 t361, .int .u64 t362, .int .i64 t363] 42 (0, 0)) (by (with_reducible repeat (first | refine blk_drewN ?_ _ | refine blk_drew ?_ | refine blk_alloc ?_ _)); exact BK365.out)) : gb372 ≠ gb365)); clear BK333; clear BK334; clear BK346; clear BK353; clear BK365; clear HB; have BK333 := n0_; have BK334 := n1_; have BK346 := n2_; have BK353 := n3_; have BK365 := n4_; have HB := n5_; have BK372 := n6_; have GW372 := n7_; have GE372 := n8_; have NB333_372 := n9_; have NB372_333 := n10_; have NB334_372 := n11_; have NB372_334 := n12_; have NB346_372 := n13_; have NB372_346 := n14_; have NB353_372 := n15_; have NB372_353 := n16_; have NB365_372 := n17_; have NB372_365 := n18_; clear n0_ n1_ n2_ n3_ n4_ n5_ n6_ n7_ n8_ n9_ n10_ n11_ n12_ n13_ n14_ n15_ n16_ n17_ n18_; clear hb hbox hg; have hnb69 := NB372_333.out; have hnc69 := NB333_372.out; have hnb70 := NB372_334.out; have hnc70 := NB334_372.out; have hnb71 := NB372_346.out; have hnc71 := NB346_372.out; have hnb72 := NB372_353.out; have hnc72 := NB353_372.out; have hnb73 := NB372_365.out; have hnc73 := NB365_372.out; have hcz74_0 : w68.cell? ⟨gb372, 0, none⟩ = some (.int .u64 0) := (blk_cell BK372.out 0).trans rfl; have hcz74_1 : w68.cell? ⟨gb372, 1, none⟩ = some (.int .u64 0) := (blk_cell BK372.out 1).trans rfl; have hcz74_2 : w68.cell? ⟨gb372, 2, none⟩ = some (.int .u64 0) := (blk_cell BK372.out 2).trans rfl; have hcz74_3 : w68.cell? ⟨gb372, 3, none⟩ = some (.int .u64 0) := (blk_cell BK372.out 3).trans rfl; have hcz74_4 : w68.cell? ⟨gb372, 4, none⟩ = some (.int .i64 0) := (blk_cell BK372.out 4).trans rfl; have hfz74_0 := blk_frozen BK372.out 0; have hfz74_1 := blk_frozen BK372.out 1; have hfz74_2 := blk_frozen BK372.out 2; have hfz74_3 := blk_frozen BK372.out 3; have hfz74_4 := blk_frozen BK372.out 4))
              have n0_ : Aside0 ((((((w68.setCell ⟨gb372, 0, none⟩ (.int .u64 t366)).setCell ⟨gb372, 1, none⟩ (.int .u64 t367)).setCell ⟨gb372, 2, none⟩ (.int .u64 t368)).setCell ⟨gb372, 3, none⟩ (.int .u64 t369)).setCell ⟨gb372, 4, none⟩ (.int .i64 t370)).heap[gb333]? = some (.cells #[.int .u64 a0_0, .int .u64 a0_1, .int .u64 a0_2, .int .u64 a0_3, .int .i64 a0_4] 40 (0, 0))) := ⟨by (with_reducible repeat (first | refine blk_drewN ?_ _ | refine blk_drew ?_ | refine blk_alloc ?_ _)); refine blk_far ?_ NB333_372.out _; (with_reducible repeat (first | refine blk_drewN ?_ _ | refine blk_drew ?_ | refine blk_alloc ?_ _)); refine blk_far ?_ NB333_372.out _; (with_reducible repeat (first | refine blk_drewN ?_ _ | refine blk_drew ?_ | refine blk_alloc ?_ _)); refine blk_far ?_ NB333_372.out _; (with_reducible repeat (first | refine blk_drewN ?_ _ | refine blk_drew ?_ | refine blk_alloc ?_ _)); refine blk_far ?_ NB333_372.out _; (with_reducible repeat (first | refine blk_drewN ?_ _ | refine blk_drew ?_ | refine blk_alloc ?_ _)); refine blk_far ?_ NB333_372.out _; (with_reducible repeat (first | refine blk_drewN ?_ _ | refine blk_drew ?_ | refine blk_alloc ?_ _)); exact BK333.out⟩
              have n1_ : Aside0 ((((((w68.setCell ⟨gb372, 0, none⟩ (.int .u64 t366)).setCell ⟨gb372, 1, none⟩ (.int .u64 t367)).setCell ⟨gb372, 2, none⟩ (.int .u64 t368)).setCell ⟨gb372, 3, none⟩ (.int .u64 t369)).setCell ⟨gb372, 4, none⟩ (.int .i64 t370)).heap[gb334]? = some (.cells #[.int .u64 a1_0, .int .u64 a1_1] 24 (0, 0))) := ⟨by (with_reducible repeat (first | refine blk_drewN ?_ _ | refine blk_drew ?_ | refine blk_alloc ?_ _)); refine blk_far ?_ NB334_372.out _; (with_reducible repeat (first | refine blk_drewN ?_ _ | refine blk_drew ?_ | refine blk_alloc ?_ _)); refine blk_far ?_ NB334_372.out _; (with_reducible repeat (first | refine blk_drewN ?_ _ | refine blk_drew ?_ | refine blk_alloc ?_ _)); refine blk_far ?_ NB334_372.out _; (with_reducible repeat (first | refine blk_drewN ?_ _ | refine blk_drew ?_ | refine blk_alloc ?_ _)); refine blk_far ?_ NB334_372.out _; (with_reducible repeat (first | refine blk_drewN ?_ _ | refine blk_drew ?_ | refine blk_alloc ?_ _)); refine blk_far ?_ NB334_372.out _; (with_reducible repeat (first | refine blk_drewN ?_ _ | refine blk_drew ?_ | refine blk_alloc ?_ _)); exact BK334.out⟩
              have n2_ : Aside0 ((((((w68.setCell ⟨gb372, 0, none⟩ (.int .u64 t366)).setCell ⟨gb372, 1, none⟩ (.int .u64 t367)).setCell ⟨gb372, 2, none⟩ (.int .u64 t368)).setCell ⟨gb372, 3, none⟩ (.int .u64 t369)).setCell ⟨gb372, 4, none⟩ (.int .i64 t370)).heap[gb346]? = some (.cells #[.int .u64 t340, .int .u64 t341, .int .u64 t342, .int .u64 t343, .int .i64 t344] 42 (0, 0))) := ⟨by (with_reducible repeat (first | refine blk_drewN ?_ _ | refine blk_drew ?_ | refine blk_alloc ?_ _)); refine blk_far ?_ NB346_372.out _; (with_reducible repeat (first | refine blk_drewN ?_ _ | refine blk_drew ?_ | refine blk_alloc ?_ _)); refine blk_far ?_ NB346_372.out _; (with_reducible repeat (first | refine blk_drewN ?_ _ | refine blk_drew ?_ | refine blk_alloc ?_ _)); refine blk_far ?_ NB346_372.out _; (with_reducible repeat (first | refine blk_drewN ?_ _ | refine blk_drew ?_ | refine blk_alloc ?_ _)); refine blk_far ?_ NB346_372.out _; (with_reducible repeat (first | refine blk_drewN ?_ _ | refine blk_drew ?_ | refine blk_alloc ?_ _)); refine blk_far ?_ NB346_372.out _; (with_reducible repeat (first | refine blk_drewN ?_ _ | refine blk_drew ?_ | refine blk_alloc ?_ _)); exact BK346.out⟩
              have n3_ : Aside0 ((((((w68.setCell ⟨gb372, 0, none⟩ (.int .u64 t366)).setCell ⟨gb372, 1, none⟩ (.int .u64 t367)).setCell ⟨gb372, 2, none⟩ (.int .u64 t368)).setCell ⟨gb372, 3, none⟩ (.int .u64 t369)).setCell ⟨gb372, 4, none⟩ (.int .i64 t370)).heap[gb353]? = some (.cells #[.int .u64 t347, .int .u64 t348, .int .u64 t349, .int .u64 t350, .int .i64 t351] 40 (0, 0))) := ⟨by (with_reducible repeat (first | refine blk_drewN ?_ _ | refine blk_drew ?_ | refine blk_alloc ?_ _)); refine blk_far ?_ NB353_372.out _; (with_reducible repeat (first | refine blk_drewN ?_ _ | refine blk_drew ?_ | refine blk_alloc ?_ _)); refine blk_far ?_ NB353_372.out _; (with_reducible repeat (first | refine blk_drewN ?_ _ | refine blk_drew ?_ | refine blk_alloc ?_ _)); refine blk_far ?_ NB353_372.out _; (with_reducible repeat (first | refine blk_drewN ?_ _ | refine blk_drew ?_ | refine blk_alloc ?_ _)); refine blk_far ?_ NB353_372.out _; (with_reducible repeat (first | refine blk_drewN ?_ _ | refine blk_drew ?_ | refine blk_alloc ?_ _)); refine blk_far ?_ NB353_372.out _; (with_reducible repeat (first | refine blk_drewN ?_ _ | refine blk_drew ?_ | refine blk_alloc ?_ _)); exact BK353.out⟩
              have n4_ : Aside0 ((((((w68.setCell ⟨gb372, 0, none⟩ (.int .u64 t366)).setCell ⟨gb372, 1, none⟩ (.int .u64 t367)).setCell ⟨gb372, 2, none⟩ (.int .u64 t368)).setCell ⟨gb372, 3, none⟩ (.int .u64 t369)).setCell ⟨gb372, 4, none⟩ (.int .i64 t370)).heap[gb365]? = some (.cells #[.int .u64 t359, .int .u64 t360, .int .u64 t361, .int .u64 t362, .int .i64 t363] 42 (0, 0))) := ⟨by (with_reducible repeat (first | refine blk_drewN ?_ _ | refine blk_drew ?_ | refine blk_alloc ?_ _)); refine blk_far ?_ NB365_372.out _; (with_reducible repeat (first | refine blk_drewN ?_ _ | refine blk_drew ?_ | refine blk_alloc ?_ _)); refine blk_far ?_ NB365_372.out _; (with_reducible repeat (first | refine blk_drewN ?_ _ | refine blk_drew ?_ | refine blk_alloc ?_ _)); refine blk_far ?_ NB365_372.out _; (with_reducible repeat (first | refine blk_drewN ?_ _ | refine blk_drew ?_ | refine blk_alloc ?_ _)); refine blk_far ?_ NB365_372.out _; (with_reducible repeat (first | refine blk_drewN ?_ _ | refine blk_drew ?_ | refine blk_alloc ?_ _)); refine blk_far ?_ NB365_372.out _; (with_reducible repeat (first | refine blk_drewN ?_ _ | refine blk_drew ?_ | refine blk_alloc ?_ _)); exact BK365.out⟩
              have n5_ : Aside0 ((((((w68.setCell ⟨gb372, 0, none⟩ (.int .u64 t366)).setCell ⟨gb372, 1, none⟩ (.int .u64 t367)).setCell ⟨gb372, 2, none⟩ (.int .u64 t368)).setCell ⟨gb372, 3, none⟩ (.int .u64 t369)).setCell ⟨gb372, 4, none⟩ (.int .i64 t370)).heap[gb372]? = some (.cells #[.int .u64 t366, .int .u64 t367, .int .u64 t368, .int .u64 t369, .int .i64 t370] 40 (0, 0))) := ⟨by (with_reducible repeat (first | refine blk_drewN ?_ _ | refine blk_drew ?_ | refine blk_alloc ?_ _)); refine blk_put (cs := #[.int .u64 t366, .int .u64 t367, .int .u64 t368, .int .u64 t369, .int .i64 0]) ?_ 4 _ rfl; (with_reducible repeat (first | refine blk_drewN ?_ _ | refine blk_drew ?_ | refine blk_alloc ?_ _)); refine blk_put (cs := #[.int .u64 t366, .int .u64 t367, .int .u64 t368, .int .u64 0, .int .i64 0]) ?_ 3 _ rfl; (with_reducible repeat (first | refine blk_drewN ?_ _ | refine blk_drew ?_ | refine blk_alloc ?_ _)); refine blk_put (cs := #[.int .u64 t366, .int .u64 t367, .int .u64 0, .int .u64 0, .int .i64 0]) ?_ 2 _ rfl; (with_reducible repeat (first | refine blk_drewN ?_ _ | refine blk_drew ?_ | refine blk_alloc ?_ _)); refine blk_put (cs := #[.int .u64 t366, .int .u64 0, .int .u64 0, .int .u64 0, .int .i64 0]) ?_ 1 _ rfl; (with_reducible repeat (first | refine blk_drewN ?_ _ | refine blk_drew ?_ | refine blk_alloc ?_ _)); refine blk_put (cs := #[.int .u64 0, .int .u64 0, .int .u64 0, .int .u64 0, .int .i64 0]) ?_ 0 _ rfl; (with_reducible repeat (first | refine blk_drewN ?_ _ | refine blk_drew ?_ | refine blk_alloc ?_ _)); exact BK372.out⟩
              have n6_ : Aside0 (Below w.heap.size w (((((w68.setCell ⟨gb372, 0, none⟩ (.int .u64 t366)).setCell ⟨gb372, 1, none⟩ (.int .u64 t367)).setCell ⟨gb372, 2, none⟩ (.int .u64 t368)).setCell ⟨gb372, 3, none⟩ (.int .u64 t369)).setCell ⟨gb372, 4, none⟩ (.int .i64 t370))) := ⟨by repeat (first | (with_reducible first | exact HB.out | apply below_alloc | apply pw_below_drewN | apply below_drew1 | refine below_set ?_ GE333.out | refine below_set ?_ GE334.out | refine below_set ?_ GE346.out | refine below_set ?_ GE353.out | refine below_set ?_ GE365.out | refine below_set ?_ GE372.out) | exact HB.out)⟩
              (try clear BK333)
              (try clear BK334)
              (try clear BK346)
              (try clear BK353)
              (try clear BK365)
              (try clear BK372)
              (try clear HB)
              generalize (((((w68.setCell ⟨gb372, 0, none⟩ (.int .u64 t366)).setCell ⟨gb372, 1, none⟩ (.int .u64 t367)).setCell ⟨gb372, 2, none⟩ (.int .u64 t368)).setCell ⟨gb372, 3, none⟩ (.int .u64 t369)).setCell ⟨gb372, 4, none⟩ (.int .i64 t370)) = w75 at n0_ n1_ n2_ n3_ n4_ n5_ n6_ ⊢
              have BK333 := n0_
              have BK334 := n1_
              have BK346 := n2_
              have BK353 := n3_
              have BK365 := n4_
              have BK372 := n5_
              have HB := n6_
              clear n0_ n1_ n2_ n3_ n4_ n5_ n6_
              have n0_ := Aside0.mk (blk_drew BK333.out)
              have n1_ := Aside0.mk (blk_drew BK334.out)
              have n2_ := Aside0.mk (blk_drew BK346.out)
              have n3_ := Aside0.mk (blk_drew BK353.out)
              have n4_ := Aside0.mk (blk_drew BK365.out)
              have n5_ := Aside0.mk (blk_drew BK372.out)
              have n6_ := Aside0.mk (below_drew1 HB.out)
              clear BK333
              clear BK334
              clear BK346
              clear BK353
              clear BK365
              clear BK372
              clear HB
              have BK333 := n0_
              have BK334 := n1_
              have BK346 := n2_
              have BK353 := n3_
              have BK365 := n4_
              have BK372 := n5_
              have HB := n6_
              clear n0_ n1_ n2_ n3_ n4_ n5_ n6_
              refine start_ (n := 48) (S := fun w' => w'.cell? ⟨gb333, 0, none⟩ = some (.int .u64 a0_0) ∧ w'.cell? ⟨gb333, 1, none⟩ = some (.int .u64 a0_1) ∧ w'.cell? ⟨gb333, 2, none⟩ = some (.int .u64 a0_2) ∧ w'.cell? ⟨gb333, 3, none⟩ = some (.int .u64 a0_3) ∧ w'.cell? ⟨gb333, 4, none⟩ = some (.int .i64 a0_4) ∧ w'.cell? ⟨gb346, 0, none⟩ = some (.int .u64 t340) ∧ w'.cell? ⟨gb346, 1, none⟩ = some (.int .u64 t341) ∧ w'.cell? ⟨gb346, 2, none⟩ = some (.int .u64 t342) ∧ w'.cell? ⟨gb346, 3, none⟩ = some (.int .u64 t343) ∧ w'.cell? ⟨gb346, 4, none⟩ = some (.int .i64 t344) ∧ w'.cell? ⟨gb353, 0, none⟩ = some (.int .u64 t347) ∧ w'.cell? ⟨gb353, 1, none⟩ = some (.int .u64 t348) ∧ w'.cell? ⟨gb353, 2, none⟩ = some (.int .u64 t349) ∧ w'.cell? ⟨gb353, 3, none⟩ = some (.int .u64 t350) ∧ w'.cell? ⟨gb353, 4, none⟩ = some (.int .i64 t351) ∧ w'.cell? ⟨gb365, 0, none⟩ = some (.int .u64 t359) ∧ w'.cell? ⟨gb365, 1, none⟩ = some (.int .u64 t360) ∧ w'.cell? ⟨gb365, 2, none⟩ = some (.int .u64 t361) ∧ w'.cell? ⟨gb365, 3, none⟩ = some (.int .u64 t362) ∧ w'.cell? ⟨gb365, 4, none⟩ = some (.int .i64 t363) ∧ w'.cell? ⟨gb372, 0, none⟩ = some (.int .u64 t366) ∧ w'.cell? ⟨gb372, 1, none⟩ = some (.int .u64 t367) ∧ w'.cell? ⟨gb372, 2, none⟩ = some (.int .u64 t368) ∧ w'.cell? ⟨gb372, 3, none⟩ = some (.int .u64 t369) ∧ w'.cell? ⟨gb372, 4, none⟩ = some (.int .i64 t370) ∧ w'.cell? ⟨gb334, 0, none⟩ = some (.int .u64 a1_0) ∧ w'.cell? ⟨gb334, 1, none⟩ = some (.int .u64 a1_1)) (ds := []) #[false, false, false, false, false, false, false, false, false, false, false, false, false, false, false, false, false, false, false, false, false, false, false, false, false, false, false, false, false, false, false, false, false, false, false, false, false, false, false, false, false, false, false, false, false, false, false, false] (by kernel_rfl) rfl rfl ⟨(blk_cell BK333.out 0).trans rfl, (blk_cell BK333.out 1).trans rfl, (blk_cell BK333.out 2).trans rfl, (blk_cell BK333.out 3).trans rfl, (blk_cell BK333.out 4).trans rfl, (blk_cell BK346.out 0).trans rfl, (blk_cell BK346.out 1).trans rfl, (blk_cell BK346.out 2).trans rfl, (blk_cell BK346.out 3).trans rfl, (blk_cell BK346.out 4).trans rfl, (blk_cell BK353.out 0).trans rfl, (blk_cell BK353.out 1).trans rfl, (blk_cell BK353.out 2).trans rfl, (blk_cell BK353.out 3).trans rfl, (blk_cell BK353.out 4).trans rfl, (blk_cell BK365.out 0).trans rfl, (blk_cell BK365.out 1).trans rfl, (blk_cell BK365.out 2).trans rfl, (blk_cell BK365.out 3).trans rfl, (blk_cell BK365.out 4).trans rfl, (blk_cell BK372.out 0).trans rfl, (blk_cell BK372.out 1).trans rfl, (blk_cell BK372.out 2).trans rfl, (blk_cell BK372.out 3).trans rfl, (blk_cell BK372.out 4).trans rfl, (blk_cell BK334.out 0).trans rfl, (blk_cell BK334.out 1).trans rfl⟩ (fun hHeld => ?_); refine with_tabW winnowlaw12_RegisterSteps.tab5 winnowlaw12_RegisterSteps.bits5 (fun HT_ HW_ => ?_)
              generalize w75.drew = w76 at BK333 BK334 BK346 BK353 BK365 BK372 HB hHeld ⊢
              refine take_ (i := 0) (N := some 49) (v := ?_) (a' := ?_) #[true, false, false, false, false, false, false, false, false, false, false, false, false, false, false, false, false, false, false, false, false, false, false, false, false, false, false, false, false, false, false, false, false, false, false, false, false, false, false, false, false, false, false, false, false, false, false, false] rfl rfl (take_ofW HT_.out HW_.out (by kernel_rfl)) (fun _ _ _ h => h) (Or.inl ⟨by rfl, ?_⟩) hHeld ?_ ?_
              rotate_left
              · rintro w' ⟨s0, s1, s2, s3, s4, s5, s6, s7, s8, s9, s10, s11, s12, s13, s14, s15, s16, s17, s18, s19, s20, s21, s22, s23, s24, s25, s26⟩
                go_simp
                with_reducible rfl
              rotate_left
              · simp only [Act.put, List.setIfInBounds_toArray, List.set_cons_zero, List.set_cons_succ, i64_w, i32_w]
                rfl
              refine take_ (i := 3) (N := some 52) (v := ?_) (a' := ?_) #[true, false, false, true, false, false, false, false, false, false, false, false, false, false, false, false, false, false, false, false, false, false, false, false, false, false, false, false, false, false, false, false, false, false, false, false, false, false, false, false, false, false, false, false, false, false, false, false] rfl rfl (take_ofW HT_.out HW_.out (by kernel_rfl)) (fun _ _ _ h => h) (Or.inl ⟨by rfl, ?_⟩) hHeld ?_ ?_
              rotate_left
              · rintro w' ⟨s0, s1, s2, s3, s4, s5, s6, s7, s8, s9, s10, s11, s12, s13, s14, s15, s16, s17, s18, s19, s20, s21, s22, s23, s24, s25, s26⟩
                go_simp
                with_reducible rfl
              rotate_left
              · simp only [Act.put, List.setIfInBounds_toArray, List.set_cons_zero, List.set_cons_succ, i64_w, i32_w]
                rfl
              refine one_ (i := 1) (N := some 50) #[true, true, false, true, false, false, false, false, false, false, false, false, false, false, false, false, false, false, false, false, false, false, false, false, false, false, false, false, false, false, false, false, false, false, false, false, false, false, false, false, false, false, false, false, false, false, false, false] rfl rfl (one_of HT_.out (by kernel_rfl)) (by decide) (fun K hK => ?_)
              refine goes_ Try.func23 (by kernel_rfl) rfl #[.agg #[.int .u64 a0_0, .int .u64 a0_1, .int .u64 a0_2, .int .u64 a0_3, .int .i64 a0_4]] (by rfl) rfl rfl (by (try simp only [List.map_toArray, List.map_cons, List.map_nil]); first | done | rfl | (simp only [List.length_drop, List.length_take]; rfl)) ?_
              with_reducible refine (winnowlaw12_own.calls a0_0 a0_1 a0_2 a0_3 a0_4 t373 t374 t375 t376 t377 _ A13.out).mono ?_
              rintro e w77 ⟨rfl, hb⟩
              refine ⟨_, rfl, ?_⟩
              have n0_ := Aside0.mk (blk_below (g := gb333) (o := .cells #[.int .u64 a0_0, .int .u64 a0_1, .int .u64 a0_2, .int .u64 a0_3, .int .i64 a0_4] 40 (0, 0)) (by (with_reducible repeat (first | refine blk_drewN ?_ _ | refine blk_drew ?_ | refine blk_alloc ?_ _)); exact BK333.out) hb)
              have n1_ := Aside0.mk (blk_below (g := gb334) (o := .cells #[.int .u64 a1_0, .int .u64 a1_1] 24 (0, 0)) (by (with_reducible repeat (first | refine blk_drewN ?_ _ | refine blk_drew ?_ | refine blk_alloc ?_ _)); exact BK334.out) hb)
              have n2_ := Aside0.mk (blk_below (g := gb346) (o := .cells #[.int .u64 t340, .int .u64 t341, .int .u64 t342, .int .u64 t343, .int .i64 t344] 42 (0, 0)) (by (with_reducible repeat (first | refine blk_drewN ?_ _ | refine blk_drew ?_ | refine blk_alloc ?_ _)); exact BK346.out) hb)
              have n3_ := Aside0.mk (blk_below (g := gb353) (o := .cells #[.int .u64 t347, .int .u64 t348, .int .u64 t349, .int .u64 t350, .int .i64 t351] 40 (0, 0)) (by (with_reducible repeat (first | refine blk_drewN ?_ _ | refine blk_drew ?_ | refine blk_alloc ?_ _)); exact BK353.out) hb)
              have n4_ := Aside0.mk (blk_below (g := gb365) (o := .cells #[.int .u64 t359, .int .u64 t360, .int .u64 t361, .int .u64 t362, .int .i64 t363] 42 (0, 0)) (by (with_reducible repeat (first | refine blk_drewN ?_ _ | refine blk_drew ?_ | refine blk_alloc ?_ _)); exact BK365.out) hb)
              have n5_ := Aside0.mk (blk_below (g := gb372) (o := .cells #[.int .u64 t366, .int .u64 t367, .int .u64 t368, .int .u64 t369, .int .i64 t370] 40 (0, 0)) (by (with_reducible repeat (first | refine blk_drewN ?_ _ | refine blk_drew ?_ | refine blk_alloc ?_ _)); exact BK372.out) hb)
              have n6_ := Aside0.mk (below_step (by repeat (first | (with_reducible first | exact HB.out | apply below_alloc | apply pw_below_drewN | apply below_drew1 | refine below_set ?_ GE333.out | refine below_set ?_ GE334.out | refine below_set ?_ GE346.out | refine below_set ?_ GE353.out | refine below_set ?_ GE365.out | refine below_set ?_ GE372.out) | exact HB.out)) hb)
              clear BK333
              clear BK334
              clear BK346
              clear BK353
              clear BK365
              clear BK372
              clear HB
              have BK333 := n0_
              have BK334 := n1_
              have BK346 := n2_
              have BK353 := n3_
              have BK365 := n4_
              have BK372 := n5_
              have HB := n6_
              clear n0_ n1_ n2_ n3_ n4_ n5_ n6_
              (try clear hb)
              (try clear hb2)
              (try clear hk)
              (try clear hi)
              refine hK.out _ _ ⟨(blk_cell BK333.out 0).trans rfl, (blk_cell BK333.out 1).trans rfl, (blk_cell BK333.out 2).trans rfl, (blk_cell BK333.out 3).trans rfl, (blk_cell BK333.out 4).trans rfl, (blk_cell BK346.out 0).trans rfl, (blk_cell BK346.out 1).trans rfl, (blk_cell BK346.out 2).trans rfl, (blk_cell BK346.out 3).trans rfl, (blk_cell BK346.out 4).trans rfl, (blk_cell BK353.out 0).trans rfl, (blk_cell BK353.out 1).trans rfl, (blk_cell BK353.out 2).trans rfl, (blk_cell BK353.out 3).trans rfl, (blk_cell BK353.out 4).trans rfl, (blk_cell BK365.out 0).trans rfl, (blk_cell BK365.out 1).trans rfl, (blk_cell BK365.out 2).trans rfl, (blk_cell BK365.out 3).trans rfl, (blk_cell BK365.out 4).trans rfl, (blk_cell BK372.out 0).trans rfl, (blk_cell BK372.out 1).trans rfl, (blk_cell BK372.out 2).trans rfl, (blk_cell BK372.out 3).trans rfl, (blk_cell BK372.out 4).trans rfl, (blk_cell BK334.out 0).trans rfl, (blk_cell BK334.out 1).trans rfl⟩ (fun hHeld => ?_)
              clear hK K
              refine norm_ (a' := ?_) ?_ ?_
              rotate_left
              · show Act.put _ (some 50) _ = _
                simp only [Act.put, List.setIfInBounds_toArray, List.set_cons_zero, List.set_cons_succ, i64_w, i32_w]
                rfl
              refine one_ (i := 2) (N := some 51) #[true, true, true, true, false, false, false, false, false, false, false, false, false, false, false, false, false, false, false, false, false, false, false, false, false, false, false, false, false, false, false, false, false, false, false, false, false, false, false, false, false, false, false, false, false, false, false, false] rfl rfl (one_of HT_.out (by kernel_rfl)) (by decide) (fun K hK => ?_)
              refine goes_ Try.func25 (by kernel_rfl) rfl #[.agg #[.int .u64 t373, .int .u64 t374, .int .u64 t375, .int .u64 t376, .int .i64 t377]] (by rfl) rfl rfl (by (try simp only [List.map_toArray, List.map_cons, List.map_nil]); first | done | rfl | (simp only [List.length_drop, List.length_take]; rfl)) ?_
              with_reducible refine (register_Right.calls k t373 t374 t375 t376 t377 t378 _ A14.out).mono ?_
              rintro e w78 ⟨rfl, hb⟩
              refine ⟨_, rfl, ?_⟩
              have n0_ := Aside0.mk (blk_below (g := gb333) (o := .cells #[.int .u64 a0_0, .int .u64 a0_1, .int .u64 a0_2, .int .u64 a0_3, .int .i64 a0_4] 40 (0, 0)) (by (with_reducible repeat (first | refine blk_drewN ?_ _ | refine blk_drew ?_ | refine blk_alloc ?_ _)); exact BK333.out) hb)
              have n1_ := Aside0.mk (blk_below (g := gb334) (o := .cells #[.int .u64 a1_0, .int .u64 a1_1] 24 (0, 0)) (by (with_reducible repeat (first | refine blk_drewN ?_ _ | refine blk_drew ?_ | refine blk_alloc ?_ _)); exact BK334.out) hb)
              have n2_ := Aside0.mk (blk_below (g := gb346) (o := .cells #[.int .u64 t340, .int .u64 t341, .int .u64 t342, .int .u64 t343, .int .i64 t344] 42 (0, 0)) (by (with_reducible repeat (first | refine blk_drewN ?_ _ | refine blk_drew ?_ | refine blk_alloc ?_ _)); exact BK346.out) hb)
              have n3_ := Aside0.mk (blk_below (g := gb353) (o := .cells #[.int .u64 t347, .int .u64 t348, .int .u64 t349, .int .u64 t350, .int .i64 t351] 40 (0, 0)) (by (with_reducible repeat (first | refine blk_drewN ?_ _ | refine blk_drew ?_ | refine blk_alloc ?_ _)); exact BK353.out) hb)
              have n4_ := Aside0.mk (blk_below (g := gb365) (o := .cells #[.int .u64 t359, .int .u64 t360, .int .u64 t361, .int .u64 t362, .int .i64 t363] 42 (0, 0)) (by (with_reducible repeat (first | refine blk_drewN ?_ _ | refine blk_drew ?_ | refine blk_alloc ?_ _)); exact BK365.out) hb)
              have n5_ := Aside0.mk (blk_below (g := gb372) (o := .cells #[.int .u64 t366, .int .u64 t367, .int .u64 t368, .int .u64 t369, .int .i64 t370] 40 (0, 0)) (by (with_reducible repeat (first | refine blk_drewN ?_ _ | refine blk_drew ?_ | refine blk_alloc ?_ _)); exact BK372.out) hb)
              have n6_ := Aside0.mk (below_step (by repeat (first | (with_reducible first | exact HB.out | apply below_alloc | apply pw_below_drewN | apply below_drew1 | refine below_set ?_ GE333.out | refine below_set ?_ GE334.out | refine below_set ?_ GE346.out | refine below_set ?_ GE353.out | refine below_set ?_ GE365.out | refine below_set ?_ GE372.out) | exact HB.out)) hb)
              clear BK333
              clear BK334
              clear BK346
              clear BK353
              clear BK365
              clear BK372
              clear HB
              have BK333 := n0_
              have BK334 := n1_
              have BK346 := n2_
              have BK353 := n3_
              have BK365 := n4_
              have BK372 := n5_
              have HB := n6_
              clear n0_ n1_ n2_ n3_ n4_ n5_ n6_
              (try clear hb)
              (try clear hb2)
              (try clear hk)
              (try clear hi)
              refine hK.out _ _ ⟨(blk_cell BK333.out 0).trans rfl, (blk_cell BK333.out 1).trans rfl, (blk_cell BK333.out 2).trans rfl, (blk_cell BK333.out 3).trans rfl, (blk_cell BK333.out 4).trans rfl, (blk_cell BK346.out 0).trans rfl, (blk_cell BK346.out 1).trans rfl, (blk_cell BK346.out 2).trans rfl, (blk_cell BK346.out 3).trans rfl, (blk_cell BK346.out 4).trans rfl, (blk_cell BK353.out 0).trans rfl, (blk_cell BK353.out 1).trans rfl, (blk_cell BK353.out 2).trans rfl, (blk_cell BK353.out 3).trans rfl, (blk_cell BK353.out 4).trans rfl, (blk_cell BK365.out 0).trans rfl, (blk_cell BK365.out 1).trans rfl, (blk_cell BK365.out 2).trans rfl, (blk_cell BK365.out 3).trans rfl, (blk_cell BK365.out 4).trans rfl, (blk_cell BK372.out 0).trans rfl, (blk_cell BK372.out 1).trans rfl, (blk_cell BK372.out 2).trans rfl, (blk_cell BK372.out 3).trans rfl, (blk_cell BK372.out 4).trans rfl, (blk_cell BK334.out 0).trans rfl, (blk_cell BK334.out 1).trans rfl⟩ (fun hHeld => ?_)
              clear hK K
              refine norm_ (a' := ?_) ?_ ?_
              rotate_left
              · show Act.put _ (some 51) _ = _
                simp only [Act.put, List.setIfInBounds_toArray, List.set_cons_zero, List.set_cons_succ, i64_w, i32_w]
                rfl
              refine one_ (i := 4) (N := some 53) #[true, true, true, true, true, false, false, false, false, false, false, false, false, false, false, false, false, false, false, false, false, false, false, false, false, false, false, false, false, false, false, false, false, false, false, false, false, false, false, false, false, false, false, false, false, false, false, false] rfl rfl (one_of HT_.out (by kernel_rfl)) (by decide) (fun K hK => ?_)
              refine goes_ Try.func20 (by kernel_rfl) rfl #[.agg #[.int .u64 a0_0, .int .u64 a0_1, .int .u64 a0_2, .int .u64 a0_3, .int .i64 a0_4]] (by rfl) rfl rfl (by (try simp only [List.map_toArray, List.map_cons, List.map_nil]); first | done | rfl | (simp only [List.length_drop, List.length_take]; rfl)) ?_
              with_reducible refine (winnowref12_Right.calls a0_0 a0_1 a0_2 a0_3 a0_4 t379 _ A15.out).mono ?_
              rintro e w79 ⟨rfl, hb⟩
              refine ⟨_, rfl, ?_⟩
              have n0_ := Aside0.mk (blk_below (g := gb333) (o := .cells #[.int .u64 a0_0, .int .u64 a0_1, .int .u64 a0_2, .int .u64 a0_3, .int .i64 a0_4] 40 (0, 0)) (by (with_reducible repeat (first | refine blk_drewN ?_ _ | refine blk_drew ?_ | refine blk_alloc ?_ _)); exact BK333.out) hb)
              have n1_ := Aside0.mk (blk_below (g := gb334) (o := .cells #[.int .u64 a1_0, .int .u64 a1_1] 24 (0, 0)) (by (with_reducible repeat (first | refine blk_drewN ?_ _ | refine blk_drew ?_ | refine blk_alloc ?_ _)); exact BK334.out) hb)
              have n2_ := Aside0.mk (blk_below (g := gb346) (o := .cells #[.int .u64 t340, .int .u64 t341, .int .u64 t342, .int .u64 t343, .int .i64 t344] 42 (0, 0)) (by (with_reducible repeat (first | refine blk_drewN ?_ _ | refine blk_drew ?_ | refine blk_alloc ?_ _)); exact BK346.out) hb)
              have n3_ := Aside0.mk (blk_below (g := gb353) (o := .cells #[.int .u64 t347, .int .u64 t348, .int .u64 t349, .int .u64 t350, .int .i64 t351] 40 (0, 0)) (by (with_reducible repeat (first | refine blk_drewN ?_ _ | refine blk_drew ?_ | refine blk_alloc ?_ _)); exact BK353.out) hb)
              have n4_ := Aside0.mk (blk_below (g := gb365) (o := .cells #[.int .u64 t359, .int .u64 t360, .int .u64 t361, .int .u64 t362, .int .i64 t363] 42 (0, 0)) (by (with_reducible repeat (first | refine blk_drewN ?_ _ | refine blk_drew ?_ | refine blk_alloc ?_ _)); exact BK365.out) hb)
              have n5_ := Aside0.mk (blk_below (g := gb372) (o := .cells #[.int .u64 t366, .int .u64 t367, .int .u64 t368, .int .u64 t369, .int .i64 t370] 40 (0, 0)) (by (with_reducible repeat (first | refine blk_drewN ?_ _ | refine blk_drew ?_ | refine blk_alloc ?_ _)); exact BK372.out) hb)
              have n6_ := Aside0.mk (below_step (by repeat (first | (with_reducible first | exact HB.out | apply below_alloc | apply pw_below_drewN | apply below_drew1 | refine below_set ?_ GE333.out | refine below_set ?_ GE334.out | refine below_set ?_ GE346.out | refine below_set ?_ GE353.out | refine below_set ?_ GE365.out | refine below_set ?_ GE372.out) | exact HB.out)) hb)
              clear BK333
              clear BK334
              clear BK346
              clear BK353
              clear BK365
              clear BK372
              clear HB
              have BK333 := n0_
              have BK334 := n1_
              have BK346 := n2_
              have BK353 := n3_
              have BK365 := n4_
              have BK372 := n5_
              have HB := n6_
              clear n0_ n1_ n2_ n3_ n4_ n5_ n6_
              (try clear hb)
              (try clear hb2)
              (try clear hk)
              (try clear hi)
              refine hK.out _ _ ⟨(blk_cell BK333.out 0).trans rfl, (blk_cell BK333.out 1).trans rfl, (blk_cell BK333.out 2).trans rfl, (blk_cell BK333.out 3).trans rfl, (blk_cell BK333.out 4).trans rfl, (blk_cell BK346.out 0).trans rfl, (blk_cell BK346.out 1).trans rfl, (blk_cell BK346.out 2).trans rfl, (blk_cell BK346.out 3).trans rfl, (blk_cell BK346.out 4).trans rfl, (blk_cell BK353.out 0).trans rfl, (blk_cell BK353.out 1).trans rfl, (blk_cell BK353.out 2).trans rfl, (blk_cell BK353.out 3).trans rfl, (blk_cell BK353.out 4).trans rfl, (blk_cell BK365.out 0).trans rfl, (blk_cell BK365.out 1).trans rfl, (blk_cell BK365.out 2).trans rfl, (blk_cell BK365.out 3).trans rfl, (blk_cell BK365.out 4).trans rfl, (blk_cell BK372.out 0).trans rfl, (blk_cell BK372.out 1).trans rfl, (blk_cell BK372.out 2).trans rfl, (blk_cell BK372.out 3).trans rfl, (blk_cell BK372.out 4).trans rfl, (blk_cell BK334.out 0).trans rfl, (blk_cell BK334.out 1).trans rfl⟩ (fun hHeld => ?_)
              clear hK K
              refine norm_ (a' := ?_) ?_ ?_
              rotate_left
              · show Act.put _ (some 53) _ = _
                simp only [Act.put, List.setIfInBounds_toArray, List.set_cons_zero, List.set_cons_succ, i64_w, i32_w]
                rfl
              refine pure_ (i := 5) (N := some 54) (v := ?_) (a' := ?_) #[true, true, true, true, true, true, false, false, false, false, false, false, false, false, false, false, false, false, false, false, false, false, false, false, false, false, false, false, false, false, false, false, false, false, false, false, false, false, false, false, false, false, false, false, false, false, false, false] rfl rfl (any_of HT_.out (by kernel_rfl)) (fun _ _ _ h => h) (Or.inl ⟨by rfl, ?_⟩) ?_ ?_
              rotate_left
              · intro w'
                go_simp
                with_reducible rfl
              rotate_left
              · simp only [Act.put, List.setIfInBounds_toArray, List.set_cons_zero, List.set_cons_succ, i64_w, i32_w]
                rfl
              refine pure_ (i := 6) (N := some 55) (v := ?_) (a' := ?_) #[true, true, true, true, true, true, true, false, false, false, false, false, false, false, false, false, false, false, false, false, false, false, false, false, false, false, false, false, false, false, false, false, false, false, false, false, false, false, false, false, false, false, false, false, false, false, false, false] rfl rfl (any_of HT_.out (by kernel_rfl)) (fun _ _ _ h => h) (Or.inl ⟨by rfl, ?_⟩) ?_ ?_
              rotate_left
              · intro w'
                go_simp
                with_reducible rfl
              rotate_left
              · simp only [Act.put, List.setIfInBounds_toArray, List.set_cons_zero, List.set_cons_succ, i64_w, i32_w]
                rfl
              refine take_ (i := 7) (N := some 56) (v := ?_) (a' := ?_) #[true, true, true, true, true, true, true, true, false, false, false, false, false, false, false, false, false, false, false, false, false, false, false, false, false, false, false, false, false, false, false, false, false, false, false, false, false, false, false, false, false, false, false, false, false, false, false, false] rfl rfl (take_ofW HT_.out HW_.out (by kernel_rfl)) (fun _ _ _ h => h) (Or.inl ⟨by rfl, ?_⟩) hHeld ?_ ?_
              rotate_left
              · rintro w' ⟨s0, s1, s2, s3, s4, s5, s6, s7, s8, s9, s10, s11, s12, s13, s14, s15, s16, s17, s18, s19, s20, s21, s22, s23, s24, s25, s26⟩
                go_simp
                with_reducible rfl
              rotate_left
              · simp only [Act.put, List.setIfInBounds_toArray, List.set_cons_zero, List.set_cons_succ, i64_w, i32_w]
                rfl
              refine take_ (i := 9) (N := some 58) (v := ?_) (a' := ?_) #[true, true, true, true, true, true, true, true, false, true, false, false, false, false, false, false, false, false, false, false, false, false, false, false, false, false, false, false, false, false, false, false, false, false, false, false, false, false, false, false, false, false, false, false, false, false, false, false] rfl rfl (take_ofW HT_.out HW_.out (by kernel_rfl)) (fun _ _ _ h => h) (Or.inl ⟨by rfl, ?_⟩) hHeld ?_ ?_
              rotate_left
              · rintro w' ⟨s0, s1, s2, s3, s4, s5, s6, s7, s8, s9, s10, s11, s12, s13, s14, s15, s16, s17, s18, s19, s20, s21, s22, s23, s24, s25, s26⟩
                go_simp
                with_reducible rfl
              rotate_left
              · simp only [Act.put, List.setIfInBounds_toArray, List.set_cons_zero, List.set_cons_succ, i64_w, i32_w]
                rfl
              refine one_ (i := 8) (N := some 57) #[true, true, true, true, true, true, true, true, true, true, false, false, false, false, false, false, false, false, false, false, false, false, false, false, false, false, false, false, false, false, false, false, false, false, false, false, false, false, false, false, false, false, false, false, false, false, false, false] rfl rfl (one_of HT_.out (by kernel_rfl)) (by decide) (fun K hK => ?_)
              refine goes_ Try.func28 (by kernel_rfl) rfl #[.agg #[.int .u64 t340, .int .u64 t341, .int .u64 t342, .int .u64 t343, .int .i64 t344]] (by rfl) rfl rfl (by (try simp only [List.map_toArray, List.map_cons, List.map_nil]); first | done | rfl | (simp only [List.length_drop, List.length_take]; rfl)) ?_
              with_reducible refine (winnowlaw12_Back.calls t340 t341 t342 t343 t344 t380 t381 t382 t383 t384 _ A17.out).mono ?_
              rintro e w80 ⟨rfl, hb⟩
              refine ⟨_, rfl, ?_⟩
              have n0_ := Aside0.mk (blk_below (g := gb333) (o := .cells #[.int .u64 a0_0, .int .u64 a0_1, .int .u64 a0_2, .int .u64 a0_3, .int .i64 a0_4] 40 (0, 0)) (by (with_reducible repeat (first | refine blk_drewN ?_ _ | refine blk_drew ?_ | refine blk_alloc ?_ _)); exact BK333.out) hb)
              have n1_ := Aside0.mk (blk_below (g := gb334) (o := .cells #[.int .u64 a1_0, .int .u64 a1_1] 24 (0, 0)) (by (with_reducible repeat (first | refine blk_drewN ?_ _ | refine blk_drew ?_ | refine blk_alloc ?_ _)); exact BK334.out) hb)
              have n2_ := Aside0.mk (blk_below (g := gb346) (o := .cells #[.int .u64 t340, .int .u64 t341, .int .u64 t342, .int .u64 t343, .int .i64 t344] 42 (0, 0)) (by (with_reducible repeat (first | refine blk_drewN ?_ _ | refine blk_drew ?_ | refine blk_alloc ?_ _)); exact BK346.out) hb)
              have n3_ := Aside0.mk (blk_below (g := gb353) (o := .cells #[.int .u64 t347, .int .u64 t348, .int .u64 t349, .int .u64 t350, .int .i64 t351] 40 (0, 0)) (by (with_reducible repeat (first | refine blk_drewN ?_ _ | refine blk_drew ?_ | refine blk_alloc ?_ _)); exact BK353.out) hb)
              have n4_ := Aside0.mk (blk_below (g := gb365) (o := .cells #[.int .u64 t359, .int .u64 t360, .int .u64 t361, .int .u64 t362, .int .i64 t363] 42 (0, 0)) (by (with_reducible repeat (first | refine blk_drewN ?_ _ | refine blk_drew ?_ | refine blk_alloc ?_ _)); exact BK365.out) hb)
              have n5_ := Aside0.mk (blk_below (g := gb372) (o := .cells #[.int .u64 t366, .int .u64 t367, .int .u64 t368, .int .u64 t369, .int .i64 t370] 40 (0, 0)) (by (with_reducible repeat (first | refine blk_drewN ?_ _ | refine blk_drew ?_ | refine blk_alloc ?_ _)); exact BK372.out) hb)
              have n6_ := Aside0.mk (below_step (by repeat (first | (with_reducible first | exact HB.out | apply below_alloc | apply pw_below_drewN | apply below_drew1 | refine below_set ?_ GE333.out | refine below_set ?_ GE334.out | refine below_set ?_ GE346.out | refine below_set ?_ GE353.out | refine below_set ?_ GE365.out | refine below_set ?_ GE372.out) | exact HB.out)) hb)
              clear BK333
              clear BK334
              clear BK346
              clear BK353
              clear BK365
              clear BK372
              clear HB
              have BK333 := n0_
              have BK334 := n1_
              have BK346 := n2_
              have BK353 := n3_
              have BK365 := n4_
              have BK372 := n5_
              have HB := n6_
              clear n0_ n1_ n2_ n3_ n4_ n5_ n6_
              (try clear hb)
              (try clear hb2)
              (try clear hk)
              (try clear hi)
              refine hK.out _ _ ⟨(blk_cell BK333.out 0).trans rfl, (blk_cell BK333.out 1).trans rfl, (blk_cell BK333.out 2).trans rfl, (blk_cell BK333.out 3).trans rfl, (blk_cell BK333.out 4).trans rfl, (blk_cell BK346.out 0).trans rfl, (blk_cell BK346.out 1).trans rfl, (blk_cell BK346.out 2).trans rfl, (blk_cell BK346.out 3).trans rfl, (blk_cell BK346.out 4).trans rfl, (blk_cell BK353.out 0).trans rfl, (blk_cell BK353.out 1).trans rfl, (blk_cell BK353.out 2).trans rfl, (blk_cell BK353.out 3).trans rfl, (blk_cell BK353.out 4).trans rfl, (blk_cell BK365.out 0).trans rfl, (blk_cell BK365.out 1).trans rfl, (blk_cell BK365.out 2).trans rfl, (blk_cell BK365.out 3).trans rfl, (blk_cell BK365.out 4).trans rfl, (blk_cell BK372.out 0).trans rfl, (blk_cell BK372.out 1).trans rfl, (blk_cell BK372.out 2).trans rfl, (blk_cell BK372.out 3).trans rfl, (blk_cell BK372.out 4).trans rfl, (blk_cell BK334.out 0).trans rfl, (blk_cell BK334.out 1).trans rfl⟩ (fun hHeld => ?_)
              clear hK K
              refine norm_ (a' := ?_) ?_ ?_
              rotate_left
              · show Act.put _ (some 57) _ = _
                simp only [Act.put, List.setIfInBounds_toArray, List.set_cons_zero, List.set_cons_succ, i64_w, i32_w]
                rfl
              refine pure_ (i := 10) (N := some 59) (v := ?_) (a' := ?_) #[true, true, true, true, true, true, true, true, true, true, true, false, false, false, false, false, false, false, false, false, false, false, false, false, false, false, false, false, false, false, false, false, false, false, false, false, false, false, false, false, false, false, false, false, false, false, false, false] rfl rfl (any_of HT_.out (by kernel_rfl)) (fun _ _ _ h => h) (Or.inl ⟨by rfl, ?_⟩) ?_ ?_
              rotate_left
              · intro w'
                go_simp
                with_reducible rfl
              rotate_left
              · simp only [Act.put, List.setIfInBounds_toArray, List.set_cons_zero, List.set_cons_succ, i64_w, i32_w]
                rfl
              refine pure_ (i := 11) (N := some 60) (v := ?_) (a' := ?_) #[true, true, true, true, true, true, true, true, true, true, true, true, false, false, false, false, false, false, false, false, false, false, false, false, false, false, false, false, false, false, false, false, false, false, false, false, false, false, false, false, false, false, false, false, false, false, false, false] rfl rfl (any_of HT_.out (by kernel_rfl)) (fun _ _ _ h => h) (Or.inl ⟨by rfl, ?_⟩) ?_ ?_
              rotate_left
              · intro w'
                go_simp
                with_reducible rfl
              rotate_left
              · simp only [Act.put, List.setIfInBounds_toArray, List.set_cons_zero, List.set_cons_succ, i64_w, i32_w]
                rfl
              refine pure_ (i := 12) (N := some 61) (v := ?_) (a' := ?_) #[true, true, true, true, true, true, true, true, true, true, true, true, true, false, false, false, false, false, false, false, false, false, false, false, false, false, false, false, false, false, false, false, false, false, false, false, false, false, false, false, false, false, false, false, false, false, false, false] rfl rfl (any_of HT_.out (by kernel_rfl)) (fun _ _ _ h => h) (Or.inl ⟨by rfl, ?_⟩) ?_ ?_
              rotate_left
              · intro w'
                go_simp
                with_reducible rfl
              rotate_left
              · simp only [Act.put, List.setIfInBounds_toArray, List.set_cons_zero, List.set_cons_succ, i64_w, i32_w]
                rfl
              refine pure_ (i := 13) (N := some 62) (v := ?_) (a' := ?_) #[true, true, true, true, true, true, true, true, true, true, true, true, true, true, false, false, false, false, false, false, false, false, false, false, false, false, false, false, false, false, false, false, false, false, false, false, false, false, false, false, false, false, false, false, false, false, false, false] rfl rfl (any_of HT_.out (by kernel_rfl)) (fun _ _ _ h => h) (Or.inl ⟨by rfl, ?_⟩) ?_ ?_
              rotate_left
              · intro w'
                go_simp
                with_reducible rfl
              rotate_left
              · simp only [Act.put, List.setIfInBounds_toArray, List.set_cons_zero, List.set_cons_succ, i64_w, i32_w]
                rfl
              refine pure_ (i := 14) (N := some 63) (v := ?_) (a' := ?_) #[true, true, true, true, true, true, true, true, true, true, true, true, true, true, true, false, false, false, false, false, false, false, false, false, false, false, false, false, false, false, false, false, false, false, false, false, false, false, false, false, false, false, false, false, false, false, false, false] rfl rfl (any_of HT_.out (by kernel_rfl)) (fun _ _ _ h => h) (Or.inl ⟨by rfl, ?_⟩) ?_ ?_
              rotate_left
              · intro w'
                go_simp
                with_reducible rfl
              rotate_left
              · simp only [Act.put, List.setIfInBounds_toArray, List.set_cons_zero, List.set_cons_succ, i64_w, i32_w]
                rfl
              refine pure_ (i := 15) (N := some 64) (v := ?_) (a' := ?_) #[true, true, true, true, true, true, true, true, true, true, true, true, true, true, true, true, false, false, false, false, false, false, false, false, false, false, false, false, false, false, false, false, false, false, false, false, false, false, false, false, false, false, false, false, false, false, false, false] rfl rfl (any_of HT_.out (by kernel_rfl)) (fun _ _ _ h => h) (Or.inl ⟨by rfl, ?_⟩) ?_ ?_
              rotate_left
              · intro w'
                go_simp
                with_reducible rfl
              rotate_left
              · simp only [Act.put, List.setIfInBounds_toArray, List.set_cons_zero, List.set_cons_succ, i64_w, i32_w]
                rfl
              refine pure_ (i := 16) (N := some 65) (v := ?_) (a' := ?_) #[true, true, true, true, true, true, true, true, true, true, true, true, true, true, true, true, true, false, false, false, false, false, false, false, false, false, false, false, false, false, false, false, false, false, false, false, false, false, false, false, false, false, false, false, false, false, false, false] rfl rfl (any_of HT_.out (by kernel_rfl)) (fun _ _ _ h => h) (Or.inl ⟨by rfl, ?_⟩) ?_ ?_
              rotate_left
              · intro w'
                go_simp
                with_reducible rfl
              rotate_left
              · simp only [Act.put, List.setIfInBounds_toArray, List.set_cons_zero, List.set_cons_succ, i64_w, i32_w]
                rfl
              refine pure_ (i := 17) (N := some 66) (v := ?_) (a' := ?_) #[true, true, true, true, true, true, true, true, true, true, true, true, true, true, true, true, true, true, false, false, false, false, false, false, false, false, false, false, false, false, false, false, false, false, false, false, false, false, false, false, false, false, false, false, false, false, false, false] rfl rfl (any_of HT_.out (by kernel_rfl)) (fun _ _ _ h => h) (Or.inl ⟨by rfl, ?_⟩) ?_ ?_
              rotate_left
              · intro w'
                go_simp
                with_reducible rfl
              rotate_left
              · simp only [Act.put, List.setIfInBounds_toArray, List.set_cons_zero, List.set_cons_succ, i64_w, i32_w]
                rfl
              refine take_ (i := 18) (N := some 67) (v := ?_) (a' := ?_) #[true, true, true, true, true, true, true, true, true, true, true, true, true, true, true, true, true, true, true, false, false, false, false, false, false, false, false, false, false, false, false, false, false, false, false, false, false, false, false, false, false, false, false, false, false, false, false, false] rfl rfl (take_ofW HT_.out HW_.out (by kernel_rfl)) (fun _ _ _ h => h) (Or.inl ⟨by rfl, ?_⟩) hHeld ?_ ?_
              rotate_left
              · rintro w' ⟨s0, s1, s2, s3, s4, s5, s6, s7, s8, s9, s10, s11, s12, s13, s14, s15, s16, s17, s18, s19, s20, s21, s22, s23, s24, s25, s26⟩
                go_simp
                with_reducible rfl
              rotate_left
              · simp only [Act.put, List.setIfInBounds_toArray, List.set_cons_zero, List.set_cons_succ, i64_w, i32_w]
                rfl
              refine take_ (i := 20) (N := some 69) (v := ?_) (a' := ?_) #[true, true, true, true, true, true, true, true, true, true, true, true, true, true, true, true, true, true, true, false, true, false, false, false, false, false, false, false, false, false, false, false, false, false, false, false, false, false, false, false, false, false, false, false, false, false, false, false] rfl rfl (take_ofW HT_.out HW_.out (by kernel_rfl)) (fun _ _ _ h => h) (Or.inl ⟨by rfl, ?_⟩) hHeld ?_ ?_
              rotate_left
              · rintro w' ⟨s0, s1, s2, s3, s4, s5, s6, s7, s8, s9, s10, s11, s12, s13, s14, s15, s16, s17, s18, s19, s20, s21, s22, s23, s24, s25, s26⟩
                go_simp
                with_reducible rfl
              rotate_left
              · simp only [Act.put, List.setIfInBounds_toArray, List.set_cons_zero, List.set_cons_succ, i64_w, i32_w]
                rfl
              refine one_ (i := 19) (N := some 68) #[true, true, true, true, true, true, true, true, true, true, true, true, true, true, true, true, true, true, true, true, true, false, false, false, false, false, false, false, false, false, false, false, false, false, false, false, false, false, false, false, false, false, false, false, false, false, false, false] rfl rfl (one_of HT_.out (by kernel_rfl)) (by decide) (fun K hK => ?_)
              refine goes_ Try.func28 (by kernel_rfl) rfl #[.agg #[.int .u64 t359, .int .u64 t360, .int .u64 t361, .int .u64 t362, .int .i64 t363]] (by rfl) rfl rfl (by (try simp only [List.map_toArray, List.map_cons, List.map_nil]); first | done | rfl | (simp only [List.length_drop, List.length_take]; rfl)) ?_
              with_reducible refine (winnowlaw12_Back.calls t359 t360 t361 t362 t363 t385 t386 t387 t388 t389 _ A20.out).mono ?_
              rintro e w81 ⟨rfl, hb⟩
              refine ⟨_, rfl, ?_⟩
              have n0_ := Aside0.mk (blk_below (g := gb333) (o := .cells #[.int .u64 a0_0, .int .u64 a0_1, .int .u64 a0_2, .int .u64 a0_3, .int .i64 a0_4] 40 (0, 0)) (by (with_reducible repeat (first | refine blk_drewN ?_ _ | refine blk_drew ?_ | refine blk_alloc ?_ _)); exact BK333.out) hb)
              have n1_ := Aside0.mk (blk_below (g := gb334) (o := .cells #[.int .u64 a1_0, .int .u64 a1_1] 24 (0, 0)) (by (with_reducible repeat (first | refine blk_drewN ?_ _ | refine blk_drew ?_ | refine blk_alloc ?_ _)); exact BK334.out) hb)
              have n2_ := Aside0.mk (blk_below (g := gb346) (o := .cells #[.int .u64 t340, .int .u64 t341, .int .u64 t342, .int .u64 t343, .int .i64 t344] 42 (0, 0)) (by (with_reducible repeat (first | refine blk_drewN ?_ _ | refine blk_drew ?_ | refine blk_alloc ?_ _)); exact BK346.out) hb)
              have n3_ := Aside0.mk (blk_below (g := gb353) (o := .cells #[.int .u64 t347, .int .u64 t348, .int .u64 t349, .int .u64 t350, .int .i64 t351] 40 (0, 0)) (by (with_reducible repeat (first | refine blk_drewN ?_ _ | refine blk_drew ?_ | refine blk_alloc ?_ _)); exact BK353.out) hb)
              have n4_ := Aside0.mk (blk_below (g := gb365) (o := .cells #[.int .u64 t359, .int .u64 t360, .int .u64 t361, .int .u64 t362, .int .i64 t363] 42 (0, 0)) (by (with_reducible repeat (first | refine blk_drewN ?_ _ | refine blk_drew ?_ | refine blk_alloc ?_ _)); exact BK365.out) hb)
              have n5_ := Aside0.mk (blk_below (g := gb372) (o := .cells #[.int .u64 t366, .int .u64 t367, .int .u64 t368, .int .u64 t369, .int .i64 t370] 40 (0, 0)) (by (with_reducible repeat (first | refine blk_drewN ?_ _ | refine blk_drew ?_ | refine blk_alloc ?_ _)); exact BK372.out) hb)
              have n6_ := Aside0.mk (below_step (by repeat (first | (with_reducible first | exact HB.out | apply below_alloc | apply pw_below_drewN | apply below_drew1 | refine below_set ?_ GE333.out | refine below_set ?_ GE334.out | refine below_set ?_ GE346.out | refine below_set ?_ GE353.out | refine below_set ?_ GE365.out | refine below_set ?_ GE372.out) | exact HB.out)) hb)
              clear BK333
              clear BK334
              clear BK346
              clear BK353
              clear BK365
              clear BK372
              clear HB
              have BK333 := n0_
              have BK334 := n1_
              have BK346 := n2_
              have BK353 := n3_
              have BK365 := n4_
              have BK372 := n5_
              have HB := n6_
              clear n0_ n1_ n2_ n3_ n4_ n5_ n6_
              (try clear hb)
              (try clear hb2)
              (try clear hk)
              (try clear hi)
              refine hK.out _ _ ⟨(blk_cell BK333.out 0).trans rfl, (blk_cell BK333.out 1).trans rfl, (blk_cell BK333.out 2).trans rfl, (blk_cell BK333.out 3).trans rfl, (blk_cell BK333.out 4).trans rfl, (blk_cell BK346.out 0).trans rfl, (blk_cell BK346.out 1).trans rfl, (blk_cell BK346.out 2).trans rfl, (blk_cell BK346.out 3).trans rfl, (blk_cell BK346.out 4).trans rfl, (blk_cell BK353.out 0).trans rfl, (blk_cell BK353.out 1).trans rfl, (blk_cell BK353.out 2).trans rfl, (blk_cell BK353.out 3).trans rfl, (blk_cell BK353.out 4).trans rfl, (blk_cell BK365.out 0).trans rfl, (blk_cell BK365.out 1).trans rfl, (blk_cell BK365.out 2).trans rfl, (blk_cell BK365.out 3).trans rfl, (blk_cell BK365.out 4).trans rfl, (blk_cell BK372.out 0).trans rfl, (blk_cell BK372.out 1).trans rfl, (blk_cell BK372.out 2).trans rfl, (blk_cell BK372.out 3).trans rfl, (blk_cell BK372.out 4).trans rfl, (blk_cell BK334.out 0).trans rfl, (blk_cell BK334.out 1).trans rfl⟩ (fun hHeld => ?_)
              clear hK K
              refine norm_ (a' := ?_) ?_ ?_
              rotate_left
              · show Act.put _ (some 68) _ = _
                simp only [Act.put, List.setIfInBounds_toArray, List.set_cons_zero, List.set_cons_succ, i64_w, i32_w]
                rfl
              refine pure_ (i := 21) (N := some 70) (v := ?_) (a' := ?_) #[true, true, true, true, true, true, true, true, true, true, true, true, true, true, true, true, true, true, true, true, true, true, false, false, false, false, false, false, false, false, false, false, false, false, false, false, false, false, false, false, false, false, false, false, false, false, false, false] rfl rfl (any_of HT_.out (by kernel_rfl)) (fun _ _ _ h => h) (Or.inl ⟨by rfl, ?_⟩) ?_ ?_
              rotate_left
              · intro w'
                go_simp
                with_reducible rfl
              rotate_left
              · simp only [Act.put, List.setIfInBounds_toArray, List.set_cons_zero, List.set_cons_succ, i64_w, i32_w]
                rfl
              refine pure_ (i := 22) (N := some 71) (v := ?_) (a' := ?_) #[true, true, true, true, true, true, true, true, true, true, true, true, true, true, true, true, true, true, true, true, true, true, true, false, false, false, false, false, false, false, false, false, false, false, false, false, false, false, false, false, false, false, false, false, false, false, false, false] rfl rfl (any_of HT_.out (by kernel_rfl)) (fun _ _ _ h => h) (Or.inl ⟨by rfl, ?_⟩) ?_ ?_
              rotate_left
              · intro w'
                go_simp
                with_reducible rfl
              rotate_left
              · simp only [Act.put, List.setIfInBounds_toArray, List.set_cons_zero, List.set_cons_succ, i64_w, i32_w]
                rfl
              refine pure_ (i := 23) (N := some 72) (v := ?_) (a' := ?_) #[true, true, true, true, true, true, true, true, true, true, true, true, true, true, true, true, true, true, true, true, true, true, true, true, false, false, false, false, false, false, false, false, false, false, false, false, false, false, false, false, false, false, false, false, false, false, false, false] rfl rfl (any_of HT_.out (by kernel_rfl)) (fun _ _ _ h => h) (Or.inl ⟨by rfl, ?_⟩) ?_ ?_
              rotate_left
              · intro w'
                go_simp
                with_reducible rfl
              rotate_left
              · simp only [Act.put, List.setIfInBounds_toArray, List.set_cons_zero, List.set_cons_succ, i64_w, i32_w]
                rfl
              refine pure_ (i := 24) (N := some 73) (v := ?_) (a' := ?_) #[true, true, true, true, true, true, true, true, true, true, true, true, true, true, true, true, true, true, true, true, true, true, true, true, true, false, false, false, false, false, false, false, false, false, false, false, false, false, false, false, false, false, false, false, false, false, false, false] rfl rfl (any_of HT_.out (by kernel_rfl)) (fun _ _ _ h => h) (Or.inl ⟨by rfl, ?_⟩) ?_ ?_
              rotate_left
              · intro w'
                go_simp
                with_reducible rfl
              rotate_left
              · simp only [Act.put, List.setIfInBounds_toArray, List.set_cons_zero, List.set_cons_succ, i64_w, i32_w]
                rfl
              refine pure_ (i := 25) (N := some 74) (v := ?_) (a' := ?_) #[true, true, true, true, true, true, true, true, true, true, true, true, true, true, true, true, true, true, true, true, true, true, true, true, true, true, false, false, false, false, false, false, false, false, false, false, false, false, false, false, false, false, false, false, false, false, false, false] rfl rfl (any_of HT_.out (by kernel_rfl)) (fun _ _ _ h => h) (Or.inl ⟨by rfl, ?_⟩) ?_ ?_
              rotate_left
              · intro w'
                go_simp
                with_reducible rfl
              rotate_left
              · simp only [Act.put, List.setIfInBounds_toArray, List.set_cons_zero, List.set_cons_succ, i64_w, i32_w]
                rfl
              refine pure_ (i := 26) (N := some 75) (v := ?_) (a' := ?_) #[true, true, true, true, true, true, true, true, true, true, true, true, true, true, true, true, true, true, true, true, true, true, true, true, true, true, true, false, false, false, false, false, false, false, false, false, false, false, false, false, false, false, false, false, false, false, false, false] rfl rfl (any_of HT_.out (by kernel_rfl)) (fun _ _ _ h => h) (Or.inl ⟨by rfl, ?_⟩) ?_ ?_
              rotate_left
              · intro w'
                go_simp
                with_reducible rfl
              rotate_left
              · simp only [Act.put, List.setIfInBounds_toArray, List.set_cons_zero, List.set_cons_succ, i64_w, i32_w]
                rfl
              refine pure_ (i := 27) (N := some 76) (v := ?_) (a' := ?_) #[true, true, true, true, true, true, true, true, true, true, true, true, true, true, true, true, true, true, true, true, true, true, true, true, true, true, true, true, false, false, false, false, false, false, false, false, false, false, false, false, false, false, false, false, false, false, false, false] rfl rfl (any_of HT_.out (by kernel_rfl)) (fun _ _ _ h => h) (Or.inl ⟨by rfl, ?_⟩) ?_ ?_
              rotate_left
              · intro w'
                go_simp
                with_reducible rfl
              rotate_left
              · simp only [Act.put, List.setIfInBounds_toArray, List.set_cons_zero, List.set_cons_succ, i64_w, i32_w]
                rfl
              refine pure_ (i := 28) (N := some 77) (v := ?_) (a' := ?_) #[true, true, true, true, true, true, true, true, true, true, true, true, true, true, true, true, true, true, true, true, true, true, true, true, true, true, true, true, true, false, false, false, false, false, false, false, false, false, false, false, false, false, false, false, false, false, false, false] rfl rfl (any_of HT_.out (by kernel_rfl)) (fun _ _ _ h => h) (Or.inl ⟨by rfl, ?_⟩) ?_ ?_
              rotate_left
              · intro w'
                go_simp
                with_reducible rfl
              rotate_left
              · simp only [Act.put, List.setIfInBounds_toArray, List.set_cons_zero, List.set_cons_succ, i64_w, i32_w]
                rfl
              refine pure_ (i := 31) (N := some 80) (v := ?_) (a' := ?_) #[true, true, true, true, true, true, true, true, true, true, true, true, true, true, true, true, true, true, true, true, true, true, true, true, true, true, true, true, true, false, false, true, false, false, false, false, false, false, false, false, false, false, false, false, false, false, false, false] rfl rfl (any_of HT_.out (by kernel_rfl)) (fun _ _ _ h => h) (Or.inl ⟨by rfl, ?_⟩) ?_ ?_
              rotate_left
              · intro w'
                go_simp
                with_reducible rfl
              rotate_left
              · simp only [Act.put, List.setIfInBounds_toArray, List.set_cons_zero, List.set_cons_succ, i64_w, i32_w]
                rfl
              refine pure_ (i := 33) (N := some 82) (v := ?_) (a' := ?_) #[true, true, true, true, true, true, true, true, true, true, true, true, true, true, true, true, true, true, true, true, true, true, true, true, true, true, true, true, true, false, false, true, false, true, false, false, false, false, false, false, false, false, false, false, false, false, false, false] rfl rfl (any_of HT_.out (by kernel_rfl)) (fun _ _ _ h => h) (Or.inl ⟨by rfl, ?_⟩) ?_ ?_
              rotate_left
              · intro w'
                go_simp
                with_reducible rfl
              rotate_left
              · simp only [Act.put, List.setIfInBounds_toArray, List.set_cons_zero, List.set_cons_succ, i64_w, i32_w]
                rfl
              refine pure_ (i := 34) (N := some 83) (v := ?_) (a' := ?_) #[true, true, true, true, true, true, true, true, true, true, true, true, true, true, true, true, true, true, true, true, true, true, true, true, true, true, true, true, true, false, false, true, false, true, true, false, false, false, false, false, false, false, false, false, false, false, false, false] rfl rfl (any_of HT_.out (by kernel_rfl)) (fun _ _ _ h => h) (Or.inl ⟨by rfl, ?_⟩) ?_ ?_
              rotate_left
              · intro w'
                go_simp
                with_reducible rfl
              rotate_left
              · simp only [Act.put, List.setIfInBounds_toArray, List.set_cons_zero, List.set_cons_succ, i64_w, i32_w]
                rfl
              refine pure_ (i := 37) (N := some 86) (v := ?_) (a' := ?_) #[true, true, true, true, true, true, true, true, true, true, true, true, true, true, true, true, true, true, true, true, true, true, true, true, true, true, true, true, true, false, false, true, false, true, true, false, false, true, false, false, false, false, false, false, false, false, false, false] rfl rfl (any_of HT_.out (by kernel_rfl)) (fun _ _ _ h => h) (Or.inl ⟨by rfl, ?_⟩) ?_ ?_
              rotate_left
              · intro w'
                go_simp
                with_reducible rfl
              rotate_left
              · simp only [Act.put, List.setIfInBounds_toArray, List.set_cons_zero, List.set_cons_succ, i64_w, i32_w]
                rfl
              refine pure_ (i := 39) (N := some 88) (v := ?_) (a' := ?_) #[true, true, true, true, true, true, true, true, true, true, true, true, true, true, true, true, true, true, true, true, true, true, true, true, true, true, true, true, true, false, false, true, false, true, true, false, false, true, false, true, false, false, false, false, false, false, false, false] rfl rfl (any_of HT_.out (by kernel_rfl)) (fun _ _ _ h => h) (Or.inl ⟨by rfl, ?_⟩) ?_ ?_
              rotate_left
              · intro w'
                go_simp
                with_reducible rfl
              rotate_left
              · simp only [Act.put, List.setIfInBounds_toArray, List.set_cons_zero, List.set_cons_succ, i64_w, i32_w]
                rfl
              refine pure_ (i := 40) (N := some 89) (v := ?_) (a' := ?_) #[true, true, true, true, true, true, true, true, true, true, true, true, true, true, true, true, true, true, true, true, true, true, true, true, true, true, true, true, true, false, false, true, false, true, true, false, false, true, false, true, true, false, false, false, false, false, false, false] rfl rfl (any_of HT_.out (by kernel_rfl)) (fun _ _ _ h => h) (Or.inl ⟨by rfl, ?_⟩) ?_ ?_
              rotate_left
              · intro w'
                go_simp
                with_reducible rfl
              rotate_left
              · simp only [Act.put, List.setIfInBounds_toArray, List.set_cons_zero, List.set_cons_succ, i64_w, i32_w]
                rfl
              refine take_ (i := 29) (N := some 78) (v := ?_) (a' := ?_) #[true, true, true, true, true, true, true, true, true, true, true, true, true, true, true, true, true, true, true, true, true, true, true, true, true, true, true, true, true, true, false, true, false, true, true, false, false, true, false, true, true, false, false, false, false, false, false, false] rfl rfl (take_ofW HT_.out HW_.out (by kernel_rfl)) (fun _ _ _ h => h) (Or.inl ⟨by rfl, ?_⟩) hHeld ?_ ?_
              rotate_left
              · rintro w' ⟨s0, s1, s2, s3, s4, s5, s6, s7, s8, s9, s10, s11, s12, s13, s14, s15, s16, s17, s18, s19, s20, s21, s22, s23, s24, s25, s26⟩
                go_simp
                with_reducible rfl
              rotate_left
              · simp only [Act.put, List.setIfInBounds_toArray, List.set_cons_zero, List.set_cons_succ, i64_w, i32_w]
                rfl
              refine take_ (i := 32) (N := some 81) (v := ?_) (a' := ?_) #[true, true, true, true, true, true, true, true, true, true, true, true, true, true, true, true, true, true, true, true, true, true, true, true, true, true, true, true, true, true, false, true, true, true, true, false, false, true, false, true, true, false, false, false, false, false, false, false] rfl rfl (take_ofW HT_.out HW_.out (by kernel_rfl)) (fun _ _ _ h => h) (Or.inl ⟨by rfl, ?_⟩) hHeld ?_ ?_
              rotate_left
              · rintro w' ⟨s0, s1, s2, s3, s4, s5, s6, s7, s8, s9, s10, s11, s12, s13, s14, s15, s16, s17, s18, s19, s20, s21, s22, s23, s24, s25, s26⟩
                go_simp
                with_reducible rfl
              rotate_left
              · simp only [Act.put, List.setIfInBounds_toArray, List.set_cons_zero, List.set_cons_succ, i64_w, i32_w]
                rfl
              refine take_ (i := 36) (N := some 85) (v := ?_) (a' := ?_) #[true, true, true, true, true, true, true, true, true, true, true, true, true, true, true, true, true, true, true, true, true, true, true, true, true, true, true, true, true, true, false, true, true, true, true, false, true, true, false, true, true, false, false, false, false, false, false, false] rfl rfl (take_ofW HT_.out HW_.out (by kernel_rfl)) (fun _ _ _ h => h) (Or.inl ⟨by rfl, ?_⟩) hHeld ?_ ?_
              rotate_left
              · rintro w' ⟨s0, s1, s2, s3, s4, s5, s6, s7, s8, s9, s10, s11, s12, s13, s14, s15, s16, s17, s18, s19, s20, s21, s22, s23, s24, s25, s26⟩
                go_simp
                with_reducible rfl
              rotate_left
              · simp only [Act.put, List.setIfInBounds_toArray, List.set_cons_zero, List.set_cons_succ, i64_w, i32_w]
                rfl
              refine take_ (i := 38) (N := some 87) (v := ?_) (a' := ?_) #[true, true, true, true, true, true, true, true, true, true, true, true, true, true, true, true, true, true, true, true, true, true, true, true, true, true, true, true, true, true, false, true, true, true, true, false, true, true, true, true, true, false, false, false, false, false, false, false] rfl rfl (take_ofW HT_.out HW_.out (by kernel_rfl)) (fun _ _ _ h => h) (Or.inl ⟨by rfl, ?_⟩) hHeld ?_ ?_
              rotate_left
              · rintro w' ⟨s0, s1, s2, s3, s4, s5, s6, s7, s8, s9, s10, s11, s12, s13, s14, s15, s16, s17, s18, s19, s20, s21, s22, s23, s24, s25, s26⟩
                go_simp
                with_reducible rfl
              rotate_left
              · simp only [Act.put, List.setIfInBounds_toArray, List.set_cons_zero, List.set_cons_succ, i64_w, i32_w]
                rfl
              refine one_ (i := 30) (N := some 79) #[true, true, true, true, true, true, true, true, true, true, true, true, true, true, true, true, true, true, true, true, true, true, true, true, true, true, true, true, true, true, true, true, true, true, true, false, true, true, true, true, true, false, false, false, false, false, false, false] rfl rfl (one_of HT_.out (by kernel_rfl)) (by decide) (fun K hK => ?_)
              refine goes_ Try.func23 (by kernel_rfl) rfl #[.agg #[.int .u64 a0_0, .int .u64 a0_1, .int .u64 a0_2, .int .u64 a0_3, .int .i64 a0_4]] (by rfl) rfl rfl (by (try simp only [List.map_toArray, List.map_cons, List.map_nil]); first | done | rfl | (simp only [List.length_drop, List.length_take]; rfl)) ?_
              with_reducible refine (winnowlaw12_own.calls a0_0 a0_1 a0_2 a0_3 a0_4 t390 t391 t392 t393 t394 _ A23.out).mono ?_
              rintro e w82 ⟨rfl, hb⟩
              refine ⟨_, rfl, ?_⟩
              have n0_ := Aside0.mk (blk_below (g := gb333) (o := .cells #[.int .u64 a0_0, .int .u64 a0_1, .int .u64 a0_2, .int .u64 a0_3, .int .i64 a0_4] 40 (0, 0)) (by (with_reducible repeat (first | refine blk_drewN ?_ _ | refine blk_drew ?_ | refine blk_alloc ?_ _)); exact BK333.out) hb)
              have n1_ := Aside0.mk (blk_below (g := gb334) (o := .cells #[.int .u64 a1_0, .int .u64 a1_1] 24 (0, 0)) (by (with_reducible repeat (first | refine blk_drewN ?_ _ | refine blk_drew ?_ | refine blk_alloc ?_ _)); exact BK334.out) hb)
              have n2_ := Aside0.mk (blk_below (g := gb346) (o := .cells #[.int .u64 t340, .int .u64 t341, .int .u64 t342, .int .u64 t343, .int .i64 t344] 42 (0, 0)) (by (with_reducible repeat (first | refine blk_drewN ?_ _ | refine blk_drew ?_ | refine blk_alloc ?_ _)); exact BK346.out) hb)
              have n3_ := Aside0.mk (blk_below (g := gb353) (o := .cells #[.int .u64 t347, .int .u64 t348, .int .u64 t349, .int .u64 t350, .int .i64 t351] 40 (0, 0)) (by (with_reducible repeat (first | refine blk_drewN ?_ _ | refine blk_drew ?_ | refine blk_alloc ?_ _)); exact BK353.out) hb)
              have n4_ := Aside0.mk (blk_below (g := gb365) (o := .cells #[.int .u64 t359, .int .u64 t360, .int .u64 t361, .int .u64 t362, .int .i64 t363] 42 (0, 0)) (by (with_reducible repeat (first | refine blk_drewN ?_ _ | refine blk_drew ?_ | refine blk_alloc ?_ _)); exact BK365.out) hb)
              have n5_ := Aside0.mk (blk_below (g := gb372) (o := .cells #[.int .u64 t366, .int .u64 t367, .int .u64 t368, .int .u64 t369, .int .i64 t370] 40 (0, 0)) (by (with_reducible repeat (first | refine blk_drewN ?_ _ | refine blk_drew ?_ | refine blk_alloc ?_ _)); exact BK372.out) hb)
              have n6_ := Aside0.mk (below_step (by repeat (first | (with_reducible first | exact HB.out | apply below_alloc | apply pw_below_drewN | apply below_drew1 | refine below_set ?_ GE333.out | refine below_set ?_ GE334.out | refine below_set ?_ GE346.out | refine below_set ?_ GE353.out | refine below_set ?_ GE365.out | refine below_set ?_ GE372.out) | exact HB.out)) hb)
              clear BK333
              clear BK334
              clear BK346
              clear BK353
              clear BK365
              clear BK372
              clear HB
              have BK333 := n0_
              have BK334 := n1_
              have BK346 := n2_
              have BK353 := n3_
              have BK365 := n4_
              have BK372 := n5_
              have HB := n6_
              clear n0_ n1_ n2_ n3_ n4_ n5_ n6_
              (try clear hb)
              (try clear hb2)
              (try clear hk)
              (try clear hi)
              refine hK.out _ _ ⟨(blk_cell BK333.out 0).trans rfl, (blk_cell BK333.out 1).trans rfl, (blk_cell BK333.out 2).trans rfl, (blk_cell BK333.out 3).trans rfl, (blk_cell BK333.out 4).trans rfl, (blk_cell BK346.out 0).trans rfl, (blk_cell BK346.out 1).trans rfl, (blk_cell BK346.out 2).trans rfl, (blk_cell BK346.out 3).trans rfl, (blk_cell BK346.out 4).trans rfl, (blk_cell BK353.out 0).trans rfl, (blk_cell BK353.out 1).trans rfl, (blk_cell BK353.out 2).trans rfl, (blk_cell BK353.out 3).trans rfl, (blk_cell BK353.out 4).trans rfl, (blk_cell BK365.out 0).trans rfl, (blk_cell BK365.out 1).trans rfl, (blk_cell BK365.out 2).trans rfl, (blk_cell BK365.out 3).trans rfl, (blk_cell BK365.out 4).trans rfl, (blk_cell BK372.out 0).trans rfl, (blk_cell BK372.out 1).trans rfl, (blk_cell BK372.out 2).trans rfl, (blk_cell BK372.out 3).trans rfl, (blk_cell BK372.out 4).trans rfl, (blk_cell BK334.out 0).trans rfl, (blk_cell BK334.out 1).trans rfl⟩ (fun hHeld => ?_)
              clear hK K
              refine norm_ (a' := ?_) ?_ ?_
              rotate_left
              · show Act.put _ (some 79) _ = _
                simp only [Act.put, List.setIfInBounds_toArray, List.set_cons_zero, List.set_cons_succ, i64_w, i32_w]
                rfl
              refine one_ (i := 35) (N := some 84) #[true, true, true, true, true, true, true, true, true, true, true, true, true, true, true, true, true, true, true, true, true, true, true, true, true, true, true, true, true, true, true, true, true, true, true, true, true, true, true, true, true, false, false, false, false, false, false, false] rfl rfl (one_of HT_.out (by kernel_rfl)) (by decide) (fun K hK => ?_)
              refine goes_ Try.func30 (by kernel_rfl) rfl #[.agg #[.int .u64 t390, .int .u64 t391, .int .u64 t392, .int .u64 t393, .int .i64 t394], .int .u64 a3, .agg #[.int .u64 a1_0, .int .u64 a1_1], .bool a4, .bool a5] (by rfl) rfl rfl (by (try simp only [List.map_toArray, List.map_cons, List.map_nil]); first | done | rfl | (simp only [List.length_drop, List.length_take]; rfl)) ?_
              with_reducible refine (register_Answer.calls t390 t391 t392 t393 t394 a3 a1_0 a1_1 a4 a5 t395 t396 t397 t398 t399 t400 t401 t402 t403 t406 t409 _ A24.out).mono ?_
              rintro e w83 ⟨v404, v407, v410, rfl, ho0, ho1, ho2, hb⟩
              refine ⟨_, rfl, ?_⟩
              have n0_ := Aside0.mk (Kd.R_lower ho0 (below_size (by repeat (first | (with_reducible first | exact HB.out | apply below_alloc | apply pw_below_drewN | apply below_drew1 | refine below_set ?_ GE333.out | refine below_set ?_ GE334.out | refine below_set ?_ GE346.out | refine below_set ?_ GE353.out | refine below_set ?_ GE365.out | refine below_set ?_ GE372.out) | exact HB.out))))
              have n1_ := Aside0.mk (Kd.R_lower ho1 (below_size (by repeat (first | (with_reducible first | exact HB.out | apply below_alloc | apply pw_below_drewN | apply below_drew1 | refine below_set ?_ GE333.out | refine below_set ?_ GE334.out | refine below_set ?_ GE346.out | refine below_set ?_ GE353.out | refine below_set ?_ GE365.out | refine below_set ?_ GE372.out) | exact HB.out))))
              have n2_ := Aside0.mk (Kd.R_lower ho2 (below_size (by repeat (first | (with_reducible first | exact HB.out | apply below_alloc | apply pw_below_drewN | apply below_drew1 | refine below_set ?_ GE333.out | refine below_set ?_ GE334.out | refine below_set ?_ GE346.out | refine below_set ?_ GE353.out | refine below_set ?_ GE365.out | refine below_set ?_ GE372.out) | exact HB.out))))
              have n3_ := Aside0.mk (blk_below (g := gb333) (o := .cells #[.int .u64 a0_0, .int .u64 a0_1, .int .u64 a0_2, .int .u64 a0_3, .int .i64 a0_4] 40 (0, 0)) (by (with_reducible repeat (first | refine blk_drewN ?_ _ | refine blk_drew ?_ | refine blk_alloc ?_ _)); exact BK333.out) hb)
              have n4_ := Aside0.mk (blk_below (g := gb334) (o := .cells #[.int .u64 a1_0, .int .u64 a1_1] 24 (0, 0)) (by (with_reducible repeat (first | refine blk_drewN ?_ _ | refine blk_drew ?_ | refine blk_alloc ?_ _)); exact BK334.out) hb)
              have n5_ := Aside0.mk (blk_below (g := gb346) (o := .cells #[.int .u64 t340, .int .u64 t341, .int .u64 t342, .int .u64 t343, .int .i64 t344] 42 (0, 0)) (by (with_reducible repeat (first | refine blk_drewN ?_ _ | refine blk_drew ?_ | refine blk_alloc ?_ _)); exact BK346.out) hb)
              have n6_ := Aside0.mk (blk_below (g := gb353) (o := .cells #[.int .u64 t347, .int .u64 t348, .int .u64 t349, .int .u64 t350, .int .i64 t351] 40 (0, 0)) (by (with_reducible repeat (first | refine blk_drewN ?_ _ | refine blk_drew ?_ | refine blk_alloc ?_ _)); exact BK353.out) hb)
              have n7_ := Aside0.mk (blk_below (g := gb365) (o := .cells #[.int .u64 t359, .int .u64 t360, .int .u64 t361, .int .u64 t362, .int .i64 t363] 42 (0, 0)) (by (with_reducible repeat (first | refine blk_drewN ?_ _ | refine blk_drew ?_ | refine blk_alloc ?_ _)); exact BK365.out) hb)
              have n8_ := Aside0.mk (blk_below (g := gb372) (o := .cells #[.int .u64 t366, .int .u64 t367, .int .u64 t368, .int .u64 t369, .int .i64 t370] 40 (0, 0)) (by (with_reducible repeat (first | refine blk_drewN ?_ _ | refine blk_drew ?_ | refine blk_alloc ?_ _)); exact BK372.out) hb)
              have n9_ := Aside0.mk (below_step (by repeat (first | (with_reducible first | exact HB.out | apply below_alloc | apply pw_below_drewN | apply below_drew1 | refine below_set ?_ GE333.out | refine below_set ?_ GE334.out | refine below_set ?_ GE346.out | refine below_set ?_ GE353.out | refine below_set ?_ GE365.out | refine below_set ?_ GE372.out) | exact HB.out)) hb)
              clear BK333
              clear BK334
              clear BK346
              clear BK353
              clear BK365
              clear BK372
              clear HB
              have HO405 := n0_
              have HO408 := n1_
              have HO411 := n2_
              have BK333 := n3_
              have BK334 := n4_
              have BK346 := n5_
              have BK353 := n6_
              have BK365 := n7_
              have BK372 := n8_
              have HB := n9_
              clear n0_ n1_ n2_ n3_ n4_ n5_ n6_ n7_ n8_ n9_
              (try clear hb)
              (try clear hb2)
              (try clear hk)
              (try clear hi)
              (try clear ho0)
              (try clear ho1)
              (try clear ho2)
              refine hK.out _ _ ⟨(blk_cell BK333.out 0).trans rfl, (blk_cell BK333.out 1).trans rfl, (blk_cell BK333.out 2).trans rfl, (blk_cell BK333.out 3).trans rfl, (blk_cell BK333.out 4).trans rfl, (blk_cell BK346.out 0).trans rfl, (blk_cell BK346.out 1).trans rfl, (blk_cell BK346.out 2).trans rfl, (blk_cell BK346.out 3).trans rfl, (blk_cell BK346.out 4).trans rfl, (blk_cell BK353.out 0).trans rfl, (blk_cell BK353.out 1).trans rfl, (blk_cell BK353.out 2).trans rfl, (blk_cell BK353.out 3).trans rfl, (blk_cell BK353.out 4).trans rfl, (blk_cell BK365.out 0).trans rfl, (blk_cell BK365.out 1).trans rfl, (blk_cell BK365.out 2).trans rfl, (blk_cell BK365.out 3).trans rfl, (blk_cell BK365.out 4).trans rfl, (blk_cell BK372.out 0).trans rfl, (blk_cell BK372.out 1).trans rfl, (blk_cell BK372.out 2).trans rfl, (blk_cell BK372.out 3).trans rfl, (blk_cell BK372.out 4).trans rfl, (blk_cell BK334.out 0).trans rfl, (blk_cell BK334.out 1).trans rfl⟩ (fun hHeld => ?_)
              clear hK K
              refine norm_ (a' := ?_) ?_ ?_
              rotate_left
              · show Act.put _ (some 84) _ = _
                simp only [Act.put, List.setIfInBounds_toArray, List.set_cons_zero, List.set_cons_succ, i64_w, i32_w]
                rfl
              refine one_ (i := 41) (N := some 90) #[true, true, true, true, true, true, true, true, true, true, true, true, true, true, true, true, true, true, true, true, true, true, true, true, true, true, true, true, true, true, true, true, true, true, true, true, true, true, true, true, true, true, false, false, false, false, false, false] rfl rfl (one_of HT_.out (by kernel_rfl)) (by decide) (fun K hK => ?_)
              refine goes_ Try.func31 (by kernel_rfl) rfl #[.agg #[.int .u64 a0_0, .int .u64 a0_1, .int .u64 a0_2, .int .u64 a0_3, .int .i64 a0_4], .int .u64 a3, .agg #[.int .u64 a1_0, .int .u64 a1_1], .bool a4, .bool a5] (by rfl) rfl rfl (by (try simp only [List.map_toArray, List.map_cons, List.map_nil]); first | done | rfl | (simp only [List.length_drop, List.length_take]; rfl)) ?_
              with_reducible refine (winnowref12_Answer.calls k a0_0 a0_1 a0_2 a0_3 a0_4 a3 a1_0 a1_1 a4 a5 t412 t413 t414 t415 t416 t417 t418 t419 t420 t423 t426 _ A25.out).mono ?_
              rintro e w84 ⟨v421, v424, v427, rfl, ho0, ho1, ho2, hb⟩
              refine ⟨_, rfl, ?_⟩
              have n0_ := Aside0.mk (Kd.R_elder' (by (with_reducible repeat (first | apply Kd.R_alloc | apply Kd.R_drewN | apply Kd.R_drew)); exact HO405.out) (Kd.R_base ho0) hb)
              have n1_ := Aside0.mk (Kd.R_elder' (by (with_reducible repeat (first | apply Kd.R_alloc | apply Kd.R_drewN | apply Kd.R_drew)); exact HO408.out) (Kd.R_base ho1) hb)
              have n2_ := Aside0.mk (Kd.R_elder' (by (with_reducible repeat (first | apply Kd.R_alloc | apply Kd.R_drewN | apply Kd.R_drew)); exact HO411.out) (Kd.R_base ho2) hb)
              have n3_ := Aside0.mk (Kd.R_lower (Kd.R_new' ho0 (Kd.R_lt (by (with_reducible repeat (first | apply Kd.R_alloc | apply Kd.R_drewN | apply Kd.R_drew)); exact HO405.out))) (below_size (by repeat (first | (with_reducible first | exact HB.out | apply below_alloc | apply pw_below_drewN | apply below_drew1 | refine below_set ?_ GE333.out | refine below_set ?_ GE334.out | refine below_set ?_ GE346.out | refine below_set ?_ GE353.out | refine below_set ?_ GE365.out | refine below_set ?_ GE372.out) | exact HB.out))))
              have n4_ := Aside0.mk (Kd.R_lower (Kd.R_new' ho1 (Kd.R_lt (by (with_reducible repeat (first | apply Kd.R_alloc | apply Kd.R_drewN | apply Kd.R_drew)); exact HO408.out))) (below_size (by repeat (first | (with_reducible first | exact HB.out | apply below_alloc | apply pw_below_drewN | apply below_drew1 | refine below_set ?_ GE333.out | refine below_set ?_ GE334.out | refine below_set ?_ GE346.out | refine below_set ?_ GE353.out | refine below_set ?_ GE365.out | refine below_set ?_ GE372.out) | exact HB.out))))
              have n5_ := Aside0.mk (Kd.R_lower (Kd.R_new' ho2 (Kd.R_lt (by (with_reducible repeat (first | apply Kd.R_alloc | apply Kd.R_drewN | apply Kd.R_drew)); exact HO411.out))) (below_size (by repeat (first | (with_reducible first | exact HB.out | apply below_alloc | apply pw_below_drewN | apply below_drew1 | refine below_set ?_ GE333.out | refine below_set ?_ GE334.out | refine below_set ?_ GE346.out | refine below_set ?_ GE353.out | refine below_set ?_ GE365.out | refine below_set ?_ GE372.out) | exact HB.out))))
              have n6_ := Aside0.mk (blk_below (g := gb333) (o := .cells #[.int .u64 a0_0, .int .u64 a0_1, .int .u64 a0_2, .int .u64 a0_3, .int .i64 a0_4] 40 (0, 0)) (by (with_reducible repeat (first | refine blk_drewN ?_ _ | refine blk_drew ?_ | refine blk_alloc ?_ _)); exact BK333.out) hb)
              have n7_ := Aside0.mk (blk_below (g := gb334) (o := .cells #[.int .u64 a1_0, .int .u64 a1_1] 24 (0, 0)) (by (with_reducible repeat (first | refine blk_drewN ?_ _ | refine blk_drew ?_ | refine blk_alloc ?_ _)); exact BK334.out) hb)
              have n8_ := Aside0.mk (blk_below (g := gb346) (o := .cells #[.int .u64 t340, .int .u64 t341, .int .u64 t342, .int .u64 t343, .int .i64 t344] 42 (0, 0)) (by (with_reducible repeat (first | refine blk_drewN ?_ _ | refine blk_drew ?_ | refine blk_alloc ?_ _)); exact BK346.out) hb)
              have n9_ := Aside0.mk (blk_below (g := gb353) (o := .cells #[.int .u64 t347, .int .u64 t348, .int .u64 t349, .int .u64 t350, .int .i64 t351] 40 (0, 0)) (by (with_reducible repeat (first | refine blk_drewN ?_ _ | refine blk_drew ?_ | refine blk_alloc ?_ _)); exact BK353.out) hb)
              have n10_ := Aside0.mk (blk_below (g := gb365) (o := .cells #[.int .u64 t359, .int .u64 t360, .int .u64 t361, .int .u64 t362, .int .i64 t363] 42 (0, 0)) (by (with_reducible repeat (first | refine blk_drewN ?_ _ | refine blk_drew ?_ | refine blk_alloc ?_ _)); exact BK365.out) hb)
              have n11_ := Aside0.mk (blk_below (g := gb372) (o := .cells #[.int .u64 t366, .int .u64 t367, .int .u64 t368, .int .u64 t369, .int .i64 t370] 40 (0, 0)) (by (with_reducible repeat (first | refine blk_drewN ?_ _ | refine blk_drew ?_ | refine blk_alloc ?_ _)); exact BK372.out) hb)
              have n12_ := Aside0.mk (below_step (by repeat (first | (with_reducible first | exact HB.out | apply below_alloc | apply pw_below_drewN | apply below_drew1 | refine below_set ?_ GE333.out | refine below_set ?_ GE334.out | refine below_set ?_ GE346.out | refine below_set ?_ GE353.out | refine below_set ?_ GE365.out | refine below_set ?_ GE372.out) | exact HB.out)) hb)
              clear HO405
              clear HO408
              clear HO411
              clear BK333
              clear BK334
              clear BK346
              clear BK353
              clear BK365
              clear BK372
              clear HB
              have HO405 := n0_
              have HO408 := n1_
              have HO411 := n2_
              have HO422 := n3_
              have HO425 := n4_
              have HO428 := n5_
              have BK333 := n6_
              have BK334 := n7_
              have BK346 := n8_
              have BK353 := n9_
              have BK365 := n10_
              have BK372 := n11_
              have HB := n12_
              clear n0_ n1_ n2_ n3_ n4_ n5_ n6_ n7_ n8_ n9_ n10_ n11_ n12_
              (try clear hb)
              (try clear hb2)
              (try clear hk)
              (try clear hi)
              (try clear ho0)
              (try clear ho1)
              (try clear ho2)
              obtain ⟨Ao85, co85, eo85⟩ := Kd.R_slice HO405.out
              (first | subst eo85 | (injection eo85 with f1_ f2_ f3_; have f4_ := f1_.symm; have f5_ := f3_.symm; clear f1_ f2_ f3_; subst f4_; subst f5_))
              obtain ⟨Ao86, co86, eo86⟩ := Kd.R_slice HO408.out
              (first | subst eo86 | (injection eo86 with f1_ f2_ f3_; have f4_ := f1_.symm; have f5_ := f3_.symm; clear f1_ f2_ f3_; subst f4_; subst f5_))
              obtain ⟨Ao87, co87, eo87⟩ := Kd.R_slice HO411.out
              (first | subst eo87 | (injection eo87 with f1_ f2_ f3_; have f4_ := f1_.symm; have f5_ := f3_.symm; clear f1_ f2_ f3_; subst f4_; subst f5_))
              obtain ⟨Ao88, co88, eo88⟩ := Kd.R_slice HO422.out
              (first | subst eo88 | (injection eo88 with f1_ f2_ f3_; have f4_ := f1_.symm; have f5_ := f3_.symm; clear f1_ f2_ f3_; subst f4_; subst f5_))
              obtain ⟨Ao89, co89, eo89⟩ := Kd.R_slice HO425.out
              (first | subst eo89 | (injection eo89 with f1_ f2_ f3_; have f4_ := f1_.symm; have f5_ := f3_.symm; clear f1_ f2_ f3_; subst f4_; subst f5_))
              obtain ⟨Ao90, co90, eo90⟩ := Kd.R_slice HO428.out
              (first | subst eo90 | (injection eo90 with f1_ f2_ f3_; have f4_ := f1_.symm; have f5_ := f3_.symm; clear f1_ f2_ f3_; subst f4_; subst f5_))
              refine hK.out _ _ ⟨(blk_cell BK333.out 0).trans rfl, (blk_cell BK333.out 1).trans rfl, (blk_cell BK333.out 2).trans rfl, (blk_cell BK333.out 3).trans rfl, (blk_cell BK333.out 4).trans rfl, (blk_cell BK346.out 0).trans rfl, (blk_cell BK346.out 1).trans rfl, (blk_cell BK346.out 2).trans rfl, (blk_cell BK346.out 3).trans rfl, (blk_cell BK346.out 4).trans rfl, (blk_cell BK353.out 0).trans rfl, (blk_cell BK353.out 1).trans rfl, (blk_cell BK353.out 2).trans rfl, (blk_cell BK353.out 3).trans rfl, (blk_cell BK353.out 4).trans rfl, (blk_cell BK365.out 0).trans rfl, (blk_cell BK365.out 1).trans rfl, (blk_cell BK365.out 2).trans rfl, (blk_cell BK365.out 3).trans rfl, (blk_cell BK365.out 4).trans rfl, (blk_cell BK372.out 0).trans rfl, (blk_cell BK372.out 1).trans rfl, (blk_cell BK372.out 2).trans rfl, (blk_cell BK372.out 3).trans rfl, (blk_cell BK372.out 4).trans rfl, (blk_cell BK334.out 0).trans rfl, (blk_cell BK334.out 1).trans rfl⟩ (fun hHeld => ?_)
              clear hK K
              refine norm_ (a' := ?_) ?_ ?_
              rotate_left
              · show Act.put _ (some 90) _ = _
                simp only [Act.put, List.setIfInBounds_toArray, List.set_cons_zero, List.set_cons_succ, i64_w, i32_w]
                rfl
              refine one_ (i := 42) (N := some 91) #[true, true, true, true, true, true, true, true, true, true, true, true, true, true, true, true, true, true, true, true, true, true, true, true, true, true, true, true, true, true, true, true, true, true, true, true, true, true, true, true, true, true, true, false, false, false, false, false] rfl rfl (one_of HT_.out (by kernel_rfl)) (by decide) (fun K hK => ?_)
              refine goes_ Try.func29 (by kernel_rfl) rfl #[.agg #[.int .i64 t395, .int .u64 t396, .int .u64 t397, .int .u64 t398, .int .u64 t399, .int .u64 t400, .int .i64 t401, .bool t402, .slice Ao85 t403.length co85, .slice Ao86 t406.length co86, .slice Ao87 t409.length co87], .agg #[.int .i64 t412, .int .u64 t413, .int .u64 t414, .int .u64 t415, .int .u64 t416, .int .u64 t417, .int .i64 t418, .bool t419, .slice Ao88 t420.length co88, .slice Ao89 t423.length co89, .slice Ao90 t426.length co90]] (by rfl) rfl rfl (by (try simp only [List.map_toArray, List.map_cons, List.map_nil]); first | done | rfl | (simp only [List.length_drop, List.length_take]; rfl)) ?_
              with_reducible refine (winnowref05_Same.calls k t395 t396 t397 t398 t399 t400 t401 t402 _ _ t403 _ _ t406 _ _ t409 t412 t413 t414 t415 t416 t417 t418 t419 _ _ t420 _ _ t423 _ _ t426 true _ ?side1 ?side2 ?side3 ?side4 ?side5 ?side6 ?side7 ?side8 ?side9 ?side10 ?side11 ?side12 A26.out).mono ?_
              (case side1 => repeat (first | exact (Kd.R_reads' HO405.out).2.2 | (with_reducible refine Kd.C_alloc ?_ _) | (with_reducible refine Kd.C_drewN ?_ _) | (with_reducible refine Kd.C_drew ?_)))
              (case side2 => exact (Kd.R_reads' HO405.out).2.1)
              (case side3 => repeat (first | exact (Kd.R_reads' HO408.out).2.2 | (with_reducible refine Kd.C_alloc ?_ _) | (with_reducible refine Kd.C_drewN ?_ _) | (with_reducible refine Kd.C_drew ?_)))
              (case side4 => exact (Kd.R_reads' HO408.out).2.1)
              (case side5 => repeat (first | exact (Kd.R_reads' HO411.out).2.2 | (with_reducible refine Kd.C_alloc ?_ _) | (with_reducible refine Kd.C_drewN ?_ _) | (with_reducible refine Kd.C_drew ?_)))
              (case side6 => exact (Kd.R_reads' HO411.out).2.1)
              (case side7 => repeat (first | exact (Kd.R_reads' HO422.out).2.2 | (with_reducible refine Kd.C_alloc ?_ _) | (with_reducible refine Kd.C_drewN ?_ _) | (with_reducible refine Kd.C_drew ?_)))
              (case side8 => exact (Kd.R_reads' HO422.out).2.1)
              (case side9 => repeat (first | exact (Kd.R_reads' HO425.out).2.2 | (with_reducible refine Kd.C_alloc ?_ _) | (with_reducible refine Kd.C_drewN ?_ _) | (with_reducible refine Kd.C_drew ?_)))
              (case side10 => exact (Kd.R_reads' HO425.out).2.1)
              (case side11 => repeat (first | exact (Kd.R_reads' HO428.out).2.2 | (with_reducible refine Kd.C_alloc ?_ _) | (with_reducible refine Kd.C_drewN ?_ _) | (with_reducible refine Kd.C_drew ?_)))
              (case side12 => exact (Kd.R_reads' HO428.out).2.1)
              rintro e w91 ⟨rfl, hb⟩
              refine ⟨_, rfl, ?_⟩
              have n0_ := Aside0.mk (Kd.R_below (by (with_reducible repeat (first | apply Kd.R_alloc | apply Kd.R_drewN | apply Kd.R_drew)); exact HO405.out) hb)
              have n1_ := Aside0.mk (Kd.R_below (by (with_reducible repeat (first | apply Kd.R_alloc | apply Kd.R_drewN | apply Kd.R_drew)); exact HO408.out) hb)
              have n2_ := Aside0.mk (Kd.R_below (by (with_reducible repeat (first | apply Kd.R_alloc | apply Kd.R_drewN | apply Kd.R_drew)); exact HO411.out) hb)
              have n3_ := Aside0.mk (Kd.R_below (by (with_reducible repeat (first | apply Kd.R_alloc | apply Kd.R_drewN | apply Kd.R_drew)); exact HO422.out) hb)
              have n4_ := Aside0.mk (Kd.R_below (by (with_reducible repeat (first | apply Kd.R_alloc | apply Kd.R_drewN | apply Kd.R_drew)); exact HO425.out) hb)
              have n5_ := Aside0.mk (Kd.R_below (by (with_reducible repeat (first | apply Kd.R_alloc | apply Kd.R_drewN | apply Kd.R_drew)); exact HO428.out) hb)
              have n6_ := Aside0.mk (blk_below (g := gb333) (o := .cells #[.int .u64 a0_0, .int .u64 a0_1, .int .u64 a0_2, .int .u64 a0_3, .int .i64 a0_4] 40 (0, 0)) (by (with_reducible repeat (first | refine blk_drewN ?_ _ | refine blk_drew ?_ | refine blk_alloc ?_ _)); exact BK333.out) hb)
              have n7_ := Aside0.mk (blk_below (g := gb334) (o := .cells #[.int .u64 a1_0, .int .u64 a1_1] 24 (0, 0)) (by (with_reducible repeat (first | refine blk_drewN ?_ _ | refine blk_drew ?_ | refine blk_alloc ?_ _)); exact BK334.out) hb)
              have n8_ := Aside0.mk (blk_below (g := gb346) (o := .cells #[.int .u64 t340, .int .u64 t341, .int .u64 t342, .int .u64 t343, .int .i64 t344] 42 (0, 0)) (by (with_reducible repeat (first | refine blk_drewN ?_ _ | refine blk_drew ?_ | refine blk_alloc ?_ _)); exact BK346.out) hb)
              have n9_ := Aside0.mk (blk_below (g := gb353) (o := .cells #[.int .u64 t347, .int .u64 t348, .int .u64 t349, .int .u64 t350, .int .i64 t351] 40 (0, 0)) (by (with_reducible repeat (first | refine blk_drewN ?_ _ | refine blk_drew ?_ | refine blk_alloc ?_ _)); exact BK353.out) hb)
              have n10_ := Aside0.mk (blk_below (g := gb365) (o := .cells #[.int .u64 t359, .int .u64 t360, .int .u64 t361, .int .u64 t362, .int .i64 t363] 42 (0, 0)) (by (with_reducible repeat (first | refine blk_drewN ?_ _ | refine blk_drew ?_ | refine blk_alloc ?_ _)); exact BK365.out) hb)
              have n11_ := Aside0.mk (blk_below (g := gb372) (o := .cells #[.int .u64 t366, .int .u64 t367, .int .u64 t368, .int .u64 t369, .int .i64 t370] 40 (0, 0)) (by (with_reducible repeat (first | refine blk_drewN ?_ _ | refine blk_drew ?_ | refine blk_alloc ?_ _)); exact BK372.out) hb)
              have n12_ := Aside0.mk (below_step (by repeat (first | (with_reducible first | exact HB.out | apply below_alloc | apply pw_below_drewN | apply below_drew1 | refine below_set ?_ GE333.out | refine below_set ?_ GE334.out | refine below_set ?_ GE346.out | refine below_set ?_ GE353.out | refine below_set ?_ GE365.out | refine below_set ?_ GE372.out) | exact HB.out)) hb)
              clear HO405
              clear HO408
              clear HO411
              clear HO422
              clear HO425
              clear HO428
              clear BK333
              clear BK334
              clear BK346
              clear BK353
              clear BK365
              clear BK372
              clear HB
              have HO405 := n0_
              have HO408 := n1_
              have HO411 := n2_
              have HO422 := n3_
              have HO425 := n4_
              have HO428 := n5_
              have BK333 := n6_
              have BK334 := n7_
              have BK346 := n8_
              have BK353 := n9_
              have BK365 := n10_
              have BK372 := n11_
              have HB := n12_
              clear n0_ n1_ n2_ n3_ n4_ n5_ n6_ n7_ n8_ n9_ n10_ n11_ n12_
              (try clear hb)
              (try clear hb2)
              (try clear hk)
              (try clear hi)
              refine hK.out _ _ ⟨(blk_cell BK333.out 0).trans rfl, (blk_cell BK333.out 1).trans rfl, (blk_cell BK333.out 2).trans rfl, (blk_cell BK333.out 3).trans rfl, (blk_cell BK333.out 4).trans rfl, (blk_cell BK346.out 0).trans rfl, (blk_cell BK346.out 1).trans rfl, (blk_cell BK346.out 2).trans rfl, (blk_cell BK346.out 3).trans rfl, (blk_cell BK346.out 4).trans rfl, (blk_cell BK353.out 0).trans rfl, (blk_cell BK353.out 1).trans rfl, (blk_cell BK353.out 2).trans rfl, (blk_cell BK353.out 3).trans rfl, (blk_cell BK353.out 4).trans rfl, (blk_cell BK365.out 0).trans rfl, (blk_cell BK365.out 1).trans rfl, (blk_cell BK365.out 2).trans rfl, (blk_cell BK365.out 3).trans rfl, (blk_cell BK365.out 4).trans rfl, (blk_cell BK372.out 0).trans rfl, (blk_cell BK372.out 1).trans rfl, (blk_cell BK372.out 2).trans rfl, (blk_cell BK372.out 3).trans rfl, (blk_cell BK372.out 4).trans rfl, (blk_cell BK334.out 0).trans rfl, (blk_cell BK334.out 1).trans rfl⟩ (fun hHeld => ?_)
              clear hK K
              refine norm_ (a' := ?_) ?_ ?_
              rotate_left
              · show Act.put _ (some 91) _ = _
                simp only [Act.put, List.setIfInBounds_toArray, List.set_cons_zero, List.set_cons_succ, i64_w, i32_w]
                rfl
              refine pure_ (i := 43) (N := some 92) (v := ?_) (a' := ?_) #[true, true, true, true, true, true, true, true, true, true, true, true, true, true, true, true, true, true, true, true, true, true, true, true, true, true, true, true, true, true, true, true, true, true, true, true, true, true, true, true, true, true, true, true, false, false, false, false] rfl rfl (any_of HT_.out (by kernel_rfl)) (fun _ _ _ h => h) (Or.inl ⟨by rfl, ?_⟩) ?_ ?_
              rotate_left
              · intro w'
                go_simp
                with_reducible rfl
              rotate_left
              · simp only [Act.put, List.setIfInBounds_toArray, List.set_cons_zero, List.set_cons_succ, i64_w, i32_w]
                rfl
              refine pure_ (i := 44) (N := some 93) (v := ?_) (a' := ?_) #[true, true, true, true, true, true, true, true, true, true, true, true, true, true, true, true, true, true, true, true, true, true, true, true, true, true, true, true, true, true, true, true, true, true, true, true, true, true, true, true, true, true, true, true, true, false, false, false] rfl rfl (any_of HT_.out (by kernel_rfl)) (fun _ _ _ h => h) (Or.inl ⟨by rfl, ?_⟩) ?_ ?_
              rotate_left
              · intro w'
                go_simp
                with_reducible rfl
              rotate_left
              · simp only [Act.put, List.setIfInBounds_toArray, List.set_cons_zero, List.set_cons_succ, i64_w, i32_w]
                rfl
              refine one_ (i := 45) (N := some 94) #[true, true, true, true, true, true, true, true, true, true, true, true, true, true, true, true, true, true, true, true, true, true, true, true, true, true, true, true, true, true, true, true, true, true, true, true, true, true, true, true, true, true, true, true, true, true, false, false] rfl rfl (one_of HT_.out (by kernel_rfl)) (by decide) (fun K hK => ?_)
              refine goes_ Try.func21 (by kernel_rfl) rfl #[] (by rfl) rfl rfl (by (try simp only [List.map_toArray, List.map_cons, List.map_nil]); first | done | rfl | (simp only [List.length_drop, List.length_take]; rfl)) ?_
              with_reducible refine (winnowlaw12_alive.calls k  t430 _ A28.out).mono ?_
              rintro e w92 ⟨rfl, hb⟩
              refine ⟨_, rfl, ?_⟩
              have n0_ := Aside0.mk (Kd.R_below (by (with_reducible repeat (first | apply Kd.R_alloc | apply Kd.R_drewN | apply Kd.R_drew)); exact HO405.out) hb)
              have n1_ := Aside0.mk (Kd.R_below (by (with_reducible repeat (first | apply Kd.R_alloc | apply Kd.R_drewN | apply Kd.R_drew)); exact HO408.out) hb)
              have n2_ := Aside0.mk (Kd.R_below (by (with_reducible repeat (first | apply Kd.R_alloc | apply Kd.R_drewN | apply Kd.R_drew)); exact HO411.out) hb)
              have n3_ := Aside0.mk (Kd.R_below (by (with_reducible repeat (first | apply Kd.R_alloc | apply Kd.R_drewN | apply Kd.R_drew)); exact HO422.out) hb)
              have n4_ := Aside0.mk (Kd.R_below (by (with_reducible repeat (first | apply Kd.R_alloc | apply Kd.R_drewN | apply Kd.R_drew)); exact HO425.out) hb)
              have n5_ := Aside0.mk (Kd.R_below (by (with_reducible repeat (first | apply Kd.R_alloc | apply Kd.R_drewN | apply Kd.R_drew)); exact HO428.out) hb)
              have n6_ := Aside0.mk (blk_below (g := gb333) (o := .cells #[.int .u64 a0_0, .int .u64 a0_1, .int .u64 a0_2, .int .u64 a0_3, .int .i64 a0_4] 40 (0, 0)) (by (with_reducible repeat (first | refine blk_drewN ?_ _ | refine blk_drew ?_ | refine blk_alloc ?_ _)); exact BK333.out) hb)
              have n7_ := Aside0.mk (blk_below (g := gb334) (o := .cells #[.int .u64 a1_0, .int .u64 a1_1] 24 (0, 0)) (by (with_reducible repeat (first | refine blk_drewN ?_ _ | refine blk_drew ?_ | refine blk_alloc ?_ _)); exact BK334.out) hb)
              have n8_ := Aside0.mk (blk_below (g := gb346) (o := .cells #[.int .u64 t340, .int .u64 t341, .int .u64 t342, .int .u64 t343, .int .i64 t344] 42 (0, 0)) (by (with_reducible repeat (first | refine blk_drewN ?_ _ | refine blk_drew ?_ | refine blk_alloc ?_ _)); exact BK346.out) hb)
              have n9_ := Aside0.mk (blk_below (g := gb353) (o := .cells #[.int .u64 t347, .int .u64 t348, .int .u64 t349, .int .u64 t350, .int .i64 t351] 40 (0, 0)) (by (with_reducible repeat (first | refine blk_drewN ?_ _ | refine blk_drew ?_ | refine blk_alloc ?_ _)); exact BK353.out) hb)
              have n10_ := Aside0.mk (blk_below (g := gb365) (o := .cells #[.int .u64 t359, .int .u64 t360, .int .u64 t361, .int .u64 t362, .int .i64 t363] 42 (0, 0)) (by (with_reducible repeat (first | refine blk_drewN ?_ _ | refine blk_drew ?_ | refine blk_alloc ?_ _)); exact BK365.out) hb)
              have n11_ := Aside0.mk (blk_below (g := gb372) (o := .cells #[.int .u64 t366, .int .u64 t367, .int .u64 t368, .int .u64 t369, .int .i64 t370] 40 (0, 0)) (by (with_reducible repeat (first | refine blk_drewN ?_ _ | refine blk_drew ?_ | refine blk_alloc ?_ _)); exact BK372.out) hb)
              have n12_ := Aside0.mk (below_step (by repeat (first | (with_reducible first | exact HB.out | apply below_alloc | apply pw_below_drewN | apply below_drew1 | refine below_set ?_ GE333.out | refine below_set ?_ GE334.out | refine below_set ?_ GE346.out | refine below_set ?_ GE353.out | refine below_set ?_ GE365.out | refine below_set ?_ GE372.out) | exact HB.out)) hb)
              clear HO405
              clear HO408
              clear HO411
              clear HO422
              clear HO425
              clear HO428
              clear BK333
              clear BK334
              clear BK346
              clear BK353
              clear BK365
              clear BK372
              clear HB
              have HO405 := n0_
              have HO408 := n1_
              have HO411 := n2_
              have HO422 := n3_
              have HO425 := n4_
              have HO428 := n5_
              have BK333 := n6_
              have BK334 := n7_
              have BK346 := n8_
              have BK353 := n9_
              have BK365 := n10_
              have BK372 := n11_
              have HB := n12_
              clear n0_ n1_ n2_ n3_ n4_ n5_ n6_ n7_ n8_ n9_ n10_ n11_ n12_
              (try clear hb)
              (try clear hb2)
              (try clear hk)
              (try clear hi)
              refine hK.out _ _ ⟨(blk_cell BK333.out 0).trans rfl, (blk_cell BK333.out 1).trans rfl, (blk_cell BK333.out 2).trans rfl, (blk_cell BK333.out 3).trans rfl, (blk_cell BK333.out 4).trans rfl, (blk_cell BK346.out 0).trans rfl, (blk_cell BK346.out 1).trans rfl, (blk_cell BK346.out 2).trans rfl, (blk_cell BK346.out 3).trans rfl, (blk_cell BK346.out 4).trans rfl, (blk_cell BK353.out 0).trans rfl, (blk_cell BK353.out 1).trans rfl, (blk_cell BK353.out 2).trans rfl, (blk_cell BK353.out 3).trans rfl, (blk_cell BK353.out 4).trans rfl, (blk_cell BK365.out 0).trans rfl, (blk_cell BK365.out 1).trans rfl, (blk_cell BK365.out 2).trans rfl, (blk_cell BK365.out 3).trans rfl, (blk_cell BK365.out 4).trans rfl, (blk_cell BK372.out 0).trans rfl, (blk_cell BK372.out 1).trans rfl, (blk_cell BK372.out 2).trans rfl, (blk_cell BK372.out 3).trans rfl, (blk_cell BK372.out 4).trans rfl, (blk_cell BK334.out 0).trans rfl, (blk_cell BK334.out 1).trans rfl⟩ (fun hHeld => ?_)
              clear hK K
              refine norm_ (a' := ?_) ?_ ?_
              rotate_left
              · show Act.put _ (some 94) _ = _
                simp only [Act.put, List.setIfInBounds_toArray, List.set_cons_zero, List.set_cons_succ, i64_w, i32_w]
                rfl
              refine pure_ (i := 46) (N := some 95) (v := ?_) (a' := ?_) #[true, true, true, true, true, true, true, true, true, true, true, true, true, true, true, true, true, true, true, true, true, true, true, true, true, true, true, true, true, true, true, true, true, true, true, true, true, true, true, true, true, true, true, true, true, true, true, false] rfl rfl (any_of HT_.out (by kernel_rfl)) (fun _ _ _ h => h) (Or.inl ⟨by rfl, ?_⟩) ?_ ?_
              rotate_left
              · intro w'
                go_simp
                with_reducible rfl
              rotate_left
              · simp only [Act.put, List.setIfInBounds_toArray, List.set_cons_zero, List.set_cons_succ, i64_w, i32_w]
                rfl
              refine pure_ (i := 47) (N := some 12) (v := ?_) (a' := ?_) #[true, true, true, true, true, true, true, true, true, true, true, true, true, true, true, true, true, true, true, true, true, true, true, true, true, true, true, true, true, true, true, true, true, true, true, true, true, true, true, true, true, true, true, true, true, true, true, true] rfl rfl (any_of HT_.out (by kernel_rfl)) (fun _ _ _ h => h) (Or.inl ⟨by rfl, ?_⟩) ?_ ?_
              rotate_left
              · intro w'
                go_simp
                with_reducible rfl
              rotate_left
              · simp only [Act.put, List.setIfInBounds_toArray, List.set_cons_zero, List.set_cons_succ, i64_w, i32_w]
                rfl
              refine done_ (done_of HT_.out (by kernel_rfl)) ?_
              try go_wp2
              go_ret
              exact ⟨by first | rfl | (simp [errW_none, errW_some] <;> rfl) | (simp [*, errW_none, errW_some] <;> rfl), by repeat (first | (with_reducible first | exact HB.out | apply below_alloc | apply pw_below_drewN | apply below_drew1 | refine below_set ?_ GE333.out | refine below_set ?_ GE334.out | refine below_set ?_ GE346.out | refine below_set ?_ GE353.out | refine below_set ?_ GE365.out | refine below_set ?_ GE372.out) | exact HB.out)⟩
            · replace c27 := Bool.eq_false_iff.mpr c27
              subst c27
              have H1 : (some false) = some r := by rw [if_neg (show ¬ (false = true) by decide)] at H; exact H
              clear H
              have H := H1
              clear H1
              exact absurd ((Option.some.inj H).trans HRT_.out) (by decide)
          · rw [if_neg c22] at H
            have c22b0 : (t364 == t371) = false := by simpa using c22
            (try (have c22b1 : decide (t364 = t371) = false := by simpa using c22))
            (try (have c22b2 : (t364 == t371) = false := by simpa using c22))
            (try (have c22b3 : ¬ (t364 = t371) := by simpa using c22))
            clear c22
            exact absurd ((Option.some.inj H).trans HRT_.out) (by decide)
        · rw [if_neg c21] at H
          have c21b0 : ((t385 == t366 && (t386 == t367)) && ((t387 == t368 && (t388 == t369)) && (t389 == t370))) = false := by simpa using c21
          clear c21
          exact absurd ((Option.some.inj H).trans HRT_.out) (by decide)
      · rw [if_neg c19] at H
        have c19b0 : (t345 == t352) = false := by simpa using c19
        (try (have c19b1 : decide (t345 = t352) = false := by simpa using c19))
        (try (have c19b2 : (t345 == t352) = false := by simpa using c19))
        (try (have c19b3 : ¬ (t345 = t352) := by simpa using c19))
        clear c19
        exact absurd ((Option.some.inj H).trans HRT_.out) (by decide)
    · rw [if_neg c18] at H
      have c18b0 : ((t380 == t347 && (t381 == t348)) && ((t382 == t349 && (t383 == t350)) && (t384 == t351))) = false := by simpa using c18
      clear c18
      exact absurd ((Option.some.inj H).trans HRT_.out) (by decide)
  · rw [if_neg c16] at H
    have c16b0 : (t378 == t379) = false := by simpa using c16
    (try (have c16b1 : decide (t378 = t379) = false := by simpa using c16))
    (try (have c16b2 : (t378 == t379) = false := by simpa using c16))
    (try (have c16b3 : ¬ (t378 = t379) := by simpa using c16))
    clear c16
    exact absurd ((Option.some.inj H).trans HRT_.out) (by decide)

end Go.Proofs.Ytjnhmdmcmmffeaa.PAll
