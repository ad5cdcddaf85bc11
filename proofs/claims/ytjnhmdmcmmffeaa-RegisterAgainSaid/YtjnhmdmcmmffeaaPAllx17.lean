-- Laid by the kit's print.py, called for several functions at once (our call).
import Derived.Test.YtjnhmdmcmmffeaaPAllx0
import Derived.Test.YtjnhmdmcmmffeaaPAllx3
import Derived.Test.YtjnhmdmcmmffeaaPAllx9
import Derived.Test.YtjnhmdmcmmffeaaPAllx15
import Derived.Test.YtjnhmdmcmmffeaaPAllx16
namespace Go.Proofs.Ytjnhmdmcmmffeaa.PAll
open Go.RowKit Go.Proofs.YtjnhmdmcmmffeaaW.PrintWords Go.Proofs.YtjnhmdmcmmffeaaW.PrintLast Go.Proofs.YtjnhmdmcmmffeaaW.PrintMore
attribute [local go_sem] max2_int min2_int max_two min_two max_three min_three max_four min_four   -- for this text's walks alone
set_option linter.unusedVariables false
set_option linter.unusedSimpArgs false

attribute [local go_sem high] eqA42
/-! ### winnowlaw12_RegisterAgain: function 9 -/
mutual
def winnowlaw12_RegisterAgain.j0 : Nat → Int → Bool → Bool → Int → Int → Int → Int → Int → Int → Int → Int → Int → Option (Bool)
  | 0, _, _, _, _, _, _, _, _, _, _, _, _ => none
  | k + 1, x3, x10, x70, x248000, x248001, x249000, x249001, x261000, x261001, x261002, x261003, x261004 => if x70 = true then (some false) else (if x10 = true then ((winnowref11_Less.f x249000 x249001 x248000 x248001).bind fun t287 => (winnowlaw12_RegisterAgain.j1 k x3 (!t287) x249000 x249001 x261000 x261001 x261002 x261003 x261004)) else (winnowlaw12_RegisterAgain.j1 k x3 true x249000 x249001 x261000 x261001 x261002 x261003 x261004))
def winnowlaw12_RegisterAgain.j1 : Nat → Int → Bool → Int → Int → Int → Int → Int → Int → Int → Option (Bool)
  | 0, _, _, _, _, _, _, _, _, _ => none
  | k + 1, x3, x78, x249000, x249001, x261000, x261001, x261002, x261003, x261004 => if x78 = true then ((winnowlaw12_alive.f k).bind fun t288 => (some t288)) else ((register_Prepare.f k x261000 x261001 x261002 x261003 x261004 x249000 x249001).bind fun bt289 => ((register_Accept.f k x261000 x261001 x261002 x261003 x261004 x249000 x249001 x3).bind fun bt296 => (if bt289.2.2.2.2.2 = true then (some false) else (if bt296.2.2.2.2.2 = true then (some false) else ((winnowlaw12_alive.f k).bind fun t303 => (some t303))))))
end
def winnowlaw12_RegisterAgain.f (k : Nat) (a0_0 : Int) (a0_1 : Int) (a0_2 : Int) (a0_3 : Int) (a0_4 : Int) (a1_0 : Int) (a1_1 : Int) (a2_0 : Int) (a2_1 : Int) (a3 : Int) : Option (Bool) := (winnowlaw12_own.f a0_0 a0_1 a0_2 a0_3 a0_4).bind fun bt249 => ((register_Prepare.f k bt249.1 bt249.2.1 bt249.2.2.1 bt249.2.2.2.1 bt249.2.2.2.2 a1_0 a1_1).bind fun bt254 => ((register_Prepare.f k bt254.1 bt254.2.1 bt254.2.2.1 bt254.2.2.2.1 bt254.2.2.2.2.1 a1_0 a1_1).bind fun bt261 => ((winnowlaw12_own.f a0_0 a0_1 a0_2 a0_3 a0_4).bind fun bt268 => ((register_Accept.f k bt268.1 bt268.2.1 bt268.2.2.1 bt268.2.2.2.1 bt268.2.2.2.2 a1_0 a1_1 a3).bind fun bt273 => ((register_Accept.f k bt273.1 bt273.2.1 bt273.2.2.1 bt273.2.2.2.1 bt273.2.2.2.2.1 a1_0 a1_1 a3).bind fun bt280 => (if bt254.2.2.2.2.2 = true then (if bt261.2.2.2.2.2 = true then (if ((!(bt261.1 == bt254.1) || (!(bt261.2.1 == bt254.2.1))) || ((!(bt261.2.2.1 == bt254.2.2.1) || (!(bt261.2.2.2.1 == bt254.2.2.2.1))) || (!(bt261.2.2.2.2.1 == bt254.2.2.2.2.1)))) = true then (winnowlaw12_RegisterAgain.j0 k a3 bt254.2.2.2.2.2 true a1_0 a1_1 a2_0 a2_1 bt254.1 bt254.2.1 bt254.2.2.1 bt254.2.2.2.1 bt254.2.2.2.2.1) else (if bt273.2.2.2.2.2 = true then (if bt280.2.2.2.2.2 = true then (winnowlaw12_RegisterAgain.j0 k a3 bt254.2.2.2.2.2 ((!(bt280.1 == bt273.1) || (!(bt280.2.1 == bt273.2.1))) || ((!(bt280.2.2.1 == bt273.2.2.1) || (!(bt280.2.2.2.1 == bt273.2.2.2.1))) || (!(bt280.2.2.2.2.1 == bt273.2.2.2.2.1)))) a1_0 a1_1 a2_0 a2_1 bt254.1 bt254.2.1 bt254.2.2.1 bt254.2.2.2.1 bt254.2.2.2.2.1) else (winnowlaw12_RegisterAgain.j0 k a3 bt254.2.2.2.2.2 true a1_0 a1_1 a2_0 a2_1 bt254.1 bt254.2.1 bt254.2.2.1 bt254.2.2.2.1 bt254.2.2.2.2.1)) else (winnowlaw12_RegisterAgain.j0 k a3 bt254.2.2.2.2.2 false a1_0 a1_1 a2_0 a2_1 bt254.1 bt254.2.1 bt254.2.2.1 bt254.2.2.2.1 bt254.2.2.2.2.1))) else (winnowlaw12_RegisterAgain.j0 k a3 bt254.2.2.2.2.2 true a1_0 a1_1 a2_0 a2_1 bt254.1 bt254.2.1 bt254.2.2.1 bt254.2.2.2.1 bt254.2.2.2.2.1)) else (if bt273.2.2.2.2.2 = true then (if bt280.2.2.2.2.2 = true then (winnowlaw12_RegisterAgain.j0 k a3 bt254.2.2.2.2.2 ((!(bt280.1 == bt273.1) || (!(bt280.2.1 == bt273.2.1))) || ((!(bt280.2.2.1 == bt273.2.2.1) || (!(bt280.2.2.2.1 == bt273.2.2.2.1))) || (!(bt280.2.2.2.2.1 == bt273.2.2.2.2.1)))) a1_0 a1_1 a2_0 a2_1 bt254.1 bt254.2.1 bt254.2.2.1 bt254.2.2.2.1 bt254.2.2.2.2.1) else (winnowlaw12_RegisterAgain.j0 k a3 bt254.2.2.2.2.2 true a1_0 a1_1 a2_0 a2_1 bt254.1 bt254.2.1 bt254.2.2.1 bt254.2.2.2.1 bt254.2.2.2.2.1)) else (winnowlaw12_RegisterAgain.j0 k a3 bt254.2.2.2.2.2 false a1_0 a1_1 a2_0 a2_1 bt254.1 bt254.2.1 bt254.2.2.1 bt254.2.2.2.1 bt254.2.2.2.2.1))))))))
theorem winnowlaw12_RegisterAgain.mono_l : ∀ k, (∀ y0 y1 y2 y3 y4 y5 y6 y7 y8 y9 y10 y11, LeO (winnowlaw12_RegisterAgain.j0 k y0 y1 y2 y3 y4 y5 y6 y7 y8 y9 y10 y11) (winnowlaw12_RegisterAgain.j0 (k + 1) y0 y1 y2 y3 y4 y5 y6 y7 y8 y9 y10 y11)) ∧ (∀ y0 y1 y2 y3 y4 y5 y6 y7 y8, LeO (winnowlaw12_RegisterAgain.j1 k y0 y1 y2 y3 y4 y5 y6 y7 y8) (winnowlaw12_RegisterAgain.j1 (k + 1) y0 y1 y2 y3 y4 y5 y6 y7 y8))
  | 0 => ⟨fun _ _ _ _ _ _ _ _ _ _ _ _ r h => by simp [winnowlaw12_RegisterAgain.j0] at h, fun _ _ _ _ _ _ _ _ _ r h => by simp [winnowlaw12_RegisterAgain.j1] at h⟩
  | k + 1 => by
    obtain ⟨ih0, ih1⟩ := winnowlaw12_RegisterAgain.mono_l k
    refine ⟨?_, ?_⟩
    · intro y0 y1 y2 y3 y4 y5 y6 y7 y8 y9 y10 y11
      unfold winnowlaw12_RegisterAgain.j0
      repeat' first
      | (with_reducible exact ih0 _ _ _ _ _ _ _ _ _ _ _ _)
      | (with_reducible exact ih1 _ _ _ _ _ _ _ _ _)
      | (with_reducible exact register_Accept.mono _ _ _ _ _ _ _ _ _)
      | (with_reducible exact register_Prepare.mono _ _ _ _ _ _ _ _)
      | (with_reducible exact winnowlaw12_alive.mono _)
      | (with_reducible exact LeO.refl _)
      | (with_reducible exact LeO.none _)
      | (with_reducible refine LeO.ite ?_ ?_)
      | (with_reducible refine LeO.bind ?_ (fun _ => ?_))
      | exact ih0 _ _ _ _ _ _ _ _ _ _ _ _
      | exact ih1 _ _ _ _ _ _ _ _ _
      | exact register_Accept.mono _ _ _ _ _ _ _ _ _
      | exact register_Prepare.mono _ _ _ _ _ _ _ _
      | exact winnowlaw12_alive.mono _
      | exact LeO.none _
      | refine LeO.ite ?_ ?_
      | refine LeO.bind ?_ (fun _ => ?_)
    · intro y0 y1 y2 y3 y4 y5 y6 y7 y8
      unfold winnowlaw12_RegisterAgain.j1
      repeat' first
      | (with_reducible exact ih0 _ _ _ _ _ _ _ _ _ _ _ _)
      | (with_reducible exact ih1 _ _ _ _ _ _ _ _ _)
      | (with_reducible exact register_Accept.mono _ _ _ _ _ _ _ _ _)
      | (with_reducible exact register_Prepare.mono _ _ _ _ _ _ _ _)
      | (with_reducible exact winnowlaw12_alive.mono _)
      | (with_reducible exact LeO.refl _)
      | (with_reducible exact LeO.none _)
      | (with_reducible refine LeO.ite ?_ ?_)
      | (with_reducible refine LeO.bind ?_ (fun _ => ?_))
      | exact ih0 _ _ _ _ _ _ _ _ _ _ _ _
      | exact ih1 _ _ _ _ _ _ _ _ _
      | exact register_Accept.mono _ _ _ _ _ _ _ _ _
      | exact register_Prepare.mono _ _ _ _ _ _ _ _
      | exact winnowlaw12_alive.mono _
      | exact LeO.none _
      | refine LeO.ite ?_ ?_
      | refine LeO.bind ?_ (fun _ => ?_)
theorem winnowlaw12_RegisterAgain.mono : ∀ a0 a1 a2 a3 a4 a5 a6 a7 a8 a9 k, LeO (winnowlaw12_RegisterAgain.f k a0 a1 a2 a3 a4 a5 a6 a7 a8 a9) (winnowlaw12_RegisterAgain.f (k + 1) a0 a1 a2 a3 a4 a5 a6 a7 a8 a9) := by
  intro a0 a1 a2 a3 a4 a5 a6 a7 a8 a9 k
  obtain ⟨ih0, ih1⟩ := winnowlaw12_RegisterAgain.mono_l k
  unfold winnowlaw12_RegisterAgain.f
  repeat' first
      | (with_reducible exact ih0 _ _ _ _ _ _ _ _ _ _ _ _)
      | (with_reducible exact ih1 _ _ _ _ _ _ _ _ _)
      | (with_reducible exact register_Accept.mono _ _ _ _ _ _ _ _ _)
      | (with_reducible exact register_Prepare.mono _ _ _ _ _ _ _ _)
      | (with_reducible exact winnowlaw12_alive.mono _)
      | (with_reducible exact LeO.refl _)
      | (with_reducible exact LeO.none _)
      | (with_reducible refine LeO.ite ?_ ?_)
      | (with_reducible refine LeO.bind ?_ (fun _ => ?_))
      | exact ih0 _ _ _ _ _ _ _ _ _ _ _ _
      | exact ih1 _ _ _ _ _ _ _ _ _
      | exact register_Accept.mono _ _ _ _ _ _ _ _ _
      | exact register_Prepare.mono _ _ _ _ _ _ _ _
      | exact winnowlaw12_alive.mono _
      | exact LeO.none _
      | refine LeO.ite ?_ ?_
      | refine LeO.bind ?_ (fun _ => ?_)
def winnowlaw12_RegisterAgain.T1 : Bool × List (List Nat × List Nat) := (true, [([], []), ([0], [0]), ([], []), ([1, 2, 1], [1, 2]), ([3], [3]), ([4], [4]), ([4], [4]), ([], []), ([7, 5, 3, 0, 1, 2, 3, 4, 5, 7], [5, 7]), ([6, 8, 0, 1, 2, 3, 4, 5, 6, 7, 8], [6])])
def winnowlaw12_RegisterAgain.B1 : List Nat := [0, 1, 0, 7, 15, 31, 31, 0, 191, 511]
theorem winnowlaw12_RegisterAgain.tab1 : rtab .any (opsOf Try.f9 1) = winnowlaw12_RegisterAgain.T1 := by kernel_rfl
theorem winnowlaw12_RegisterAgain.bits1 : waitsOk winnowlaw12_RegisterAgain.T1.2 winnowlaw12_RegisterAgain.B1 = true := by kernel_rfl
def winnowlaw12_RegisterAgain.T3 : Bool × List (List Nat × List Nat) := (true, [([], []), ([0], [0]), ([], []), ([], []), ([1, 2, 3, 1], [1, 2, 3]), ([4], [4]), ([5], [5]), ([5], [5]), ([], []), ([8, 6, 4, 0, 1, 2, 3, 4, 5, 6, 8], [6, 8]), ([7, 9, 0, 1, 2, 3, 4, 5, 6, 7, 8, 9], [7])])
def winnowlaw12_RegisterAgain.B3 : List Nat := [0, 1, 0, 0, 15, 31, 63, 63, 0, 383, 1023]
theorem winnowlaw12_RegisterAgain.tab3 : rtab .any (opsOf Try.f9 3) = winnowlaw12_RegisterAgain.T3 := by kernel_rfl
theorem winnowlaw12_RegisterAgain.bits3 : waitsOk winnowlaw12_RegisterAgain.T3.2 winnowlaw12_RegisterAgain.B3 = true := by kernel_rfl
set_option maxHeartbeats 8000000 in
set_option maxRecDepth 100000 in
theorem winnowlaw12_RegisterAgain.calls (k : Nat) (a0_0 : Int) (a0_1 : Int) (a0_2 : Int) (a0_3 : Int) (a0_4 : Int) (a1_0 : Int) (a1_1 : Int) (a2_0 : Int) (a2_1 : Int) (a3 : Int) (r : Bool) (w : World) (hrt_ : r = true) (h : winnowlaw12_RegisterAgain.f k a0_0 a0_1 a0_2 a0_3 a0_4 a1_0 a1_1 a2_0 a2_1 a3 = some r) :
    Calls Try.prog 9 #[.agg #[.int .u64 a0_0, .int .u64 a0_1, .int .u64 a0_2, .int .u64 a0_3, .int .i64 a0_4], .agg #[.int .u64 a1_0, .int .u64 a1_1], .agg #[.int .u64 a2_0, .int .u64 a2_1], .int .i64 a3] w fun e w' => e = .returned (.bool r) ∧ Below w.heap.size w w' := by
  have HRT_ := Aside0.mk hrt_
  clear hrt_
  have hu40 := Try.underlying40
  have hu24 := Try.underlying24
  have hu42 := Try.underlying42
  have HB := Aside0.mk (Below.refl w.heap.size w)
  have H : ((winnowlaw12_own.f a0_0 a0_1 a0_2 a0_3 a0_4).bind fun bt249 => ((register_Prepare.f k bt249.1 bt249.2.1 bt249.2.2.1 bt249.2.2.2.1 bt249.2.2.2.2 a1_0 a1_1).bind fun bt254 => ((register_Prepare.f k bt254.1 bt254.2.1 bt254.2.2.1 bt254.2.2.2.1 bt254.2.2.2.2.1 a1_0 a1_1).bind fun bt261 => ((winnowlaw12_own.f a0_0 a0_1 a0_2 a0_3 a0_4).bind fun bt268 => ((register_Accept.f k bt268.1 bt268.2.1 bt268.2.2.1 bt268.2.2.2.1 bt268.2.2.2.2 a1_0 a1_1 a3).bind fun bt273 => ((register_Accept.f k bt273.1 bt273.2.1 bt273.2.2.1 bt273.2.2.2.1 bt273.2.2.2.2.1 a1_0 a1_1 a3).bind fun bt280 => (if bt254.2.2.2.2.2 = true then (if bt261.2.2.2.2.2 = true then (if ((!(bt261.1 == bt254.1) || (!(bt261.2.1 == bt254.2.1))) || ((!(bt261.2.2.1 == bt254.2.2.1) || (!(bt261.2.2.2.1 == bt254.2.2.2.1))) || (!(bt261.2.2.2.2.1 == bt254.2.2.2.2.1)))) = true then (winnowlaw12_RegisterAgain.j0 k a3 bt254.2.2.2.2.2 true a1_0 a1_1 a2_0 a2_1 bt254.1 bt254.2.1 bt254.2.2.1 bt254.2.2.2.1 bt254.2.2.2.2.1) else (if bt273.2.2.2.2.2 = true then (if bt280.2.2.2.2.2 = true then (winnowlaw12_RegisterAgain.j0 k a3 bt254.2.2.2.2.2 ((!(bt280.1 == bt273.1) || (!(bt280.2.1 == bt273.2.1))) || ((!(bt280.2.2.1 == bt273.2.2.1) || (!(bt280.2.2.2.1 == bt273.2.2.2.1))) || (!(bt280.2.2.2.2.1 == bt273.2.2.2.2.1)))) a1_0 a1_1 a2_0 a2_1 bt254.1 bt254.2.1 bt254.2.2.1 bt254.2.2.2.1 bt254.2.2.2.2.1) else (winnowlaw12_RegisterAgain.j0 k a3 bt254.2.2.2.2.2 true a1_0 a1_1 a2_0 a2_1 bt254.1 bt254.2.1 bt254.2.2.1 bt254.2.2.2.1 bt254.2.2.2.2.1)) else (winnowlaw12_RegisterAgain.j0 k a3 bt254.2.2.2.2.2 false a1_0 a1_1 a2_0 a2_1 bt254.1 bt254.2.1 bt254.2.2.1 bt254.2.2.2.1 bt254.2.2.2.2.1))) else (winnowlaw12_RegisterAgain.j0 k a3 bt254.2.2.2.2.2 true a1_0 a1_1 a2_0 a2_1 bt254.1 bt254.2.1 bt254.2.2.1 bt254.2.2.2.1 bt254.2.2.2.2.1)) else (if bt273.2.2.2.2.2 = true then (if bt280.2.2.2.2.2 = true then (winnowlaw12_RegisterAgain.j0 k a3 bt254.2.2.2.2.2 ((!(bt280.1 == bt273.1) || (!(bt280.2.1 == bt273.2.1))) || ((!(bt280.2.2.1 == bt273.2.2.1) || (!(bt280.2.2.2.1 == bt273.2.2.2.1))) || (!(bt280.2.2.2.2.1 == bt273.2.2.2.2.1)))) a1_0 a1_1 a2_0 a2_1 bt254.1 bt254.2.1 bt254.2.2.1 bt254.2.2.2.1 bt254.2.2.2.2.1) else (winnowlaw12_RegisterAgain.j0 k a3 bt254.2.2.2.2.2 true a1_0 a1_1 a2_0 a2_1 bt254.1 bt254.2.1 bt254.2.2.1 bt254.2.2.2.1 bt254.2.2.2.2.1)) else (winnowlaw12_RegisterAgain.j0 k a3 bt254.2.2.2.2.2 false a1_0 a1_1 a2_0 a2_1 bt254.1 bt254.2.1 bt254.2.2.1 bt254.2.2.2.1 bt254.2.2.2.2.1))))))))) = some r := h
  clear h
  replace H := Option.bind_eq_some_iff.mp H
  obtain ⟨⟨t249, t250, t251, t252, t253⟩, A50, H⟩ := H
  replace H : ((register_Prepare.f k t249 t250 t251 t252 t253 a1_0 a1_1).bind fun bt254 => ((register_Prepare.f k bt254.1 bt254.2.1 bt254.2.2.1 bt254.2.2.2.1 bt254.2.2.2.2.1 a1_0 a1_1).bind fun bt261 => ((winnowlaw12_own.f a0_0 a0_1 a0_2 a0_3 a0_4).bind fun bt268 => ((register_Accept.f k bt268.1 bt268.2.1 bt268.2.2.1 bt268.2.2.2.1 bt268.2.2.2.2 a1_0 a1_1 a3).bind fun bt273 => ((register_Accept.f k bt273.1 bt273.2.1 bt273.2.2.1 bt273.2.2.2.1 bt273.2.2.2.2.1 a1_0 a1_1 a3).bind fun bt280 => (if bt254.2.2.2.2.2 = true then (if bt261.2.2.2.2.2 = true then (if ((!(bt261.1 == bt254.1) || (!(bt261.2.1 == bt254.2.1))) || ((!(bt261.2.2.1 == bt254.2.2.1) || (!(bt261.2.2.2.1 == bt254.2.2.2.1))) || (!(bt261.2.2.2.2.1 == bt254.2.2.2.2.1)))) = true then (winnowlaw12_RegisterAgain.j0 k a3 bt254.2.2.2.2.2 true a1_0 a1_1 a2_0 a2_1 bt254.1 bt254.2.1 bt254.2.2.1 bt254.2.2.2.1 bt254.2.2.2.2.1) else (if bt273.2.2.2.2.2 = true then (if bt280.2.2.2.2.2 = true then (winnowlaw12_RegisterAgain.j0 k a3 bt254.2.2.2.2.2 ((!(bt280.1 == bt273.1) || (!(bt280.2.1 == bt273.2.1))) || ((!(bt280.2.2.1 == bt273.2.2.1) || (!(bt280.2.2.2.1 == bt273.2.2.2.1))) || (!(bt280.2.2.2.2.1 == bt273.2.2.2.2.1)))) a1_0 a1_1 a2_0 a2_1 bt254.1 bt254.2.1 bt254.2.2.1 bt254.2.2.2.1 bt254.2.2.2.2.1) else (winnowlaw12_RegisterAgain.j0 k a3 bt254.2.2.2.2.2 true a1_0 a1_1 a2_0 a2_1 bt254.1 bt254.2.1 bt254.2.2.1 bt254.2.2.2.1 bt254.2.2.2.2.1)) else (winnowlaw12_RegisterAgain.j0 k a3 bt254.2.2.2.2.2 false a1_0 a1_1 a2_0 a2_1 bt254.1 bt254.2.1 bt254.2.2.1 bt254.2.2.2.1 bt254.2.2.2.2.1))) else (winnowlaw12_RegisterAgain.j0 k a3 bt254.2.2.2.2.2 true a1_0 a1_1 a2_0 a2_1 bt254.1 bt254.2.1 bt254.2.2.1 bt254.2.2.2.1 bt254.2.2.2.2.1)) else (if bt273.2.2.2.2.2 = true then (if bt280.2.2.2.2.2 = true then (winnowlaw12_RegisterAgain.j0 k a3 bt254.2.2.2.2.2 ((!(bt280.1 == bt273.1) || (!(bt280.2.1 == bt273.2.1))) || ((!(bt280.2.2.1 == bt273.2.2.1) || (!(bt280.2.2.2.1 == bt273.2.2.2.1))) || (!(bt280.2.2.2.2.1 == bt273.2.2.2.2.1)))) a1_0 a1_1 a2_0 a2_1 bt254.1 bt254.2.1 bt254.2.2.1 bt254.2.2.2.1 bt254.2.2.2.2.1) else (winnowlaw12_RegisterAgain.j0 k a3 bt254.2.2.2.2.2 true a1_0 a1_1 a2_0 a2_1 bt254.1 bt254.2.1 bt254.2.2.1 bt254.2.2.2.1 bt254.2.2.2.2.1)) else (winnowlaw12_RegisterAgain.j0 k a3 bt254.2.2.2.2.2 false a1_0 a1_1 a2_0 a2_1 bt254.1 bt254.2.1 bt254.2.2.1 bt254.2.2.2.1 bt254.2.2.2.2.1)))))))) = some r := H
  have A5 := Aside0.mk A50
  clear A50
  replace H := Option.bind_eq_some_iff.mp H
  obtain ⟨⟨t254, t255, t256, t257, t258, t259⟩, A60, H⟩ := H
  replace H : ((register_Prepare.f k t254 t255 t256 t257 t258 a1_0 a1_1).bind fun bt261 => ((winnowlaw12_own.f a0_0 a0_1 a0_2 a0_3 a0_4).bind fun bt268 => ((register_Accept.f k bt268.1 bt268.2.1 bt268.2.2.1 bt268.2.2.2.1 bt268.2.2.2.2 a1_0 a1_1 a3).bind fun bt273 => ((register_Accept.f k bt273.1 bt273.2.1 bt273.2.2.1 bt273.2.2.2.1 bt273.2.2.2.2.1 a1_0 a1_1 a3).bind fun bt280 => (if t259 = true then (if bt261.2.2.2.2.2 = true then (if ((!(bt261.1 == t254) || (!(bt261.2.1 == t255))) || ((!(bt261.2.2.1 == t256) || (!(bt261.2.2.2.1 == t257))) || (!(bt261.2.2.2.2.1 == t258)))) = true then (winnowlaw12_RegisterAgain.j0 k a3 t259 true a1_0 a1_1 a2_0 a2_1 t254 t255 t256 t257 t258) else (if bt273.2.2.2.2.2 = true then (if bt280.2.2.2.2.2 = true then (winnowlaw12_RegisterAgain.j0 k a3 t259 ((!(bt280.1 == bt273.1) || (!(bt280.2.1 == bt273.2.1))) || ((!(bt280.2.2.1 == bt273.2.2.1) || (!(bt280.2.2.2.1 == bt273.2.2.2.1))) || (!(bt280.2.2.2.2.1 == bt273.2.2.2.2.1)))) a1_0 a1_1 a2_0 a2_1 t254 t255 t256 t257 t258) else (winnowlaw12_RegisterAgain.j0 k a3 t259 true a1_0 a1_1 a2_0 a2_1 t254 t255 t256 t257 t258)) else (winnowlaw12_RegisterAgain.j0 k a3 t259 false a1_0 a1_1 a2_0 a2_1 t254 t255 t256 t257 t258))) else (winnowlaw12_RegisterAgain.j0 k a3 t259 true a1_0 a1_1 a2_0 a2_1 t254 t255 t256 t257 t258)) else (if bt273.2.2.2.2.2 = true then (if bt280.2.2.2.2.2 = true then (winnowlaw12_RegisterAgain.j0 k a3 t259 ((!(bt280.1 == bt273.1) || (!(bt280.2.1 == bt273.2.1))) || ((!(bt280.2.2.1 == bt273.2.2.1) || (!(bt280.2.2.2.1 == bt273.2.2.2.1))) || (!(bt280.2.2.2.2.1 == bt273.2.2.2.2.1)))) a1_0 a1_1 a2_0 a2_1 t254 t255 t256 t257 t258) else (winnowlaw12_RegisterAgain.j0 k a3 t259 true a1_0 a1_1 a2_0 a2_1 t254 t255 t256 t257 t258)) else (winnowlaw12_RegisterAgain.j0 k a3 t259 false a1_0 a1_1 a2_0 a2_1 t254 t255 t256 t257 t258))))))) = some r := H
  have A6 := Aside0.mk A60
  clear A60
  replace H := Option.bind_eq_some_iff.mp H
  obtain ⟨⟨t261, t262, t263, t264, t265, t266⟩, A70, H⟩ := H
  replace H : ((winnowlaw12_own.f a0_0 a0_1 a0_2 a0_3 a0_4).bind fun bt268 => ((register_Accept.f k bt268.1 bt268.2.1 bt268.2.2.1 bt268.2.2.2.1 bt268.2.2.2.2 a1_0 a1_1 a3).bind fun bt273 => ((register_Accept.f k bt273.1 bt273.2.1 bt273.2.2.1 bt273.2.2.2.1 bt273.2.2.2.2.1 a1_0 a1_1 a3).bind fun bt280 => (if t259 = true then (if t266 = true then (if ((!(t261 == t254) || (!(t262 == t255))) || ((!(t263 == t256) || (!(t264 == t257))) || (!(t265 == t258)))) = true then (winnowlaw12_RegisterAgain.j0 k a3 t259 true a1_0 a1_1 a2_0 a2_1 t254 t255 t256 t257 t258) else (if bt273.2.2.2.2.2 = true then (if bt280.2.2.2.2.2 = true then (winnowlaw12_RegisterAgain.j0 k a3 t259 ((!(bt280.1 == bt273.1) || (!(bt280.2.1 == bt273.2.1))) || ((!(bt280.2.2.1 == bt273.2.2.1) || (!(bt280.2.2.2.1 == bt273.2.2.2.1))) || (!(bt280.2.2.2.2.1 == bt273.2.2.2.2.1)))) a1_0 a1_1 a2_0 a2_1 t254 t255 t256 t257 t258) else (winnowlaw12_RegisterAgain.j0 k a3 t259 true a1_0 a1_1 a2_0 a2_1 t254 t255 t256 t257 t258)) else (winnowlaw12_RegisterAgain.j0 k a3 t259 false a1_0 a1_1 a2_0 a2_1 t254 t255 t256 t257 t258))) else (winnowlaw12_RegisterAgain.j0 k a3 t259 true a1_0 a1_1 a2_0 a2_1 t254 t255 t256 t257 t258)) else (if bt273.2.2.2.2.2 = true then (if bt280.2.2.2.2.2 = true then (winnowlaw12_RegisterAgain.j0 k a3 t259 ((!(bt280.1 == bt273.1) || (!(bt280.2.1 == bt273.2.1))) || ((!(bt280.2.2.1 == bt273.2.2.1) || (!(bt280.2.2.2.1 == bt273.2.2.2.1))) || (!(bt280.2.2.2.2.1 == bt273.2.2.2.2.1)))) a1_0 a1_1 a2_0 a2_1 t254 t255 t256 t257 t258) else (winnowlaw12_RegisterAgain.j0 k a3 t259 true a1_0 a1_1 a2_0 a2_1 t254 t255 t256 t257 t258)) else (winnowlaw12_RegisterAgain.j0 k a3 t259 false a1_0 a1_1 a2_0 a2_1 t254 t255 t256 t257 t258)))))) = some r := H
  have A7 := Aside0.mk A70
  clear A70
  replace H := Option.bind_eq_some_iff.mp H
  obtain ⟨⟨t268, t269, t270, t271, t272⟩, A80, H⟩ := H
  replace H : ((register_Accept.f k t268 t269 t270 t271 t272 a1_0 a1_1 a3).bind fun bt273 => ((register_Accept.f k bt273.1 bt273.2.1 bt273.2.2.1 bt273.2.2.2.1 bt273.2.2.2.2.1 a1_0 a1_1 a3).bind fun bt280 => (if t259 = true then (if t266 = true then (if ((!(t261 == t254) || (!(t262 == t255))) || ((!(t263 == t256) || (!(t264 == t257))) || (!(t265 == t258)))) = true then (winnowlaw12_RegisterAgain.j0 k a3 t259 true a1_0 a1_1 a2_0 a2_1 t254 t255 t256 t257 t258) else (if bt273.2.2.2.2.2 = true then (if bt280.2.2.2.2.2 = true then (winnowlaw12_RegisterAgain.j0 k a3 t259 ((!(bt280.1 == bt273.1) || (!(bt280.2.1 == bt273.2.1))) || ((!(bt280.2.2.1 == bt273.2.2.1) || (!(bt280.2.2.2.1 == bt273.2.2.2.1))) || (!(bt280.2.2.2.2.1 == bt273.2.2.2.2.1)))) a1_0 a1_1 a2_0 a2_1 t254 t255 t256 t257 t258) else (winnowlaw12_RegisterAgain.j0 k a3 t259 true a1_0 a1_1 a2_0 a2_1 t254 t255 t256 t257 t258)) else (winnowlaw12_RegisterAgain.j0 k a3 t259 false a1_0 a1_1 a2_0 a2_1 t254 t255 t256 t257 t258))) else (winnowlaw12_RegisterAgain.j0 k a3 t259 true a1_0 a1_1 a2_0 a2_1 t254 t255 t256 t257 t258)) else (if bt273.2.2.2.2.2 = true then (if bt280.2.2.2.2.2 = true then (winnowlaw12_RegisterAgain.j0 k a3 t259 ((!(bt280.1 == bt273.1) || (!(bt280.2.1 == bt273.2.1))) || ((!(bt280.2.2.1 == bt273.2.2.1) || (!(bt280.2.2.2.1 == bt273.2.2.2.1))) || (!(bt280.2.2.2.2.1 == bt273.2.2.2.2.1)))) a1_0 a1_1 a2_0 a2_1 t254 t255 t256 t257 t258) else (winnowlaw12_RegisterAgain.j0 k a3 t259 true a1_0 a1_1 a2_0 a2_1 t254 t255 t256 t257 t258)) else (winnowlaw12_RegisterAgain.j0 k a3 t259 false a1_0 a1_1 a2_0 a2_1 t254 t255 t256 t257 t258))))) = some r := H
  have A8 := Aside0.mk A80
  clear A80
  replace H := Option.bind_eq_some_iff.mp H
  obtain ⟨⟨t273, t274, t275, t276, t277, t278⟩, A90, H⟩ := H
  replace H : ((register_Accept.f k t273 t274 t275 t276 t277 a1_0 a1_1 a3).bind fun bt280 => (if t259 = true then (if t266 = true then (if ((!(t261 == t254) || (!(t262 == t255))) || ((!(t263 == t256) || (!(t264 == t257))) || (!(t265 == t258)))) = true then (winnowlaw12_RegisterAgain.j0 k a3 t259 true a1_0 a1_1 a2_0 a2_1 t254 t255 t256 t257 t258) else (if t278 = true then (if bt280.2.2.2.2.2 = true then (winnowlaw12_RegisterAgain.j0 k a3 t259 ((!(bt280.1 == t273) || (!(bt280.2.1 == t274))) || ((!(bt280.2.2.1 == t275) || (!(bt280.2.2.2.1 == t276))) || (!(bt280.2.2.2.2.1 == t277)))) a1_0 a1_1 a2_0 a2_1 t254 t255 t256 t257 t258) else (winnowlaw12_RegisterAgain.j0 k a3 t259 true a1_0 a1_1 a2_0 a2_1 t254 t255 t256 t257 t258)) else (winnowlaw12_RegisterAgain.j0 k a3 t259 false a1_0 a1_1 a2_0 a2_1 t254 t255 t256 t257 t258))) else (winnowlaw12_RegisterAgain.j0 k a3 t259 true a1_0 a1_1 a2_0 a2_1 t254 t255 t256 t257 t258)) else (if t278 = true then (if bt280.2.2.2.2.2 = true then (winnowlaw12_RegisterAgain.j0 k a3 t259 ((!(bt280.1 == t273) || (!(bt280.2.1 == t274))) || ((!(bt280.2.2.1 == t275) || (!(bt280.2.2.2.1 == t276))) || (!(bt280.2.2.2.2.1 == t277)))) a1_0 a1_1 a2_0 a2_1 t254 t255 t256 t257 t258) else (winnowlaw12_RegisterAgain.j0 k a3 t259 true a1_0 a1_1 a2_0 a2_1 t254 t255 t256 t257 t258)) else (winnowlaw12_RegisterAgain.j0 k a3 t259 false a1_0 a1_1 a2_0 a2_1 t254 t255 t256 t257 t258)))) = some r := H
  have A9 := Aside0.mk A90
  clear A90
  replace H := Option.bind_eq_some_iff.mp H
  obtain ⟨⟨t280, t281, t282, t283, t284, t285⟩, A100, H⟩ := H
  replace H : (if t259 = true then (if t266 = true then (if ((!(t261 == t254) || (!(t262 == t255))) || ((!(t263 == t256) || (!(t264 == t257))) || (!(t265 == t258)))) = true then (winnowlaw12_RegisterAgain.j0 k a3 t259 true a1_0 a1_1 a2_0 a2_1 t254 t255 t256 t257 t258) else (if t278 = true then (if t285 = true then (winnowlaw12_RegisterAgain.j0 k a3 t259 ((!(t280 == t273) || (!(t281 == t274))) || ((!(t282 == t275) || (!(t283 == t276))) || (!(t284 == t277)))) a1_0 a1_1 a2_0 a2_1 t254 t255 t256 t257 t258) else (winnowlaw12_RegisterAgain.j0 k a3 t259 true a1_0 a1_1 a2_0 a2_1 t254 t255 t256 t257 t258)) else (winnowlaw12_RegisterAgain.j0 k a3 t259 false a1_0 a1_1 a2_0 a2_1 t254 t255 t256 t257 t258))) else (winnowlaw12_RegisterAgain.j0 k a3 t259 true a1_0 a1_1 a2_0 a2_1 t254 t255 t256 t257 t258)) else (if t278 = true then (if t285 = true then (winnowlaw12_RegisterAgain.j0 k a3 t259 ((!(t280 == t273) || (!(t281 == t274))) || ((!(t282 == t275) || (!(t283 == t276))) || (!(t284 == t277)))) a1_0 a1_1 a2_0 a2_1 t254 t255 t256 t257 t258) else (winnowlaw12_RegisterAgain.j0 k a3 t259 true a1_0 a1_1 a2_0 a2_1 t254 t255 t256 t257 t258)) else (winnowlaw12_RegisterAgain.j0 k a3 t259 false a1_0 a1_1 a2_0 a2_1 t254 t255 t256 t257 t258))) = some r := H
  have A10 := Aside0.mk A100
  clear A100
  have HC11 := Aside0.mk H
  clear H
  go_enter Try.func9, Try.ntmps9
  try go_wp2_with (first | ((with_reducible refine gate_dst (N := 4) rfl ?_); refine box_event ?hg (N := 4) ?hd (cs := #[.int .u64 a0_0, .int .u64 a0_1, .int .u64 a0_2, .int .u64 a0_3, .int .i64 a0_4]) (t := 40) ?hr ?_; (case hd => rfl); (case hg => rfl); (case hr => first | (go_simp; done) | (go_simp; rfl)); intro gb246 hg w12 hbox hb; have n0_ := Aside0.mk (below_step (by repeat (first | (with_reducible first | exact HB.out | apply below_alloc | apply pw_below_drewN | apply below_drew1) | exact HB.out)) hb); have n1_ := Aside0.mk (hbox); have n2_ := Aside0.mk ((by rw [hg]; exact (below_size (by repeat (first | (with_reducible first | exact HB.out | apply below_alloc | apply pw_below_drewN | apply below_drew1) | exact HB.out))) : w.heap.size ≤ gb246)); have n3_ := Aside0.mk ((by rw [hg]; exact (below_size (by repeat (first | (with_reducible first | exact HB.out | apply below_alloc | apply pw_below_drewN | apply below_drew1) | exact HB.out))) : w.heap.size ≤ gb246)); clear HB; have HB := n0_; have BK246 := n1_; have GW246 := n2_; have GE246 := n3_; clear n0_ n1_ n2_ n3_; clear hb hbox hg) | ((with_reducible refine gate_dst (N := 5) rfl ?_); refine box_event ?hg (N := 5) ?hd (cs := #[.int .u64 a1_0, .int .u64 a1_1]) (t := 24) ?hr ?_; (case hd => rfl); (case hg => rfl); (case hr => first | (go_simp; done) | (go_simp; rfl)); intro gb247 hg w13 hbox hb; have n0_ := Aside0.mk (blk_below (g := gb246) (o := .cells #[.int .u64 a0_0, .int .u64 a0_1, .int .u64 a0_2, .int .u64 a0_3, .int .i64 a0_4] 40 (0, 0)) (by (with_reducible repeat (first | refine blk_drewN ?_ _ | refine blk_drew ?_ | refine blk_alloc ?_ _)); exact BK246.out) hb); have n1_ := Aside0.mk (below_step (by repeat (first | (with_reducible first | exact HB.out | apply below_alloc | apply pw_below_drewN | apply below_drew1 | refine below_set ?_ GE246.out) | exact HB.out)) hb); have n2_ := Aside0.mk (hbox); have n3_ := Aside0.mk ((by rw [hg]; exact (below_size (by repeat (first | (with_reducible first | exact HB.out | apply below_alloc | apply pw_below_drewN | apply below_drew1 | refine below_set ?_ GE246.out) | exact HB.out))) : w.heap.size ≤ gb247)); have n4_ := Aside0.mk ((by rw [hg]; exact (below_size (by repeat (first | (with_reducible first | exact HB.out | apply below_alloc | apply pw_below_drewN | apply below_drew1 | refine below_set ?_ GE246.out) | exact HB.out))) : w.heap.size ≤ gb247)); have n5_ := Aside0.mk ((by rw [hg]; exact Nat.ne_of_lt (blk_lt (g := gb246) (o := .cells #[.int .u64 a0_0, .int .u64 a0_1, .int .u64 a0_2, .int .u64 a0_3, .int .i64 a0_4] 40 (0, 0)) (by (with_reducible repeat (first | refine blk_drewN ?_ _ | refine blk_drew ?_ | refine blk_alloc ?_ _)); exact BK246.out)) : gb246 ≠ gb247)); have n6_ := Aside0.mk ((by rw [hg]; exact Nat.ne_of_gt (blk_lt (g := gb246) (o := .cells #[.int .u64 a0_0, .int .u64 a0_1, .int .u64 a0_2, .int .u64 a0_3, .int .i64 a0_4] 40 (0, 0)) (by (with_reducible repeat (first | refine blk_drewN ?_ _ | refine blk_drew ?_ | refine blk_alloc ?_ _)); exact BK246.out)) : gb247 ≠ gb246)); clear BK246; clear HB; have BK246 := n0_; have HB := n1_; have BK247 := n2_; have GW247 := n3_; have GE247 := n4_; have NB246_247 := n5_; have NB247_246 := n6_; clear n0_ n1_ n2_ n3_ n4_ n5_ n6_; clear hb hbox hg) | ((with_reducible refine gate_dst (N := 6) rfl ?_); refine box_event ?hg (N := 6) ?hd (cs := #[.int .u64 a2_0, .int .u64 a2_1]) (t := 24) ?hr ?_; (case hd => rfl); (case hg => rfl); (case hr => first | (go_simp; done) | (go_simp; rfl)); intro gb248 hg w14 hbox hb; have n0_ := Aside0.mk (blk_below (g := gb246) (o := .cells #[.int .u64 a0_0, .int .u64 a0_1, .int .u64 a0_2, .int .u64 a0_3, .int .i64 a0_4] 40 (0, 0)) (by (with_reducible repeat (first | refine blk_drewN ?_ _ | refine blk_drew ?_ | refine blk_alloc ?_ _)); exact BK246.out) hb); have n1_ := Aside0.mk (blk_below (g := gb247) (o := .cells #[.int .u64 a1_0, .int .u64 a1_1] 24 (0, 0)) (by (with_reducible repeat (first | refine blk_drewN ?_ _ | refine blk_drew ?_ | refine blk_alloc ?_ _)); exact BK247.out) hb); have n2_ := Aside0.mk (below_step (by repeat (first | (with_reducible first | exact HB.out | apply below_alloc | apply pw_below_drewN | apply below_drew1 | refine below_set ?_ GE246.out | refine below_set ?_ GE247.out) | exact HB.out)) hb); have n3_ := Aside0.mk (hbox); have n4_ := Aside0.mk ((by rw [hg]; exact (below_size (by repeat (first | (with_reducible first | exact HB.out | apply below_alloc | apply pw_below_drewN | apply below_drew1 | refine below_set ?_ GE246.out | refine below_set ?_ GE247.out) | exact HB.out))) : w.heap.size ≤ gb248)); have n5_ := Aside0.mk ((by rw [hg]; exact (below_size (by repeat (first | (with_reducible first | exact HB.out | apply below_alloc | apply pw_below_drewN | apply below_drew1 | refine below_set ?_ GE246.out | refine below_set ?_ GE247.out) | exact HB.out))) : w.heap.size ≤ gb248)); have n6_ := Aside0.mk ((by rw [hg]; exact Nat.ne_of_lt (blk_lt (g := gb246) (o := .cells #[.int .u64 a0_0, .int .u64 a0_1, .int .u64 a0_2, .int .u64 a0_3, .int .i64 a0_4] 40 (0, 0)) (by (with_reducible repeat (first | refine blk_drewN ?_ _ | refine blk_drew ?_ | refine blk_alloc ?_ _)); exact BK246.out)) : gb246 ≠ gb248)); have n7_ := Aside0.mk ((by rw [hg]; exact Nat.ne_of_gt (blk_lt (g := gb246) (o := .cells #[.int .u64 a0_0, .int .u64 a0_1, .int .u64 a0_2, .int .u64 a0_3, .int .i64 a0_4] 40 (0, 0)) (by (with_reducible repeat (first | refine blk_drewN ?_ _ | refine blk_drew ?_ | refine blk_alloc ?_ _)); exact BK246.out)) : gb248 ≠ gb246)); have n8_ := Aside0.mk ((by rw [hg]; exact Nat.ne_of_lt (blk_lt (g := gb247) (o := .cells #[.int .u64 a1_0, .int .u64 a1_1] 24 (0, 0)) (by (with_reducible repeat (first | refine blk_drewN ?_ _ | refine blk_drew ?_ | refine blk_alloc ?_ _)); exact BK247.out)) : gb247 ≠ gb248)); have n9_ := Aside0.mk ((by rw [hg]; exact Nat.ne_of_gt (blk_lt (g := gb247) (o := .cells #[.int .u64 a1_0, .int .u64 a1_1] 24 (0, 0)) (by (with_reducible repeat (first | refine blk_drewN ?_ _ | refine blk_drew ?_ | refine blk_alloc ?_ _)); exact BK247.out)) : gb248 ≠ gb247)); clear BK246; clear BK247; clear HB; have BK246 := n0_; have BK247 := n1_; have HB := n2_; have BK248 := n3_; have GW248 := n4_; have GE248 := n5_; have NB246_248 := n6_; have NB248_246 := n7_; have NB247_248 := n8_; have NB248_247 := n9_; clear n0_ n1_ n2_ n3_ n4_ n5_ n6_ n7_ n8_ n9_; clear hb hbox hg))
  have n0_ := Aside0.mk (blk_drew BK246.out)
  have n1_ := Aside0.mk (blk_drew BK247.out)
  have n2_ := Aside0.mk (blk_drew BK248.out)
  have n3_ := Aside0.mk (below_drew1 HB.out)
  clear BK246
  clear BK247
  clear BK248
  clear HB
  have BK246 := n0_
  have BK247 := n1_
  have BK248 := n2_
  have HB := n3_
  clear n0_ n1_ n2_ n3_
  refine start_ (n := 10) (S := fun w' => w'.cell? ⟨gb246, 0, none⟩ = some (.int .u64 a0_0) ∧ w'.cell? ⟨gb246, 1, none⟩ = some (.int .u64 a0_1) ∧ w'.cell? ⟨gb246, 2, none⟩ = some (.int .u64 a0_2) ∧ w'.cell? ⟨gb246, 3, none⟩ = some (.int .u64 a0_3) ∧ w'.cell? ⟨gb246, 4, none⟩ = some (.int .i64 a0_4) ∧ w'.cell? ⟨gb247, 0, none⟩ = some (.int .u64 a1_0) ∧ w'.cell? ⟨gb247, 1, none⟩ = some (.int .u64 a1_1)) (ds := []) #[false, false, false, false, false, false, false, false, false, false] (by kernel_rfl) rfl rfl ⟨(blk_cell BK246.out 0).trans rfl, (blk_cell BK246.out 1).trans rfl, (blk_cell BK246.out 2).trans rfl, (blk_cell BK246.out 3).trans rfl, (blk_cell BK246.out 4).trans rfl, (blk_cell BK247.out 0).trans rfl, (blk_cell BK247.out 1).trans rfl⟩ (fun hHeld => ?_); refine with_tabW winnowlaw12_RegisterAgain.tab1 winnowlaw12_RegisterAgain.bits1 (fun HT_ HW_ => ?_)
  generalize w14.drew = w15 at BK246 BK247 BK248 HB hHeld ⊢
  refine take_ (i := 0) (N := some 22) (v := ?_) (a' := ?_) #[true, false, false, false, false, false, false, false, false, false] rfl rfl (take_ofW HT_.out HW_.out (by kernel_rfl)) (fun _ _ _ h => h) (Or.inl ⟨by rfl, ?_⟩) hHeld ?_ ?_
  rotate_left
  · rintro w' ⟨s0, s1, s2, s3, s4, s5, s6⟩
    go_simp
    with_reducible rfl
  rotate_left
  · simp only [Act.put, List.setIfInBounds_toArray, List.set_cons_zero, List.set_cons_succ, i64_w, i32_w]
    rfl
  refine take_ (i := 2) (N := some 24) (v := ?_) (a' := ?_) #[true, false, true, false, false, false, false, false, false, false] rfl rfl (take_ofW HT_.out HW_.out (by kernel_rfl)) (fun _ _ _ h => h) (Or.inl ⟨by rfl, ?_⟩) hHeld ?_ ?_
  rotate_left
  · rintro w' ⟨s0, s1, s2, s3, s4, s5, s6⟩
    go_simp
    with_reducible rfl
  rotate_left
  · simp only [Act.put, List.setIfInBounds_toArray, List.set_cons_zero, List.set_cons_succ, i64_w, i32_w]
    rfl
  refine join_ (σ := Nat) 2 #[true, true, true, true, true, true, true, true, false, false] (fun s_ => [(23, .agg #[.int .u64 t249, .int .u64 t250, .int .u64 t251, .int .u64 t252, .int .i64 t253]), (25, .tuple #[.agg #[.int .u64 t254, .int .u64 t255, .int .u64 t256, .int .u64 t257, .int .i64 t258], .bool t259]), (9, .pointer (some ⟨s_, 0, none⟩)), (21, .tuple #[.agg #[.int .u64 t254, .int .u64 t255, .int .u64 t256, .int .u64 t257, .int .i64 t258], .bool t259]), (26, .agg #[.int .u64 t254, .int .u64 t255, .int .u64 t256, .int .u64 t257, .int .i64 t258]), (27, .bool t259)]) (fun s_ w' => (w'.cell? ⟨gb246, 0, none⟩ = some (.int .u64 a0_0) ∧ w'.cell? ⟨gb246, 1, none⟩ = some (.int .u64 a0_1) ∧ w'.cell? ⟨gb246, 2, none⟩ = some (.int .u64 a0_2) ∧ w'.cell? ⟨gb246, 3, none⟩ = some (.int .u64 a0_3) ∧ w'.cell? ⟨gb246, 4, none⟩ = some (.int .i64 a0_4) ∧ w'.cell? ⟨gb247, 0, none⟩ = some (.int .u64 a1_0) ∧ w'.cell? ⟨gb247, 1, none⟩ = some (.int .u64 a1_1)) ∧ (w'.heap[gb246]? = some (.cells #[.int .u64 a0_0, .int .u64 a0_1, .int .u64 a0_2, .int .u64 a0_3, .int .i64 a0_4] 40 (0, 0))) ∧ (w'.heap[gb247]? = some (.cells #[.int .u64 a1_0, .int .u64 a1_1] 24 (0, 0))) ∧ (w'.heap[gb248]? = some (.cells #[.int .u64 a2_0, .int .u64 a2_1] 24 (0, 0))) ∧ (w'.heap[s_]? = some (.cells #[.int .u64 0, .int .u64 0, .int .u64 0, .int .u64 0, .int .i64 0] 42 (0, 0))) ∧ (w.heap.size ≤ s_) ∧ (w.heap.size ≤ s_) ∧ (gb246 ≠ s_) ∧ (s_ ≠ gb246) ∧ (gb247 ≠ s_) ∧ (s_ ≠ gb247) ∧ (gb248 ≠ s_) ∧ (s_ ≠ gb248) ∧ (Below w.heap.size w w')) ?_ ?_
  rotate_left
  · intro hCont
    refine two_ (i := 1) (j := 7) (Ni := some 23) (Nj := some 9) #[true, true, true, false, false, false, false, false, false, false] #[true, false, true, false, false, false, false, true, false, false] rfl rfl rfl rfl (two_of HT_.out (by kernel_rfl)) (by decide) (by decide) (fun K hK => ?_) (fun K hK => ?_)
    · skip
      refine goes_ Try.func23 (by kernel_rfl) rfl #[.agg #[.int .u64 a0_0, .int .u64 a0_1, .int .u64 a0_2, .int .u64 a0_3, .int .i64 a0_4]] (by rfl) rfl rfl (by (try simp only [List.map_toArray, List.map_cons, List.map_nil]); first | done | rfl | (simp only [List.length_drop, List.length_take]; rfl)) ?_
      with_reducible refine (winnowlaw12_own.calls a0_0 a0_1 a0_2 a0_3 a0_4 t249 t250 t251 t252 t253 _ A5.out).mono ?_
      rintro e w16 ⟨rfl, hb⟩
      refine ⟨_, rfl, ?_⟩
      have n0_ := Aside0.mk (blk_below (g := gb246) (o := .cells #[.int .u64 a0_0, .int .u64 a0_1, .int .u64 a0_2, .int .u64 a0_3, .int .i64 a0_4] 40 (0, 0)) (by (with_reducible repeat (first | refine blk_drewN ?_ _ | refine blk_drew ?_ | refine blk_alloc ?_ _)); exact BK246.out) hb)
      have n1_ := Aside0.mk (blk_below (g := gb247) (o := .cells #[.int .u64 a1_0, .int .u64 a1_1] 24 (0, 0)) (by (with_reducible repeat (first | refine blk_drewN ?_ _ | refine blk_drew ?_ | refine blk_alloc ?_ _)); exact BK247.out) hb)
      have n2_ := Aside0.mk (blk_below (g := gb248) (o := .cells #[.int .u64 a2_0, .int .u64 a2_1] 24 (0, 0)) (by (with_reducible repeat (first | refine blk_drewN ?_ _ | refine blk_drew ?_ | refine blk_alloc ?_ _)); exact BK248.out) hb)
      have n3_ := Aside0.mk (below_step (by repeat (first | (with_reducible first | exact HB.out | apply below_alloc | apply pw_below_drewN | apply below_drew1 | refine below_set ?_ GE246.out | refine below_set ?_ GE247.out | refine below_set ?_ GE248.out) | exact HB.out)) hb)
      clear BK246
      clear BK247
      clear BK248
      clear HB
      have BK246 := n0_
      have BK247 := n1_
      have BK248 := n2_
      have HB := n3_
      clear n0_ n1_ n2_ n3_
      (try clear hb)
      (try clear hb2)
      (try clear hk)
      (try clear hi)
      refine hK.out _ _ ⟨(blk_cell BK246.out 0).trans rfl, (blk_cell BK246.out 1).trans rfl, (blk_cell BK246.out 2).trans rfl, (blk_cell BK246.out 3).trans rfl, (blk_cell BK246.out 4).trans rfl, (blk_cell BK247.out 0).trans rfl, (blk_cell BK247.out 1).trans rfl⟩ (fun hHeld => ?_)
      clear hK K
      refine norm_ (a' := ?_) ?_ ?_
      rotate_left
      · show Act.put _ (some 23) _ = _
        simp only [Act.put, List.setIfInBounds_toArray, List.set_cons_zero, List.set_cons_succ, i64_w, i32_w]
        rfl
      refine two_ (i := 3) (j := 7) (Ni := some 25) (Nj := some 9) #[true, true, true, true, false, false, false, false, false, false] #[true, true, true, false, false, false, false, true, false, false] rfl rfl rfl rfl (two_of HT_.out (by kernel_rfl)) (by decide) (by decide) (fun K hK => ?_) (fun K hK => ?_)
      · skip
        refine goes_ Try.func22 (by kernel_rfl) rfl #[.agg #[.int .u64 t249, .int .u64 t250, .int .u64 t251, .int .u64 t252, .int .i64 t253], .agg #[.int .u64 a1_0, .int .u64 a1_1]] (by rfl) rfl rfl (by (try simp only [List.map_toArray, List.map_cons, List.map_nil]); first | done | rfl | (simp only [List.length_drop, List.length_take]; rfl)) ?_
        with_reducible refine (register_Prepare.calls k t249 t250 t251 t252 t253 a1_0 a1_1 t254 t255 t256 t257 t258 t259 _ A6.out).mono ?_
        rintro e w17 ⟨rfl, hb⟩
        refine ⟨_, rfl, ?_⟩
        have n0_ := Aside0.mk (blk_below (g := gb246) (o := .cells #[.int .u64 a0_0, .int .u64 a0_1, .int .u64 a0_2, .int .u64 a0_3, .int .i64 a0_4] 40 (0, 0)) (by (with_reducible repeat (first | refine blk_drewN ?_ _ | refine blk_drew ?_ | refine blk_alloc ?_ _)); exact BK246.out) hb)
        have n1_ := Aside0.mk (blk_below (g := gb247) (o := .cells #[.int .u64 a1_0, .int .u64 a1_1] 24 (0, 0)) (by (with_reducible repeat (first | refine blk_drewN ?_ _ | refine blk_drew ?_ | refine blk_alloc ?_ _)); exact BK247.out) hb)
        have n2_ := Aside0.mk (blk_below (g := gb248) (o := .cells #[.int .u64 a2_0, .int .u64 a2_1] 24 (0, 0)) (by (with_reducible repeat (first | refine blk_drewN ?_ _ | refine blk_drew ?_ | refine blk_alloc ?_ _)); exact BK248.out) hb)
        have n3_ := Aside0.mk (below_step (by repeat (first | (with_reducible first | exact HB.out | apply below_alloc | apply pw_below_drewN | apply below_drew1 | refine below_set ?_ GE246.out | refine below_set ?_ GE247.out | refine below_set ?_ GE248.out) | exact HB.out)) hb)
        clear BK246
        clear BK247
        clear BK248
        clear HB
        have BK246 := n0_
        have BK247 := n1_
        have BK248 := n2_
        have HB := n3_
        clear n0_ n1_ n2_ n3_
        (try clear hb)
        (try clear hb2)
        (try clear hk)
        (try clear hi)
        refine hK.out _ _ ⟨(blk_cell BK246.out 0).trans rfl, (blk_cell BK246.out 1).trans rfl, (blk_cell BK246.out 2).trans rfl, (blk_cell BK246.out 3).trans rfl, (blk_cell BK246.out 4).trans rfl, (blk_cell BK247.out 0).trans rfl, (blk_cell BK247.out 1).trans rfl⟩ (fun hHeld => ?_)
        clear hK K
        refine norm_ (a' := ?_) ?_ ?_
        rotate_left
        · show Act.put _ (some 25) _ = _
          simp only [Act.put, List.setIfInBounds_toArray, List.set_cons_zero, List.set_cons_succ, i64_w, i32_w]
          rfl
        refine pure_ (i := 4) (N := some 21) (v := ?_) (a' := ?_) #[true, true, true, true, true, false, false, false, false, false] rfl rfl (any_of HT_.out (by kernel_rfl)) (fun _ _ _ h => h) (Or.inl ⟨by rfl, ?_⟩) ?_ ?_
        rotate_left
        · intro w'
          go_simp
          with_reducible rfl
        rotate_left
        · simp only [Act.put, List.setIfInBounds_toArray, List.set_cons_zero, List.set_cons_succ, i64_w, i32_w]
          rfl
        refine pure_ (i := 5) (N := some 26) (v := ?_) (a' := ?_) #[true, true, true, true, true, true, false, false, false, false] rfl rfl (any_of HT_.out (by kernel_rfl)) (fun _ _ _ h => h) (Or.inl ⟨by rfl, ?_⟩) ?_ ?_
        rotate_left
        · intro w'
          go_simp
          with_reducible rfl
        rotate_left
        · simp only [Act.put, List.setIfInBounds_toArray, List.set_cons_zero, List.set_cons_succ, i64_w, i32_w]
          rfl
        refine pure_ (i := 6) (N := some 27) (v := ?_) (a' := ?_) #[true, true, true, true, true, true, true, false, false, false] rfl rfl (any_of HT_.out (by kernel_rfl)) (fun _ _ _ h => h) (Or.inl ⟨by rfl, ?_⟩) ?_ ?_
        rotate_left
        · intro w'
          go_simp
          with_reducible rfl
        rotate_left
        · simp only [Act.put, List.setIfInBounds_toArray, List.set_cons_zero, List.set_cons_succ, i64_w, i32_w]
          rfl
        refine one_ (i := 7) (N := some 9) #[true, true, true, true, true, true, true, true, false, false] rfl rfl (one_of HT_.out (by kernel_rfl)) (by decide) (fun K hK => ?_)
        refine box_step ?hg (N := 9) ?hd (cs := #[.int .u64 0, .int .u64 0, .int .u64 0, .int .u64 0, .int .i64 0]) (t := 42) ?hr ?_; (case hd => rfl); (case hg => rfl); (case hr => first | (go_simp; done) | (go_simp; rfl))
        intro gb260 hg w18 hbox hb
        have n0_ := Aside0.mk (blk_below (g := gb246) (o := .cells #[.int .u64 a0_0, .int .u64 a0_1, .int .u64 a0_2, .int .u64 a0_3, .int .i64 a0_4] 40 (0, 0)) (by (with_reducible repeat (first | refine blk_drewN ?_ _ | refine blk_drew ?_ | refine blk_alloc ?_ _)); exact BK246.out) hb)
        have n1_ := Aside0.mk (blk_below (g := gb247) (o := .cells #[.int .u64 a1_0, .int .u64 a1_1] 24 (0, 0)) (by (with_reducible repeat (first | refine blk_drewN ?_ _ | refine blk_drew ?_ | refine blk_alloc ?_ _)); exact BK247.out) hb)
        have n2_ := Aside0.mk (blk_below (g := gb248) (o := .cells #[.int .u64 a2_0, .int .u64 a2_1] 24 (0, 0)) (by (with_reducible repeat (first | refine blk_drewN ?_ _ | refine blk_drew ?_ | refine blk_alloc ?_ _)); exact BK248.out) hb)
        have n3_ := Aside0.mk (below_step (by repeat (first | (with_reducible first | exact HB.out | apply below_alloc | apply pw_below_drewN | apply below_drew1 | refine below_set ?_ GE246.out | refine below_set ?_ GE247.out | refine below_set ?_ GE248.out) | exact HB.out)) hb)
        have n4_ := Aside0.mk (hbox)
        have n5_ := Aside0.mk ((by rw [hg]; exact (below_size (by repeat (first | (with_reducible first | exact HB.out | apply below_alloc | apply pw_below_drewN | apply below_drew1 | refine below_set ?_ GE246.out | refine below_set ?_ GE247.out | refine below_set ?_ GE248.out) | exact HB.out))) : w.heap.size ≤ gb260))
        have n6_ := Aside0.mk ((by rw [hg]; exact (below_size (by repeat (first | (with_reducible first | exact HB.out | apply below_alloc | apply pw_below_drewN | apply below_drew1 | refine below_set ?_ GE246.out | refine below_set ?_ GE247.out | refine below_set ?_ GE248.out) | exact HB.out))) : w.heap.size ≤ gb260))
        have n7_ := Aside0.mk ((by rw [hg]; exact Nat.ne_of_lt (blk_lt (g := gb246) (o := .cells #[.int .u64 a0_0, .int .u64 a0_1, .int .u64 a0_2, .int .u64 a0_3, .int .i64 a0_4] 40 (0, 0)) (by (with_reducible repeat (first | refine blk_drewN ?_ _ | refine blk_drew ?_ | refine blk_alloc ?_ _)); exact BK246.out)) : gb246 ≠ gb260))
        have n8_ := Aside0.mk ((by rw [hg]; exact Nat.ne_of_gt (blk_lt (g := gb246) (o := .cells #[.int .u64 a0_0, .int .u64 a0_1, .int .u64 a0_2, .int .u64 a0_3, .int .i64 a0_4] 40 (0, 0)) (by (with_reducible repeat (first | refine blk_drewN ?_ _ | refine blk_drew ?_ | refine blk_alloc ?_ _)); exact BK246.out)) : gb260 ≠ gb246))
        have n9_ := Aside0.mk ((by rw [hg]; exact Nat.ne_of_lt (blk_lt (g := gb247) (o := .cells #[.int .u64 a1_0, .int .u64 a1_1] 24 (0, 0)) (by (with_reducible repeat (first | refine blk_drewN ?_ _ | refine blk_drew ?_ | refine blk_alloc ?_ _)); exact BK247.out)) : gb247 ≠ gb260))
        have n10_ := Aside0.mk ((by rw [hg]; exact Nat.ne_of_gt (blk_lt (g := gb247) (o := .cells #[.int .u64 a1_0, .int .u64 a1_1] 24 (0, 0)) (by (with_reducible repeat (first | refine blk_drewN ?_ _ | refine blk_drew ?_ | refine blk_alloc ?_ _)); exact BK247.out)) : gb260 ≠ gb247))
        have n11_ := Aside0.mk ((by rw [hg]; exact Nat.ne_of_lt (blk_lt (g := gb248) (o := .cells #[.int .u64 a2_0, .int .u64 a2_1] 24 (0, 0)) (by (with_reducible repeat (first | refine blk_drewN ?_ _ | refine blk_drew ?_ | refine blk_alloc ?_ _)); exact BK248.out)) : gb248 ≠ gb260))
        have n12_ := Aside0.mk ((by rw [hg]; exact Nat.ne_of_gt (blk_lt (g := gb248) (o := .cells #[.int .u64 a2_0, .int .u64 a2_1] 24 (0, 0)) (by (with_reducible repeat (first | refine blk_drewN ?_ _ | refine blk_drew ?_ | refine blk_alloc ?_ _)); exact BK248.out)) : gb260 ≠ gb248))
        clear BK246
        clear BK247
        clear BK248
        clear HB
        have BK246 := n0_
        have BK247 := n1_
        have BK248 := n2_
        have HB := n3_
        have BK260 := n4_
        have GW260 := n5_
        have GE260 := n6_
        have NB246_260 := n7_
        have NB260_246 := n8_
        have NB247_260 := n9_
        have NB260_247 := n10_
        have NB248_260 := n11_
        have NB260_248 := n12_
        clear n0_ n1_ n2_ n3_ n4_ n5_ n6_ n7_ n8_ n9_ n10_ n11_ n12_
        clear hb hbox hg
        refine hK.out _ _ ⟨(blk_cell BK246.out 0).trans rfl, (blk_cell BK246.out 1).trans rfl, (blk_cell BK246.out 2).trans rfl, (blk_cell BK246.out 3).trans rfl, (blk_cell BK246.out 4).trans rfl, (blk_cell BK247.out 0).trans rfl, (blk_cell BK247.out 1).trans rfl⟩ (fun hHeld => ?_)
        clear hK K
        refine norm_ (a' := ?_) ?_ ?_
        rotate_left
        · show Act.put _ (some 9) _ = _
          simp only [Act.put, List.setIfInBounds_toArray, List.set_cons_zero, List.set_cons_succ, i64_w, i32_w]
          rfl
        exact norm_ (by simp only [putAll, Act.put, List.setIfInBounds_toArray, List.set_cons_zero, List.set_cons_succ]) (hCont (gb260) _ ⟨hHeld, (by (with_reducible repeat (first | refine blk_drewN ?_ _ | refine blk_drew ?_ | refine blk_alloc ?_ _)); exact BK246.out), (by (with_reducible repeat (first | refine blk_drewN ?_ _ | refine blk_drew ?_ | refine blk_alloc ?_ _)); exact BK247.out), (by (with_reducible repeat (first | refine blk_drewN ?_ _ | refine blk_drew ?_ | refine blk_alloc ?_ _)); exact BK248.out), (by (with_reducible repeat (first | refine blk_drewN ?_ _ | refine blk_drew ?_ | refine blk_alloc ?_ _)); exact BK260.out), GW260.out, GE260.out, NB246_260.out, NB260_246.out, NB247_260.out, NB260_247.out, NB248_260.out, NB260_248.out, (by repeat (first | (with_reducible first | exact HB.out | apply below_alloc | apply pw_below_drewN | apply below_drew1 | refine below_set ?_ GE246.out | refine below_set ?_ GE247.out | refine below_set ?_ GE248.out | refine below_set ?_ GE260.out) | exact HB.out))⟩)
      · skip
        refine box_step ?hg (N := 9) ?hd (cs := #[.int .u64 0, .int .u64 0, .int .u64 0, .int .u64 0, .int .i64 0]) (t := 42) ?hr ?_; (case hd => rfl); (case hg => rfl); (case hr => first | (go_simp; done) | (go_simp; rfl))
        intro gb260 hg w17 hbox hb
        have n0_ := Aside0.mk (blk_below (g := gb246) (o := .cells #[.int .u64 a0_0, .int .u64 a0_1, .int .u64 a0_2, .int .u64 a0_3, .int .i64 a0_4] 40 (0, 0)) (by (with_reducible repeat (first | refine blk_drewN ?_ _ | refine blk_drew ?_ | refine blk_alloc ?_ _)); exact BK246.out) hb)
        have n1_ := Aside0.mk (blk_below (g := gb247) (o := .cells #[.int .u64 a1_0, .int .u64 a1_1] 24 (0, 0)) (by (with_reducible repeat (first | refine blk_drewN ?_ _ | refine blk_drew ?_ | refine blk_alloc ?_ _)); exact BK247.out) hb)
        have n2_ := Aside0.mk (blk_below (g := gb248) (o := .cells #[.int .u64 a2_0, .int .u64 a2_1] 24 (0, 0)) (by (with_reducible repeat (first | refine blk_drewN ?_ _ | refine blk_drew ?_ | refine blk_alloc ?_ _)); exact BK248.out) hb)
        have n3_ := Aside0.mk (below_step (by repeat (first | (with_reducible first | exact HB.out | apply below_alloc | apply pw_below_drewN | apply below_drew1 | refine below_set ?_ GE246.out | refine below_set ?_ GE247.out | refine below_set ?_ GE248.out) | exact HB.out)) hb)
        have n4_ := Aside0.mk (hbox)
        have n5_ := Aside0.mk ((by rw [hg]; exact (below_size (by repeat (first | (with_reducible first | exact HB.out | apply below_alloc | apply pw_below_drewN | apply below_drew1 | refine below_set ?_ GE246.out | refine below_set ?_ GE247.out | refine below_set ?_ GE248.out) | exact HB.out))) : w.heap.size ≤ gb260))
        have n6_ := Aside0.mk ((by rw [hg]; exact (below_size (by repeat (first | (with_reducible first | exact HB.out | apply below_alloc | apply pw_below_drewN | apply below_drew1 | refine below_set ?_ GE246.out | refine below_set ?_ GE247.out | refine below_set ?_ GE248.out) | exact HB.out))) : w.heap.size ≤ gb260))
        have n7_ := Aside0.mk ((by rw [hg]; exact Nat.ne_of_lt (blk_lt (g := gb246) (o := .cells #[.int .u64 a0_0, .int .u64 a0_1, .int .u64 a0_2, .int .u64 a0_3, .int .i64 a0_4] 40 (0, 0)) (by (with_reducible repeat (first | refine blk_drewN ?_ _ | refine blk_drew ?_ | refine blk_alloc ?_ _)); exact BK246.out)) : gb246 ≠ gb260))
        have n8_ := Aside0.mk ((by rw [hg]; exact Nat.ne_of_gt (blk_lt (g := gb246) (o := .cells #[.int .u64 a0_0, .int .u64 a0_1, .int .u64 a0_2, .int .u64 a0_3, .int .i64 a0_4] 40 (0, 0)) (by (with_reducible repeat (first | refine blk_drewN ?_ _ | refine blk_drew ?_ | refine blk_alloc ?_ _)); exact BK246.out)) : gb260 ≠ gb246))
        have n9_ := Aside0.mk ((by rw [hg]; exact Nat.ne_of_lt (blk_lt (g := gb247) (o := .cells #[.int .u64 a1_0, .int .u64 a1_1] 24 (0, 0)) (by (with_reducible repeat (first | refine blk_drewN ?_ _ | refine blk_drew ?_ | refine blk_alloc ?_ _)); exact BK247.out)) : gb247 ≠ gb260))
        have n10_ := Aside0.mk ((by rw [hg]; exact Nat.ne_of_gt (blk_lt (g := gb247) (o := .cells #[.int .u64 a1_0, .int .u64 a1_1] 24 (0, 0)) (by (with_reducible repeat (first | refine blk_drewN ?_ _ | refine blk_drew ?_ | refine blk_alloc ?_ _)); exact BK247.out)) : gb260 ≠ gb247))
        have n11_ := Aside0.mk ((by rw [hg]; exact Nat.ne_of_lt (blk_lt (g := gb248) (o := .cells #[.int .u64 a2_0, .int .u64 a2_1] 24 (0, 0)) (by (with_reducible repeat (first | refine blk_drewN ?_ _ | refine blk_drew ?_ | refine blk_alloc ?_ _)); exact BK248.out)) : gb248 ≠ gb260))
        have n12_ := Aside0.mk ((by rw [hg]; exact Nat.ne_of_gt (blk_lt (g := gb248) (o := .cells #[.int .u64 a2_0, .int .u64 a2_1] 24 (0, 0)) (by (with_reducible repeat (first | refine blk_drewN ?_ _ | refine blk_drew ?_ | refine blk_alloc ?_ _)); exact BK248.out)) : gb260 ≠ gb248))
        clear BK246
        clear BK247
        clear BK248
        clear HB
        have BK246 := n0_
        have BK247 := n1_
        have BK248 := n2_
        have HB := n3_
        have BK260 := n4_
        have GW260 := n5_
        have GE260 := n6_
        have NB246_260 := n7_
        have NB260_246 := n8_
        have NB247_260 := n9_
        have NB260_247 := n10_
        have NB248_260 := n11_
        have NB260_248 := n12_
        clear n0_ n1_ n2_ n3_ n4_ n5_ n6_ n7_ n8_ n9_ n10_ n11_ n12_
        clear hb hbox hg
        refine hK.out _ _ ⟨(blk_cell BK246.out 0).trans rfl, (blk_cell BK246.out 1).trans rfl, (blk_cell BK246.out 2).trans rfl, (blk_cell BK246.out 3).trans rfl, (blk_cell BK246.out 4).trans rfl, (blk_cell BK247.out 0).trans rfl, (blk_cell BK247.out 1).trans rfl⟩ (fun hHeld => ?_)
        clear hK K
        refine norm_ (a' := ?_) ?_ ?_
        rotate_left
        · show Act.put _ (some 9) _ = _
          simp only [Act.put, List.setIfInBounds_toArray, List.set_cons_zero, List.set_cons_succ, i64_w, i32_w]
          rfl
        refine one_ (i := 3) (N := some 25) #[true, true, true, true, false, false, false, true, false, false] rfl rfl (one_of HT_.out (by kernel_rfl)) (by decide) (fun K hK => ?_)
        refine goes_ Try.func22 (by kernel_rfl) rfl #[.agg #[.int .u64 t249, .int .u64 t250, .int .u64 t251, .int .u64 t252, .int .i64 t253], .agg #[.int .u64 a1_0, .int .u64 a1_1]] (by rfl) rfl rfl (by (try simp only [List.map_toArray, List.map_cons, List.map_nil]); first | done | rfl | (simp only [List.length_drop, List.length_take]; rfl)) ?_
        with_reducible refine (register_Prepare.calls k t249 t250 t251 t252 t253 a1_0 a1_1 t254 t255 t256 t257 t258 t259 _ A6.out).mono ?_
        rintro e w18 ⟨rfl, hb⟩
        refine ⟨_, rfl, ?_⟩
        have n0_ := Aside0.mk (blk_below (g := gb246) (o := .cells #[.int .u64 a0_0, .int .u64 a0_1, .int .u64 a0_2, .int .u64 a0_3, .int .i64 a0_4] 40 (0, 0)) (by (with_reducible repeat (first | refine blk_drewN ?_ _ | refine blk_drew ?_ | refine blk_alloc ?_ _)); exact BK246.out) hb)
        have n1_ := Aside0.mk (blk_below (g := gb247) (o := .cells #[.int .u64 a1_0, .int .u64 a1_1] 24 (0, 0)) (by (with_reducible repeat (first | refine blk_drewN ?_ _ | refine blk_drew ?_ | refine blk_alloc ?_ _)); exact BK247.out) hb)
        have n2_ := Aside0.mk (blk_below (g := gb248) (o := .cells #[.int .u64 a2_0, .int .u64 a2_1] 24 (0, 0)) (by (with_reducible repeat (first | refine blk_drewN ?_ _ | refine blk_drew ?_ | refine blk_alloc ?_ _)); exact BK248.out) hb)
        have n3_ := Aside0.mk (blk_below (g := gb260) (o := .cells #[.int .u64 0, .int .u64 0, .int .u64 0, .int .u64 0, .int .i64 0] 42 (0, 0)) (by (with_reducible repeat (first | refine blk_drewN ?_ _ | refine blk_drew ?_ | refine blk_alloc ?_ _)); exact BK260.out) hb)
        have n4_ := Aside0.mk (below_step (by repeat (first | (with_reducible first | exact HB.out | apply below_alloc | apply pw_below_drewN | apply below_drew1 | refine below_set ?_ GE246.out | refine below_set ?_ GE247.out | refine below_set ?_ GE248.out | refine below_set ?_ GE260.out) | exact HB.out)) hb)
        clear BK246
        clear BK247
        clear BK248
        clear BK260
        clear HB
        have BK246 := n0_
        have BK247 := n1_
        have BK248 := n2_
        have BK260 := n3_
        have HB := n4_
        clear n0_ n1_ n2_ n3_ n4_
        (try clear hb)
        (try clear hb2)
        (try clear hk)
        (try clear hi)
        refine hK.out _ _ ⟨(blk_cell BK246.out 0).trans rfl, (blk_cell BK246.out 1).trans rfl, (blk_cell BK246.out 2).trans rfl, (blk_cell BK246.out 3).trans rfl, (blk_cell BK246.out 4).trans rfl, (blk_cell BK247.out 0).trans rfl, (blk_cell BK247.out 1).trans rfl⟩ (fun hHeld => ?_)
        clear hK K
        refine norm_ (a' := ?_) ?_ ?_
        rotate_left
        · show Act.put _ (some 25) _ = _
          simp only [Act.put, List.setIfInBounds_toArray, List.set_cons_zero, List.set_cons_succ, i64_w, i32_w]
          rfl
        refine pure_ (i := 4) (N := some 21) (v := ?_) (a' := ?_) #[true, true, true, true, true, false, false, true, false, false] rfl rfl (any_of HT_.out (by kernel_rfl)) (fun _ _ _ h => h) (Or.inl ⟨by rfl, ?_⟩) ?_ ?_
        rotate_left
        · intro w'
          go_simp
          with_reducible rfl
        rotate_left
        · simp only [Act.put, List.setIfInBounds_toArray, List.set_cons_zero, List.set_cons_succ, i64_w, i32_w]
          rfl
        refine pure_ (i := 5) (N := some 26) (v := ?_) (a' := ?_) #[true, true, true, true, true, true, false, true, false, false] rfl rfl (any_of HT_.out (by kernel_rfl)) (fun _ _ _ h => h) (Or.inl ⟨by rfl, ?_⟩) ?_ ?_
        rotate_left
        · intro w'
          go_simp
          with_reducible rfl
        rotate_left
        · simp only [Act.put, List.setIfInBounds_toArray, List.set_cons_zero, List.set_cons_succ, i64_w, i32_w]
          rfl
        refine pure_ (i := 6) (N := some 27) (v := ?_) (a' := ?_) #[true, true, true, true, true, true, true, true, false, false] rfl rfl (any_of HT_.out (by kernel_rfl)) (fun _ _ _ h => h) (Or.inl ⟨by rfl, ?_⟩) ?_ ?_
        rotate_left
        · intro w'
          go_simp
          with_reducible rfl
        rotate_left
        · simp only [Act.put, List.setIfInBounds_toArray, List.set_cons_zero, List.set_cons_succ, i64_w, i32_w]
          rfl
        exact norm_ (by simp only [putAll, Act.put, List.setIfInBounds_toArray, List.set_cons_zero, List.set_cons_succ]) (hCont (gb260) _ ⟨hHeld, (by (with_reducible repeat (first | refine blk_drewN ?_ _ | refine blk_drew ?_ | refine blk_alloc ?_ _)); exact BK246.out), (by (with_reducible repeat (first | refine blk_drewN ?_ _ | refine blk_drew ?_ | refine blk_alloc ?_ _)); exact BK247.out), (by (with_reducible repeat (first | refine blk_drewN ?_ _ | refine blk_drew ?_ | refine blk_alloc ?_ _)); exact BK248.out), (by (with_reducible repeat (first | refine blk_drewN ?_ _ | refine blk_drew ?_ | refine blk_alloc ?_ _)); exact BK260.out), GW260.out, GE260.out, NB246_260.out, NB260_246.out, NB247_260.out, NB260_247.out, NB248_260.out, NB260_248.out, (by repeat (first | (with_reducible first | exact HB.out | apply below_alloc | apply pw_below_drewN | apply below_drew1 | refine below_set ?_ GE246.out | refine below_set ?_ GE247.out | refine below_set ?_ GE248.out | refine below_set ?_ GE260.out) | exact HB.out))⟩)
    · skip
      refine box_step ?hg (N := 9) ?hd (cs := #[.int .u64 0, .int .u64 0, .int .u64 0, .int .u64 0, .int .i64 0]) (t := 42) ?hr ?_; (case hd => rfl); (case hg => rfl); (case hr => first | (go_simp; done) | (go_simp; rfl))
      intro gb260 hg w16 hbox hb
      have n0_ := Aside0.mk (blk_below (g := gb246) (o := .cells #[.int .u64 a0_0, .int .u64 a0_1, .int .u64 a0_2, .int .u64 a0_3, .int .i64 a0_4] 40 (0, 0)) (by (with_reducible repeat (first | refine blk_drewN ?_ _ | refine blk_drew ?_ | refine blk_alloc ?_ _)); exact BK246.out) hb)
      have n1_ := Aside0.mk (blk_below (g := gb247) (o := .cells #[.int .u64 a1_0, .int .u64 a1_1] 24 (0, 0)) (by (with_reducible repeat (first | refine blk_drewN ?_ _ | refine blk_drew ?_ | refine blk_alloc ?_ _)); exact BK247.out) hb)
      have n2_ := Aside0.mk (blk_below (g := gb248) (o := .cells #[.int .u64 a2_0, .int .u64 a2_1] 24 (0, 0)) (by (with_reducible repeat (first | refine blk_drewN ?_ _ | refine blk_drew ?_ | refine blk_alloc ?_ _)); exact BK248.out) hb)
      have n3_ := Aside0.mk (below_step (by repeat (first | (with_reducible first | exact HB.out | apply below_alloc | apply pw_below_drewN | apply below_drew1 | refine below_set ?_ GE246.out | refine below_set ?_ GE247.out | refine below_set ?_ GE248.out) | exact HB.out)) hb)
      have n4_ := Aside0.mk (hbox)
      have n5_ := Aside0.mk ((by rw [hg]; exact (below_size (by repeat (first | (with_reducible first | exact HB.out | apply below_alloc | apply pw_below_drewN | apply below_drew1 | refine below_set ?_ GE246.out | refine below_set ?_ GE247.out | refine below_set ?_ GE248.out) | exact HB.out))) : w.heap.size ≤ gb260))
      have n6_ := Aside0.mk ((by rw [hg]; exact (below_size (by repeat (first | (with_reducible first | exact HB.out | apply below_alloc | apply pw_below_drewN | apply below_drew1 | refine below_set ?_ GE246.out | refine below_set ?_ GE247.out | refine below_set ?_ GE248.out) | exact HB.out))) : w.heap.size ≤ gb260))
      have n7_ := Aside0.mk ((by rw [hg]; exact Nat.ne_of_lt (blk_lt (g := gb246) (o := .cells #[.int .u64 a0_0, .int .u64 a0_1, .int .u64 a0_2, .int .u64 a0_3, .int .i64 a0_4] 40 (0, 0)) (by (with_reducible repeat (first | refine blk_drewN ?_ _ | refine blk_drew ?_ | refine blk_alloc ?_ _)); exact BK246.out)) : gb246 ≠ gb260))
      have n8_ := Aside0.mk ((by rw [hg]; exact Nat.ne_of_gt (blk_lt (g := gb246) (o := .cells #[.int .u64 a0_0, .int .u64 a0_1, .int .u64 a0_2, .int .u64 a0_3, .int .i64 a0_4] 40 (0, 0)) (by (with_reducible repeat (first | refine blk_drewN ?_ _ | refine blk_drew ?_ | refine blk_alloc ?_ _)); exact BK246.out)) : gb260 ≠ gb246))
      have n9_ := Aside0.mk ((by rw [hg]; exact Nat.ne_of_lt (blk_lt (g := gb247) (o := .cells #[.int .u64 a1_0, .int .u64 a1_1] 24 (0, 0)) (by (with_reducible repeat (first | refine blk_drewN ?_ _ | refine blk_drew ?_ | refine blk_alloc ?_ _)); exact BK247.out)) : gb247 ≠ gb260))
      have n10_ := Aside0.mk ((by rw [hg]; exact Nat.ne_of_gt (blk_lt (g := gb247) (o := .cells #[.int .u64 a1_0, .int .u64 a1_1] 24 (0, 0)) (by (with_reducible repeat (first | refine blk_drewN ?_ _ | refine blk_drew ?_ | refine blk_alloc ?_ _)); exact BK247.out)) : gb260 ≠ gb247))
      have n11_ := Aside0.mk ((by rw [hg]; exact Nat.ne_of_lt (blk_lt (g := gb248) (o := .cells #[.int .u64 a2_0, .int .u64 a2_1] 24 (0, 0)) (by (with_reducible repeat (first | refine blk_drewN ?_ _ | refine blk_drew ?_ | refine blk_alloc ?_ _)); exact BK248.out)) : gb248 ≠ gb260))
      have n12_ := Aside0.mk ((by rw [hg]; exact Nat.ne_of_gt (blk_lt (g := gb248) (o := .cells #[.int .u64 a2_0, .int .u64 a2_1] 24 (0, 0)) (by (with_reducible repeat (first | refine blk_drewN ?_ _ | refine blk_drew ?_ | refine blk_alloc ?_ _)); exact BK248.out)) : gb260 ≠ gb248))
      clear BK246
      clear BK247
      clear BK248
      clear HB
      have BK246 := n0_
      have BK247 := n1_
      have BK248 := n2_
      have HB := n3_
      have BK260 := n4_
      have GW260 := n5_
      have GE260 := n6_
      have NB246_260 := n7_
      have NB260_246 := n8_
      have NB247_260 := n9_
      have NB260_247 := n10_
      have NB248_260 := n11_
      have NB260_248 := n12_
      clear n0_ n1_ n2_ n3_ n4_ n5_ n6_ n7_ n8_ n9_ n10_ n11_ n12_
      clear hb hbox hg
      refine hK.out _ _ ⟨(blk_cell BK246.out 0).trans rfl, (blk_cell BK246.out 1).trans rfl, (blk_cell BK246.out 2).trans rfl, (blk_cell BK246.out 3).trans rfl, (blk_cell BK246.out 4).trans rfl, (blk_cell BK247.out 0).trans rfl, (blk_cell BK247.out 1).trans rfl⟩ (fun hHeld => ?_)
      clear hK K
      refine norm_ (a' := ?_) ?_ ?_
      rotate_left
      · show Act.put _ (some 9) _ = _
        simp only [Act.put, List.setIfInBounds_toArray, List.set_cons_zero, List.set_cons_succ, i64_w, i32_w]
        rfl
      refine one_ (i := 1) (N := some 23) #[true, true, true, false, false, false, false, true, false, false] rfl rfl (one_of HT_.out (by kernel_rfl)) (by decide) (fun K hK => ?_)
      refine goes_ Try.func23 (by kernel_rfl) rfl #[.agg #[.int .u64 a0_0, .int .u64 a0_1, .int .u64 a0_2, .int .u64 a0_3, .int .i64 a0_4]] (by rfl) rfl rfl (by (try simp only [List.map_toArray, List.map_cons, List.map_nil]); first | done | rfl | (simp only [List.length_drop, List.length_take]; rfl)) ?_
      with_reducible refine (winnowlaw12_own.calls a0_0 a0_1 a0_2 a0_3 a0_4 t249 t250 t251 t252 t253 _ A5.out).mono ?_
      rintro e w17 ⟨rfl, hb⟩
      refine ⟨_, rfl, ?_⟩
      have n0_ := Aside0.mk (blk_below (g := gb246) (o := .cells #[.int .u64 a0_0, .int .u64 a0_1, .int .u64 a0_2, .int .u64 a0_3, .int .i64 a0_4] 40 (0, 0)) (by (with_reducible repeat (first | refine blk_drewN ?_ _ | refine blk_drew ?_ | refine blk_alloc ?_ _)); exact BK246.out) hb)
      have n1_ := Aside0.mk (blk_below (g := gb247) (o := .cells #[.int .u64 a1_0, .int .u64 a1_1] 24 (0, 0)) (by (with_reducible repeat (first | refine blk_drewN ?_ _ | refine blk_drew ?_ | refine blk_alloc ?_ _)); exact BK247.out) hb)
      have n2_ := Aside0.mk (blk_below (g := gb248) (o := .cells #[.int .u64 a2_0, .int .u64 a2_1] 24 (0, 0)) (by (with_reducible repeat (first | refine blk_drewN ?_ _ | refine blk_drew ?_ | refine blk_alloc ?_ _)); exact BK248.out) hb)
      have n3_ := Aside0.mk (blk_below (g := gb260) (o := .cells #[.int .u64 0, .int .u64 0, .int .u64 0, .int .u64 0, .int .i64 0] 42 (0, 0)) (by (with_reducible repeat (first | refine blk_drewN ?_ _ | refine blk_drew ?_ | refine blk_alloc ?_ _)); exact BK260.out) hb)
      have n4_ := Aside0.mk (below_step (by repeat (first | (with_reducible first | exact HB.out | apply below_alloc | apply pw_below_drewN | apply below_drew1 | refine below_set ?_ GE246.out | refine below_set ?_ GE247.out | refine below_set ?_ GE248.out | refine below_set ?_ GE260.out) | exact HB.out)) hb)
      clear BK246
      clear BK247
      clear BK248
      clear BK260
      clear HB
      have BK246 := n0_
      have BK247 := n1_
      have BK248 := n2_
      have BK260 := n3_
      have HB := n4_
      clear n0_ n1_ n2_ n3_ n4_
      (try clear hb)
      (try clear hb2)
      (try clear hk)
      (try clear hi)
      refine hK.out _ _ ⟨(blk_cell BK246.out 0).trans rfl, (blk_cell BK246.out 1).trans rfl, (blk_cell BK246.out 2).trans rfl, (blk_cell BK246.out 3).trans rfl, (blk_cell BK246.out 4).trans rfl, (blk_cell BK247.out 0).trans rfl, (blk_cell BK247.out 1).trans rfl⟩ (fun hHeld => ?_)
      clear hK K
      refine norm_ (a' := ?_) ?_ ?_
      rotate_left
      · show Act.put _ (some 23) _ = _
        simp only [Act.put, List.setIfInBounds_toArray, List.set_cons_zero, List.set_cons_succ, i64_w, i32_w]
        rfl
      refine one_ (i := 3) (N := some 25) #[true, true, true, true, false, false, false, true, false, false] rfl rfl (one_of HT_.out (by kernel_rfl)) (by decide) (fun K hK => ?_)
      refine goes_ Try.func22 (by kernel_rfl) rfl #[.agg #[.int .u64 t249, .int .u64 t250, .int .u64 t251, .int .u64 t252, .int .i64 t253], .agg #[.int .u64 a1_0, .int .u64 a1_1]] (by rfl) rfl rfl (by (try simp only [List.map_toArray, List.map_cons, List.map_nil]); first | done | rfl | (simp only [List.length_drop, List.length_take]; rfl)) ?_
      with_reducible refine (register_Prepare.calls k t249 t250 t251 t252 t253 a1_0 a1_1 t254 t255 t256 t257 t258 t259 _ A6.out).mono ?_
      rintro e w18 ⟨rfl, hb⟩
      refine ⟨_, rfl, ?_⟩
      have n0_ := Aside0.mk (blk_below (g := gb246) (o := .cells #[.int .u64 a0_0, .int .u64 a0_1, .int .u64 a0_2, .int .u64 a0_3, .int .i64 a0_4] 40 (0, 0)) (by (with_reducible repeat (first | refine blk_drewN ?_ _ | refine blk_drew ?_ | refine blk_alloc ?_ _)); exact BK246.out) hb)
      have n1_ := Aside0.mk (blk_below (g := gb247) (o := .cells #[.int .u64 a1_0, .int .u64 a1_1] 24 (0, 0)) (by (with_reducible repeat (first | refine blk_drewN ?_ _ | refine blk_drew ?_ | refine blk_alloc ?_ _)); exact BK247.out) hb)
      have n2_ := Aside0.mk (blk_below (g := gb248) (o := .cells #[.int .u64 a2_0, .int .u64 a2_1] 24 (0, 0)) (by (with_reducible repeat (first | refine blk_drewN ?_ _ | refine blk_drew ?_ | refine blk_alloc ?_ _)); exact BK248.out) hb)
      have n3_ := Aside0.mk (blk_below (g := gb260) (o := .cells #[.int .u64 0, .int .u64 0, .int .u64 0, .int .u64 0, .int .i64 0] 42 (0, 0)) (by (with_reducible repeat (first | refine blk_drewN ?_ _ | refine blk_drew ?_ | refine blk_alloc ?_ _)); exact BK260.out) hb)
      have n4_ := Aside0.mk (below_step (by repeat (first | (with_reducible first | exact HB.out | apply below_alloc | apply pw_below_drewN | apply below_drew1 | refine below_set ?_ GE246.out | refine below_set ?_ GE247.out | refine below_set ?_ GE248.out | refine below_set ?_ GE260.out) | exact HB.out)) hb)
      clear BK246
      clear BK247
      clear BK248
      clear BK260
      clear HB
      have BK246 := n0_
      have BK247 := n1_
      have BK248 := n2_
      have BK260 := n3_
      have HB := n4_
      clear n0_ n1_ n2_ n3_ n4_
      (try clear hb)
      (try clear hb2)
      (try clear hk)
      (try clear hi)
      refine hK.out _ _ ⟨(blk_cell BK246.out 0).trans rfl, (blk_cell BK246.out 1).trans rfl, (blk_cell BK246.out 2).trans rfl, (blk_cell BK246.out 3).trans rfl, (blk_cell BK246.out 4).trans rfl, (blk_cell BK247.out 0).trans rfl, (blk_cell BK247.out 1).trans rfl⟩ (fun hHeld => ?_)
      clear hK K
      refine norm_ (a' := ?_) ?_ ?_
      rotate_left
      · show Act.put _ (some 25) _ = _
        simp only [Act.put, List.setIfInBounds_toArray, List.set_cons_zero, List.set_cons_succ, i64_w, i32_w]
        rfl
      refine pure_ (i := 4) (N := some 21) (v := ?_) (a' := ?_) #[true, true, true, true, true, false, false, true, false, false] rfl rfl (any_of HT_.out (by kernel_rfl)) (fun _ _ _ h => h) (Or.inl ⟨by rfl, ?_⟩) ?_ ?_
      rotate_left
      · intro w'
        go_simp
        with_reducible rfl
      rotate_left
      · simp only [Act.put, List.setIfInBounds_toArray, List.set_cons_zero, List.set_cons_succ, i64_w, i32_w]
        rfl
      refine pure_ (i := 5) (N := some 26) (v := ?_) (a' := ?_) #[true, true, true, true, true, true, false, true, false, false] rfl rfl (any_of HT_.out (by kernel_rfl)) (fun _ _ _ h => h) (Or.inl ⟨by rfl, ?_⟩) ?_ ?_
      rotate_left
      · intro w'
        go_simp
        with_reducible rfl
      rotate_left
      · simp only [Act.put, List.setIfInBounds_toArray, List.set_cons_zero, List.set_cons_succ, i64_w, i32_w]
        rfl
      refine pure_ (i := 6) (N := some 27) (v := ?_) (a' := ?_) #[true, true, true, true, true, true, true, true, false, false] rfl rfl (any_of HT_.out (by kernel_rfl)) (fun _ _ _ h => h) (Or.inl ⟨by rfl, ?_⟩) ?_ ?_
      rotate_left
      · intro w'
        go_simp
        with_reducible rfl
      rotate_left
      · simp only [Act.put, List.setIfInBounds_toArray, List.set_cons_zero, List.set_cons_succ, i64_w, i32_w]
        rfl
      exact norm_ (by simp only [putAll, Act.put, List.setIfInBounds_toArray, List.set_cons_zero, List.set_cons_succ]) (hCont (gb260) _ ⟨hHeld, (by (with_reducible repeat (first | refine blk_drewN ?_ _ | refine blk_drew ?_ | refine blk_alloc ?_ _)); exact BK246.out), (by (with_reducible repeat (first | refine blk_drewN ?_ _ | refine blk_drew ?_ | refine blk_alloc ?_ _)); exact BK247.out), (by (with_reducible repeat (first | refine blk_drewN ?_ _ | refine blk_drew ?_ | refine blk_alloc ?_ _)); exact BK248.out), (by (with_reducible repeat (first | refine blk_drewN ?_ _ | refine blk_drew ?_ | refine blk_alloc ?_ _)); exact BK260.out), GW260.out, GE260.out, NB246_260.out, NB260_246.out, NB247_260.out, NB260_247.out, NB248_260.out, NB260_248.out, (by repeat (first | (with_reducible first | exact HB.out | apply below_alloc | apply pw_below_drewN | apply below_drew1 | refine below_set ?_ GE246.out | refine below_set ?_ GE247.out | refine below_set ?_ GE248.out | refine below_set ?_ GE260.out) | exact HB.out))⟩)
  rintro gb260 w19 ⟨hS_, h0_, h1_, h2_, h3_, h4_, h5_, h6_, h7_, h8_, h9_, h10_, h11_, h12_⟩
  have n0_ : Aside0 (w19.heap[gb246]? = some (.cells #[.int .u64 a0_0, .int .u64 a0_1, .int .u64 a0_2, .int .u64 a0_3, .int .i64 a0_4] 40 (0, 0))) := ⟨h0_⟩
  have n1_ : Aside0 (w19.heap[gb247]? = some (.cells #[.int .u64 a1_0, .int .u64 a1_1] 24 (0, 0))) := ⟨h1_⟩
  have n2_ : Aside0 (w19.heap[gb248]? = some (.cells #[.int .u64 a2_0, .int .u64 a2_1] 24 (0, 0))) := ⟨h2_⟩
  have n3_ : Aside0 (w19.heap[gb260]? = some (.cells #[.int .u64 0, .int .u64 0, .int .u64 0, .int .u64 0, .int .i64 0] 42 (0, 0))) := ⟨h3_⟩
  have n4_ : Aside0 (w.heap.size ≤ gb260) := ⟨h4_⟩
  have n5_ : Aside0 (w.heap.size ≤ gb260) := ⟨h5_⟩
  have n6_ : Aside0 (gb246 ≠ gb260) := ⟨h6_⟩
  have n7_ : Aside0 (gb260 ≠ gb246) := ⟨h7_⟩
  have n8_ : Aside0 (gb247 ≠ gb260) := ⟨h8_⟩
  have n9_ : Aside0 (gb260 ≠ gb247) := ⟨h9_⟩
  have n10_ : Aside0 (gb248 ≠ gb260) := ⟨h10_⟩
  have n11_ : Aside0 (gb260 ≠ gb248) := ⟨h11_⟩
  have n12_ : Aside0 (Below w.heap.size w w19) := ⟨h12_⟩
  clear BK246
  clear BK247
  clear BK248
  clear HB
  clear h0_ h1_ h2_ h3_ h4_ h5_ h6_ h7_ h8_ h9_ h10_ h11_ h12_
  have BK246 := n0_
  have BK247 := n1_
  have BK248 := n2_
  have BK260 := n3_
  have GW260 := n4_
  have GE260 := n5_
  have NB246_260 := n6_
  have NB260_246 := n7_
  have NB247_260 := n8_
  have NB260_247 := n9_
  have NB248_260 := n10_
  have NB260_248 := n11_
  have HB := n12_
  clear n0_ n1_ n2_ n3_ n4_ n5_ n6_ n7_ n8_ n9_ n10_ n11_ n12_
  have hHeld : w19.cell? ⟨gb246, 0, none⟩ = some (.int .u64 a0_0) ∧ w19.cell? ⟨gb246, 1, none⟩ = some (.int .u64 a0_1) ∧ w19.cell? ⟨gb246, 2, none⟩ = some (.int .u64 a0_2) ∧ w19.cell? ⟨gb246, 3, none⟩ = some (.int .u64 a0_3) ∧ w19.cell? ⟨gb246, 4, none⟩ = some (.int .i64 a0_4) ∧ w19.cell? ⟨gb247, 0, none⟩ = some (.int .u64 a1_0) ∧ w19.cell? ⟨gb247, 1, none⟩ = some (.int .u64 a1_1) := hS_
  refine norm_ (a' := ?_) ?_ ?_
  rotate_left
  · simp only [putAll, Act.put, List.setIfInBounds_toArray, List.set_cons_zero, List.set_cons_succ]
    rfl
  refine one_ (i := 8) (N := none) #[true, true, true, true, true, true, true, true, true, false] rfl rfl (one_of HT_.out (by kernel_rfl)) (by decide) (fun K hK => ?_)
  have hs20 : w19.cell? ⟨gb260, 0, none⟩ = some (.int .u64 0) := (blk_cell BK260.out 0).trans rfl
  have hfs20 := blk_frozen BK260.out 0
  have hns20_0 := NB246_260.out
  have hns20_1 := NB247_260.out
  have hns20_2 := NB248_260.out
  have hms20_0 := NB260_246.out
  have hms20_1 := NB260_247.out
  have hms20_2 := NB260_248.out
  have hs21 : w19.cell? ⟨gb260, 1, none⟩ = some (.int .u64 0) := (blk_cell BK260.out 1).trans rfl
  have hfs21 := blk_frozen BK260.out 1
  have hns21_0 := NB246_260.out
  have hns21_1 := NB247_260.out
  have hns21_2 := NB248_260.out
  have hms21_0 := NB260_246.out
  have hms21_1 := NB260_247.out
  have hms21_2 := NB260_248.out
  have hs22 : w19.cell? ⟨gb260, 2, none⟩ = some (.int .u64 0) := (blk_cell BK260.out 2).trans rfl
  have hfs22 := blk_frozen BK260.out 2
  have hns22_0 := NB246_260.out
  have hns22_1 := NB247_260.out
  have hns22_2 := NB248_260.out
  have hms22_0 := NB260_246.out
  have hms22_1 := NB260_247.out
  have hms22_2 := NB260_248.out
  have hs23 : w19.cell? ⟨gb260, 3, none⟩ = some (.int .u64 0) := (blk_cell BK260.out 3).trans rfl
  have hfs23 := blk_frozen BK260.out 3
  have hns23_0 := NB246_260.out
  have hns23_1 := NB247_260.out
  have hns23_2 := NB248_260.out
  have hms23_0 := NB260_246.out
  have hms23_1 := NB260_247.out
  have hms23_2 := NB260_248.out
  have hs24 : w19.cell? ⟨gb260, 4, none⟩ = some (.int .i64 0) := (blk_cell BK260.out 4).trans rfl
  have hfs24 := blk_frozen BK260.out 4
  have hns24_0 := NB246_260.out
  have hns24_1 := NB247_260.out
  have hns24_2 := NB248_260.out
  have hms24_0 := NB260_246.out
  have hms24_1 := NB260_247.out
  have hms24_2 := NB260_248.out
  refine skip_ (w1 := ?_) (by rfl) rfl ?_ ?_
  rotate_left
  · go_simp
    rfl
  refine hK.out _ _ ⟨((cell_far (p := ⟨gb260, _, none⟩) NB246_260.out _).trans (((cell_far (p := ⟨gb260, _, none⟩) NB246_260.out _).trans (((cell_far (p := ⟨gb260, _, none⟩) NB246_260.out _).trans (((cell_far (p := ⟨gb260, _, none⟩) NB246_260.out _).trans (((cell_far (p := ⟨gb260, _, none⟩) NB246_260.out _).trans (hHeld.1)))))))))), ((cell_far (p := ⟨gb260, _, none⟩) NB246_260.out _).trans (((cell_far (p := ⟨gb260, _, none⟩) NB246_260.out _).trans (((cell_far (p := ⟨gb260, _, none⟩) NB246_260.out _).trans (((cell_far (p := ⟨gb260, _, none⟩) NB246_260.out _).trans (((cell_far (p := ⟨gb260, _, none⟩) NB246_260.out _).trans (hHeld.2.1)))))))))), ((cell_far (p := ⟨gb260, _, none⟩) NB246_260.out _).trans (((cell_far (p := ⟨gb260, _, none⟩) NB246_260.out _).trans (((cell_far (p := ⟨gb260, _, none⟩) NB246_260.out _).trans (((cell_far (p := ⟨gb260, _, none⟩) NB246_260.out _).trans (((cell_far (p := ⟨gb260, _, none⟩) NB246_260.out _).trans (hHeld.2.2.1)))))))))), ((cell_far (p := ⟨gb260, _, none⟩) NB246_260.out _).trans (((cell_far (p := ⟨gb260, _, none⟩) NB246_260.out _).trans (((cell_far (p := ⟨gb260, _, none⟩) NB246_260.out _).trans (((cell_far (p := ⟨gb260, _, none⟩) NB246_260.out _).trans (((cell_far (p := ⟨gb260, _, none⟩) NB246_260.out _).trans (hHeld.2.2.2.1)))))))))), ((cell_far (p := ⟨gb260, _, none⟩) NB246_260.out _).trans (((cell_far (p := ⟨gb260, _, none⟩) NB246_260.out _).trans (((cell_far (p := ⟨gb260, _, none⟩) NB246_260.out _).trans (((cell_far (p := ⟨gb260, _, none⟩) NB246_260.out _).trans (((cell_far (p := ⟨gb260, _, none⟩) NB246_260.out _).trans (hHeld.2.2.2.2.1)))))))))), ((cell_far (p := ⟨gb260, _, none⟩) NB247_260.out _).trans (((cell_far (p := ⟨gb260, _, none⟩) NB247_260.out _).trans (((cell_far (p := ⟨gb260, _, none⟩) NB247_260.out _).trans (((cell_far (p := ⟨gb260, _, none⟩) NB247_260.out _).trans (((cell_far (p := ⟨gb260, _, none⟩) NB247_260.out _).trans (hHeld.2.2.2.2.2.1)))))))))), ((cell_far (p := ⟨gb260, _, none⟩) NB247_260.out _).trans (((cell_far (p := ⟨gb260, _, none⟩) NB247_260.out _).trans (((cell_far (p := ⟨gb260, _, none⟩) NB247_260.out _).trans (((cell_far (p := ⟨gb260, _, none⟩) NB247_260.out _).trans (((cell_far (p := ⟨gb260, _, none⟩) NB247_260.out _).trans (hHeld.2.2.2.2.2.2))))))))))⟩ (fun hHeld => ?_)
  clear hK K
  refine pure_ (i := 9) (N := some 10) (v := ?_) (a' := ?_) #[true, true, true, true, true, true, true, true, true, true] rfl rfl (any_of HT_.out (by kernel_rfl)) (fun _ _ _ h => h) (Or.inl ⟨by rfl, ?_⟩) ?_ ?_
  rotate_left
  · intro w'
    go_simp
    with_reducible rfl
  rotate_left
  · simp only [Act.put, List.setIfInBounds_toArray, List.set_cons_zero, List.set_cons_succ, i64_w, i32_w]
    rfl
  refine done_ (done_of HT_.out (by kernel_rfl)) ?_
  have hnb25 := NB260_246.out
  have hnc25 := NB246_260.out
  have hnb26 := NB260_247.out
  have hnc26 := NB247_260.out
  have hnb27 := NB260_248.out
  have hnc27 := NB248_260.out
  have hcz28_0 : w19.cell? ⟨gb260, 0, none⟩ = some (.int .u64 0) := (blk_cell BK260.out 0).trans rfl
  have hcz28_1 : w19.cell? ⟨gb260, 1, none⟩ = some (.int .u64 0) := (blk_cell BK260.out 1).trans rfl
  have hcz28_2 : w19.cell? ⟨gb260, 2, none⟩ = some (.int .u64 0) := (blk_cell BK260.out 2).trans rfl
  have hcz28_3 : w19.cell? ⟨gb260, 3, none⟩ = some (.int .u64 0) := (blk_cell BK260.out 3).trans rfl
  have hcz28_4 : w19.cell? ⟨gb260, 4, none⟩ = some (.int .i64 0) := (blk_cell BK260.out 4).trans rfl
  have hfz28_0 := blk_frozen BK260.out 0
  have hfz28_1 := blk_frozen BK260.out 1
  have hfz28_2 := blk_frozen BK260.out 2
  have hfz28_3 := blk_frozen BK260.out 3
  have hfz28_4 := blk_frozen BK260.out 4
  have hnb29 := NB247_246.out
  have hnc29 := NB246_247.out
  have hnb30 := NB247_248.out
  have hnc30 := NB248_247.out
  have hcz31_0 : w19.cell? ⟨gb247, 0, none⟩ = some (.int .u64 a1_0) := (blk_cell BK247.out 0).trans rfl
  have hcz31_1 : w19.cell? ⟨gb247, 1, none⟩ = some (.int .u64 a1_1) := (blk_cell BK247.out 1).trans rfl
  have hfz31_0 := blk_frozen BK247.out 0
  have hfz31_1 := blk_frozen BK247.out 1
  try go_wp2_with (first | ((with_reducible refine gate_callee (f := 22) rfl ?_); refine goesL_ (some 31) rfl rfl Try.func22 (by kernel_rfl) rfl #[.agg #[.int .u64 t254, .int .u64 t255, .int .u64 t256, .int .u64 t257, .int .i64 t258], .agg #[.int .u64 a1_0, .int .u64 a1_1]] rfl (by (try simp only [List.map_toArray, List.map_cons, List.map_nil]); first | done | rfl | (simp only [List.length_drop, List.length_take]; rfl)) ?_; (with_reducible refine (register_Prepare.calls k t254 t255 t256 t257 t258 a1_0 a1_1 t261 t262 t263 t264 t265 t266 _ A7.out).mono ?_); rintro e w32 ⟨rfl, hb⟩; refine ⟨_, rfl, ?_⟩; have n0_ := Aside0.mk (blk_below (g := gb246) (o := .cells #[.int .u64 a0_0, .int .u64 a0_1, .int .u64 a0_2, .int .u64 a0_3, .int .i64 a0_4] 40 (0, 0)) (by (with_reducible repeat (first | refine blk_drewN ?_ _ | refine blk_drew ?_ | refine blk_alloc ?_ _)); refine blk_far ?_ NB246_260.out _; (with_reducible repeat (first | refine blk_drewN ?_ _ | refine blk_drew ?_ | refine blk_alloc ?_ _)); refine blk_far ?_ NB246_260.out _; (with_reducible repeat (first | refine blk_drewN ?_ _ | refine blk_drew ?_ | refine blk_alloc ?_ _)); refine blk_far ?_ NB246_260.out _; (with_reducible repeat (first | refine blk_drewN ?_ _ | refine blk_drew ?_ | refine blk_alloc ?_ _)); refine blk_far ?_ NB246_260.out _; (with_reducible repeat (first | refine blk_drewN ?_ _ | refine blk_drew ?_ | refine blk_alloc ?_ _)); refine blk_far ?_ NB246_260.out _; (with_reducible repeat (first | refine blk_drewN ?_ _ | refine blk_drew ?_ | refine blk_alloc ?_ _)); exact BK246.out) hb); have n1_ := Aside0.mk (blk_below (g := gb247) (o := .cells #[.int .u64 a1_0, .int .u64 a1_1] 24 (0, 0)) (by (with_reducible repeat (first | refine blk_drewN ?_ _ | refine blk_drew ?_ | refine blk_alloc ?_ _)); refine blk_far ?_ NB247_260.out _; (with_reducible repeat (first | refine blk_drewN ?_ _ | refine blk_drew ?_ | refine blk_alloc ?_ _)); refine blk_far ?_ NB247_260.out _; (with_reducible repeat (first | refine blk_drewN ?_ _ | refine blk_drew ?_ | refine blk_alloc ?_ _)); refine blk_far ?_ NB247_260.out _; (with_reducible repeat (first | refine blk_drewN ?_ _ | refine blk_drew ?_ | refine blk_alloc ?_ _)); refine blk_far ?_ NB247_260.out _; (with_reducible repeat (first | refine blk_drewN ?_ _ | refine blk_drew ?_ | refine blk_alloc ?_ _)); refine blk_far ?_ NB247_260.out _; (with_reducible repeat (first | refine blk_drewN ?_ _ | refine blk_drew ?_ | refine blk_alloc ?_ _)); exact BK247.out) hb); have n2_ := Aside0.mk (blk_below (g := gb248) (o := .cells #[.int .u64 a2_0, .int .u64 a2_1] 24 (0, 0)) (by (with_reducible repeat (first | refine blk_drewN ?_ _ | refine blk_drew ?_ | refine blk_alloc ?_ _)); refine blk_far ?_ NB248_260.out _; (with_reducible repeat (first | refine blk_drewN ?_ _ | refine blk_drew ?_ | refine blk_alloc ?_ _)); refine blk_far ?_ NB248_260.out _; (with_reducible repeat (first | refine blk_drewN ?_ _ | refine blk_drew ?_ | refine blk_alloc ?_ _)); refine blk_far ?_ NB248_260.out _; (with_reducible repeat (first | refine blk_drewN ?_ _ | refine blk_drew ?_ | refine blk_alloc ?_ _)); refine blk_far ?_ NB248_260.out _; (with_reducible repeat (first | refine blk_drewN ?_ _ | refine blk_drew ?_ | refine blk_alloc ?_ _)); refine blk_far ?_ NB248_260.out _; (with_reducible repeat (first | refine blk_drewN ?_ _ | refine blk_drew ?_ | refine blk_alloc ?_ _)); exact BK248.out) hb); have n3_ := Aside0.mk (blk_below (g := gb260) (o := .cells #[.int .u64 t254, .int .u64 t255, .int .u64 t256, .int .u64 t257, .int .i64 t258] 42 (0, 0)) (by (with_reducible repeat (first | refine blk_drewN ?_ _ | refine blk_drew ?_ | refine blk_alloc ?_ _)); refine blk_put (cs := #[.int .u64 t254, .int .u64 t255, .int .u64 t256, .int .u64 t257, .int .i64 0]) ?_ 4 _ rfl; (with_reducible repeat (first | refine blk_drewN ?_ _ | refine blk_drew ?_ | refine blk_alloc ?_ _)); refine blk_put (cs := #[.int .u64 t254, .int .u64 t255, .int .u64 t256, .int .u64 0, .int .i64 0]) ?_ 3 _ rfl; (with_reducible repeat (first | refine blk_drewN ?_ _ | refine blk_drew ?_ | refine blk_alloc ?_ _)); refine blk_put (cs := #[.int .u64 t254, .int .u64 t255, .int .u64 0, .int .u64 0, .int .i64 0]) ?_ 2 _ rfl; (with_reducible repeat (first | refine blk_drewN ?_ _ | refine blk_drew ?_ | refine blk_alloc ?_ _)); refine blk_put (cs := #[.int .u64 t254, .int .u64 0, .int .u64 0, .int .u64 0, .int .i64 0]) ?_ 1 _ rfl; (with_reducible repeat (first | refine blk_drewN ?_ _ | refine blk_drew ?_ | refine blk_alloc ?_ _)); refine blk_put (cs := #[.int .u64 0, .int .u64 0, .int .u64 0, .int .u64 0, .int .i64 0]) ?_ 0 _ rfl; (with_reducible repeat (first | refine blk_drewN ?_ _ | refine blk_drew ?_ | refine blk_alloc ?_ _)); exact BK260.out) hb); have n4_ := Aside0.mk (below_step (by repeat (first | (with_reducible first | exact HB.out | apply below_alloc | apply pw_below_drewN | apply below_drew1 | refine below_set ?_ GE246.out | refine below_set ?_ GE247.out | refine below_set ?_ GE248.out | refine below_set ?_ GE260.out) | exact HB.out)) hb); clear BK246; clear BK247; clear BK248; clear BK260; clear HB; have BK246 := n0_; have BK247 := n1_; have BK248 := n2_; have BK260 := n3_; have HB := n4_; clear n0_ n1_ n2_ n3_ n4_; (try clear hb); (try clear hb2); (try clear hk); (try clear hi)) | ((with_reducible refine gate_dst (N := 11) rfl ?_); refine box_event ?hg (N := 11) ?hd (cs := #[.int .u64 0, .int .u64 0, .int .u64 0, .int .u64 0, .int .i64 0]) (t := 42) ?hr ?_; (case hd => rfl); (case hg => rfl); (case hr => first | (go_simp; done) | (go_simp; rfl)); intro gb267 hg w33 hbox hb; have n0_ := Aside0.mk (blk_below (g := gb246) (o := .cells #[.int .u64 a0_0, .int .u64 a0_1, .int .u64 a0_2, .int .u64 a0_3, .int .i64 a0_4] 40 (0, 0)) (by (with_reducible repeat (first | refine blk_drewN ?_ _ | refine blk_drew ?_ | refine blk_alloc ?_ _)); exact BK246.out) hb); have n1_ := Aside0.mk (blk_below (g := gb247) (o := .cells #[.int .u64 a1_0, .int .u64 a1_1] 24 (0, 0)) (by (with_reducible repeat (first | refine blk_drewN ?_ _ | refine blk_drew ?_ | refine blk_alloc ?_ _)); exact BK247.out) hb); have n2_ := Aside0.mk (blk_below (g := gb248) (o := .cells #[.int .u64 a2_0, .int .u64 a2_1] 24 (0, 0)) (by (with_reducible repeat (first | refine blk_drewN ?_ _ | refine blk_drew ?_ | refine blk_alloc ?_ _)); exact BK248.out) hb); have n3_ := Aside0.mk (blk_below (g := gb260) (o := .cells #[.int .u64 t254, .int .u64 t255, .int .u64 t256, .int .u64 t257, .int .i64 t258] 42 (0, 0)) (by (with_reducible repeat (first | refine blk_drewN ?_ _ | refine blk_drew ?_ | refine blk_alloc ?_ _)); exact BK260.out) hb); have n4_ := Aside0.mk (below_step (by repeat (first | (with_reducible first | exact HB.out | apply below_alloc | apply pw_below_drewN | apply below_drew1 | refine below_set ?_ GE246.out | refine below_set ?_ GE247.out | refine below_set ?_ GE248.out | refine below_set ?_ GE260.out) | exact HB.out)) hb); have n5_ := Aside0.mk (hbox); have n6_ := Aside0.mk ((by rw [hg]; exact (below_size (by repeat (first | (with_reducible first | exact HB.out | apply below_alloc | apply pw_below_drewN | apply below_drew1 | refine below_set ?_ GE246.out | refine below_set ?_ GE247.out | refine below_set ?_ GE248.out | refine below_set ?_ GE260.out) | exact HB.out))) : w.heap.size ≤ gb267)); have n7_ := Aside0.mk ((by rw [hg]; exact (below_size (by repeat (first | (with_reducible first | exact HB.out | apply below_alloc | apply pw_below_drewN | apply below_drew1 | refine below_set ?_ GE246.out | refine below_set ?_ GE247.out | refine below_set ?_ GE248.out | refine below_set ?_ GE260.out) | exact HB.out))) : w.heap.size ≤ gb267)); have n8_ := Aside0.mk ((by rw [hg]; exact Nat.ne_of_lt (blk_lt (g := gb246) (o := .cells #[.int .u64 a0_0, .int .u64 a0_1, .int .u64 a0_2, .int .u64 a0_3, .int .i64 a0_4] 40 (0, 0)) (by (with_reducible repeat (first | refine blk_drewN ?_ _ | refine blk_drew ?_ | refine blk_alloc ?_ _)); exact BK246.out)) : gb246 ≠ gb267)); have n9_ := Aside0.mk ((by rw [hg]; exact Nat.ne_of_gt (blk_lt (g := gb246) (o := .cells #[.int .u64 a0_0, .int .u64 a0_1, .int .u64 a0_2, .int .u64 a0_3, .int .i64 a0_4] 40 (0, 0)) (by (with_reducible repeat (first | refine blk_drewN ?_ _ | refine blk_drew ?_ | refine blk_alloc ?_ _)); exact BK246.out)) : gb267 ≠ gb246)); have n10_ := Aside0.mk ((by rw [hg]; exact Nat.ne_of_lt (blk_lt (g := gb247) (o := .cells #[.int .u64 a1_0, .int .u64 a1_1] 24 (0, 0)) (by (with_reducible repeat (first | refine blk_drewN ?_ _ | refine blk_drew ?_ | refine blk_alloc ?_ _)); exact BK247.out)) : gb247 ≠ gb267)); have n11_ := Aside0.mk ((by rw [hg]; exact Nat.ne_of_gt (blk_lt (g := gb247) (o := .cells #[.int .u64 a1_0, .int .u64 a1_1] 24 (0, 0)) (by (with_reducible repeat (first | refine blk_drewN ?_ _ | refine blk_drew ?_ | refine blk_alloc ?_ _)); exact BK247.out)) : gb267 ≠ gb247)); have n12_ := Aside0.mk ((by rw [hg]; exact Nat.ne_of_lt (blk_lt (g := gb248) (o := .cells #[.int .u64 a2_0, .int .u64 a2_1] 24 (0, 0)) (by (with_reducible repeat (first | refine blk_drewN ?_ _ | refine blk_drew ?_ | refine blk_alloc ?_ _)); exact BK248.out)) : gb248 ≠ gb267)); have n13_ := Aside0.mk ((by rw [hg]; exact Nat.ne_of_gt (blk_lt (g := gb248) (o := .cells #[.int .u64 a2_0, .int .u64 a2_1] 24 (0, 0)) (by (with_reducible repeat (first | refine blk_drewN ?_ _ | refine blk_drew ?_ | refine blk_alloc ?_ _)); exact BK248.out)) : gb267 ≠ gb248)); have n14_ := Aside0.mk ((by rw [hg]; exact Nat.ne_of_lt (blk_lt (g := gb260) (o := .cells #[.int .u64 t254, .int .u64 t255, .int .u64 t256, .int .u64 t257, .int .i64 t258] 42 (0, 0)) (by (with_reducible repeat (first | refine blk_drewN ?_ _ | refine blk_drew ?_ | refine blk_alloc ?_ _)); exact BK260.out)) : gb260 ≠ gb267)); have n15_ := Aside0.mk ((by rw [hg]; exact Nat.ne_of_gt (blk_lt (g := gb260) (o := .cells #[.int .u64 t254, .int .u64 t255, .int .u64 t256, .int .u64 t257, .int .i64 t258] 42 (0, 0)) (by (with_reducible repeat (first | refine blk_drewN ?_ _ | refine blk_drew ?_ | refine blk_alloc ?_ _)); exact BK260.out)) : gb267 ≠ gb260)); clear BK246; clear BK247; clear BK248; clear BK260; clear HB; have BK246 := n0_; have BK247 := n1_; have BK248 := n2_; have BK260 := n3_; have HB := n4_; have BK267 := n5_; have GW267 := n6_; have GE267 := n7_; have NB246_267 := n8_; have NB267_246 := n9_; have NB247_267 := n10_; have NB267_247 := n11_; have NB248_267 := n12_; have NB267_248 := n13_; have NB260_267 := n14_; have NB267_260 := n15_; clear n0_ n1_ n2_ n3_ n4_ n5_ n6_ n7_ n8_ n9_ n10_ n11_ n12_ n13_ n14_ n15_; clear hb hbox hg; have hnb34 := NB267_246.out; have hnc34 := NB246_267.out; have hnb35 := NB267_247.out; have hnc35 := NB247_267.out; have hnb36 := NB267_248.out; have hnc36 := NB248_267.out; have hnb37 := NB267_260.out; have hnc37 := NB260_267.out; have hcz38_0 : w33.cell? ⟨gb267, 0, none⟩ = some (.int .u64 0) := (blk_cell BK267.out 0).trans rfl; have hcz38_1 : w33.cell? ⟨gb267, 1, none⟩ = some (.int .u64 0) := (blk_cell BK267.out 1).trans rfl; have hcz38_2 : w33.cell? ⟨gb267, 2, none⟩ = some (.int .u64 0) := (blk_cell BK267.out 2).trans rfl; have hcz38_3 : w33.cell? ⟨gb267, 3, none⟩ = some (.int .u64 0) := (blk_cell BK267.out 3).trans rfl; have hcz38_4 : w33.cell? ⟨gb267, 4, none⟩ = some (.int .i64 0) := (blk_cell BK267.out 4).trans rfl; have hfz38_0 := blk_frozen BK267.out 0; have hfz38_1 := blk_frozen BK267.out 1; have hfz38_2 := blk_frozen BK267.out 2; have hfz38_3 := blk_frozen BK267.out 3; have hfz38_4 := blk_frozen BK267.out 4))
  have n0_ : Aside0 ((((((w33.setCell ⟨gb267, 0, none⟩ (.int .u64 t261)).setCell ⟨gb267, 1, none⟩ (.int .u64 t262)).setCell ⟨gb267, 2, none⟩ (.int .u64 t263)).setCell ⟨gb267, 3, none⟩ (.int .u64 t264)).setCell ⟨gb267, 4, none⟩ (.int .i64 t265)).heap[gb246]? = some (.cells #[.int .u64 a0_0, .int .u64 a0_1, .int .u64 a0_2, .int .u64 a0_3, .int .i64 a0_4] 40 (0, 0))) := ⟨by (with_reducible repeat (first | refine blk_drewN ?_ _ | refine blk_drew ?_ | refine blk_alloc ?_ _)); refine blk_far ?_ NB246_267.out _; (with_reducible repeat (first | refine blk_drewN ?_ _ | refine blk_drew ?_ | refine blk_alloc ?_ _)); refine blk_far ?_ NB246_267.out _; (with_reducible repeat (first | refine blk_drewN ?_ _ | refine blk_drew ?_ | refine blk_alloc ?_ _)); refine blk_far ?_ NB246_267.out _; (with_reducible repeat (first | refine blk_drewN ?_ _ | refine blk_drew ?_ | refine blk_alloc ?_ _)); refine blk_far ?_ NB246_267.out _; (with_reducible repeat (first | refine blk_drewN ?_ _ | refine blk_drew ?_ | refine blk_alloc ?_ _)); refine blk_far ?_ NB246_267.out _; (with_reducible repeat (first | refine blk_drewN ?_ _ | refine blk_drew ?_ | refine blk_alloc ?_ _)); exact BK246.out⟩
  have n1_ : Aside0 ((((((w33.setCell ⟨gb267, 0, none⟩ (.int .u64 t261)).setCell ⟨gb267, 1, none⟩ (.int .u64 t262)).setCell ⟨gb267, 2, none⟩ (.int .u64 t263)).setCell ⟨gb267, 3, none⟩ (.int .u64 t264)).setCell ⟨gb267, 4, none⟩ (.int .i64 t265)).heap[gb247]? = some (.cells #[.int .u64 a1_0, .int .u64 a1_1] 24 (0, 0))) := ⟨by (with_reducible repeat (first | refine blk_drewN ?_ _ | refine blk_drew ?_ | refine blk_alloc ?_ _)); refine blk_far ?_ NB247_267.out _; (with_reducible repeat (first | refine blk_drewN ?_ _ | refine blk_drew ?_ | refine blk_alloc ?_ _)); refine blk_far ?_ NB247_267.out _; (with_reducible repeat (first | refine blk_drewN ?_ _ | refine blk_drew ?_ | refine blk_alloc ?_ _)); refine blk_far ?_ NB247_267.out _; (with_reducible repeat (first | refine blk_drewN ?_ _ | refine blk_drew ?_ | refine blk_alloc ?_ _)); refine blk_far ?_ NB247_267.out _; (with_reducible repeat (first | refine blk_drewN ?_ _ | refine blk_drew ?_ | refine blk_alloc ?_ _)); refine blk_far ?_ NB247_267.out _; (with_reducible repeat (first | refine blk_drewN ?_ _ | refine blk_drew ?_ | refine blk_alloc ?_ _)); exact BK247.out⟩
  have n2_ : Aside0 ((((((w33.setCell ⟨gb267, 0, none⟩ (.int .u64 t261)).setCell ⟨gb267, 1, none⟩ (.int .u64 t262)).setCell ⟨gb267, 2, none⟩ (.int .u64 t263)).setCell ⟨gb267, 3, none⟩ (.int .u64 t264)).setCell ⟨gb267, 4, none⟩ (.int .i64 t265)).heap[gb248]? = some (.cells #[.int .u64 a2_0, .int .u64 a2_1] 24 (0, 0))) := ⟨by (with_reducible repeat (first | refine blk_drewN ?_ _ | refine blk_drew ?_ | refine blk_alloc ?_ _)); refine blk_far ?_ NB248_267.out _; (with_reducible repeat (first | refine blk_drewN ?_ _ | refine blk_drew ?_ | refine blk_alloc ?_ _)); refine blk_far ?_ NB248_267.out _; (with_reducible repeat (first | refine blk_drewN ?_ _ | refine blk_drew ?_ | refine blk_alloc ?_ _)); refine blk_far ?_ NB248_267.out _; (with_reducible repeat (first | refine blk_drewN ?_ _ | refine blk_drew ?_ | refine blk_alloc ?_ _)); refine blk_far ?_ NB248_267.out _; (with_reducible repeat (first | refine blk_drewN ?_ _ | refine blk_drew ?_ | refine blk_alloc ?_ _)); refine blk_far ?_ NB248_267.out _; (with_reducible repeat (first | refine blk_drewN ?_ _ | refine blk_drew ?_ | refine blk_alloc ?_ _)); exact BK248.out⟩
  have n3_ : Aside0 ((((((w33.setCell ⟨gb267, 0, none⟩ (.int .u64 t261)).setCell ⟨gb267, 1, none⟩ (.int .u64 t262)).setCell ⟨gb267, 2, none⟩ (.int .u64 t263)).setCell ⟨gb267, 3, none⟩ (.int .u64 t264)).setCell ⟨gb267, 4, none⟩ (.int .i64 t265)).heap[gb260]? = some (.cells #[.int .u64 t254, .int .u64 t255, .int .u64 t256, .int .u64 t257, .int .i64 t258] 42 (0, 0))) := ⟨by (with_reducible repeat (first | refine blk_drewN ?_ _ | refine blk_drew ?_ | refine blk_alloc ?_ _)); refine blk_far ?_ NB260_267.out _; (with_reducible repeat (first | refine blk_drewN ?_ _ | refine blk_drew ?_ | refine blk_alloc ?_ _)); refine blk_far ?_ NB260_267.out _; (with_reducible repeat (first | refine blk_drewN ?_ _ | refine blk_drew ?_ | refine blk_alloc ?_ _)); refine blk_far ?_ NB260_267.out _; (with_reducible repeat (first | refine blk_drewN ?_ _ | refine blk_drew ?_ | refine blk_alloc ?_ _)); refine blk_far ?_ NB260_267.out _; (with_reducible repeat (first | refine blk_drewN ?_ _ | refine blk_drew ?_ | refine blk_alloc ?_ _)); refine blk_far ?_ NB260_267.out _; (with_reducible repeat (first | refine blk_drewN ?_ _ | refine blk_drew ?_ | refine blk_alloc ?_ _)); exact BK260.out⟩
  have n4_ : Aside0 ((((((w33.setCell ⟨gb267, 0, none⟩ (.int .u64 t261)).setCell ⟨gb267, 1, none⟩ (.int .u64 t262)).setCell ⟨gb267, 2, none⟩ (.int .u64 t263)).setCell ⟨gb267, 3, none⟩ (.int .u64 t264)).setCell ⟨gb267, 4, none⟩ (.int .i64 t265)).heap[gb267]? = some (.cells #[.int .u64 t261, .int .u64 t262, .int .u64 t263, .int .u64 t264, .int .i64 t265] 42 (0, 0))) := ⟨by (with_reducible repeat (first | refine blk_drewN ?_ _ | refine blk_drew ?_ | refine blk_alloc ?_ _)); refine blk_put (cs := #[.int .u64 t261, .int .u64 t262, .int .u64 t263, .int .u64 t264, .int .i64 0]) ?_ 4 _ rfl; (with_reducible repeat (first | refine blk_drewN ?_ _ | refine blk_drew ?_ | refine blk_alloc ?_ _)); refine blk_put (cs := #[.int .u64 t261, .int .u64 t262, .int .u64 t263, .int .u64 0, .int .i64 0]) ?_ 3 _ rfl; (with_reducible repeat (first | refine blk_drewN ?_ _ | refine blk_drew ?_ | refine blk_alloc ?_ _)); refine blk_put (cs := #[.int .u64 t261, .int .u64 t262, .int .u64 0, .int .u64 0, .int .i64 0]) ?_ 2 _ rfl; (with_reducible repeat (first | refine blk_drewN ?_ _ | refine blk_drew ?_ | refine blk_alloc ?_ _)); refine blk_put (cs := #[.int .u64 t261, .int .u64 0, .int .u64 0, .int .u64 0, .int .i64 0]) ?_ 1 _ rfl; (with_reducible repeat (first | refine blk_drewN ?_ _ | refine blk_drew ?_ | refine blk_alloc ?_ _)); refine blk_put (cs := #[.int .u64 0, .int .u64 0, .int .u64 0, .int .u64 0, .int .i64 0]) ?_ 0 _ rfl; (with_reducible repeat (first | refine blk_drewN ?_ _ | refine blk_drew ?_ | refine blk_alloc ?_ _)); exact BK267.out⟩
  have n5_ : Aside0 (Below w.heap.size w (((((w33.setCell ⟨gb267, 0, none⟩ (.int .u64 t261)).setCell ⟨gb267, 1, none⟩ (.int .u64 t262)).setCell ⟨gb267, 2, none⟩ (.int .u64 t263)).setCell ⟨gb267, 3, none⟩ (.int .u64 t264)).setCell ⟨gb267, 4, none⟩ (.int .i64 t265))) := ⟨by repeat (first | (with_reducible first | exact HB.out | apply below_alloc | apply pw_below_drewN | apply below_drew1 | refine below_set ?_ GE246.out | refine below_set ?_ GE247.out | refine below_set ?_ GE248.out | refine below_set ?_ GE260.out | refine below_set ?_ GE267.out) | exact HB.out)⟩
  (try clear BK246)
  (try clear BK247)
  (try clear BK248)
  (try clear BK260)
  (try clear BK267)
  (try clear HB)
  generalize (((((w33.setCell ⟨gb267, 0, none⟩ (.int .u64 t261)).setCell ⟨gb267, 1, none⟩ (.int .u64 t262)).setCell ⟨gb267, 2, none⟩ (.int .u64 t263)).setCell ⟨gb267, 3, none⟩ (.int .u64 t264)).setCell ⟨gb267, 4, none⟩ (.int .i64 t265)) = w39 at n0_ n1_ n2_ n3_ n4_ n5_ ⊢
  have BK246 := n0_
  have BK247 := n1_
  have BK248 := n2_
  have BK260 := n3_
  have BK267 := n4_
  have HB := n5_
  clear n0_ n1_ n2_ n3_ n4_ n5_
  have n0_ := Aside0.mk (blk_drew BK246.out)
  have n1_ := Aside0.mk (blk_drew BK247.out)
  have n2_ := Aside0.mk (blk_drew BK248.out)
  have n3_ := Aside0.mk (blk_drew BK260.out)
  have n4_ := Aside0.mk (blk_drew BK267.out)
  have n5_ := Aside0.mk (below_drew1 HB.out)
  clear BK246
  clear BK247
  clear BK248
  clear BK260
  clear BK267
  clear HB
  have BK246 := n0_
  have BK247 := n1_
  have BK248 := n2_
  have BK260 := n3_
  have BK267 := n4_
  have HB := n5_
  clear n0_ n1_ n2_ n3_ n4_ n5_
  refine start_ (n := 11) (S := fun w' => w'.cell? ⟨gb246, 0, none⟩ = some (.int .u64 a0_0) ∧ w'.cell? ⟨gb246, 1, none⟩ = some (.int .u64 a0_1) ∧ w'.cell? ⟨gb246, 2, none⟩ = some (.int .u64 a0_2) ∧ w'.cell? ⟨gb246, 3, none⟩ = some (.int .u64 a0_3) ∧ w'.cell? ⟨gb246, 4, none⟩ = some (.int .i64 a0_4) ∧ w'.cell? ⟨gb247, 0, none⟩ = some (.int .u64 a1_0) ∧ w'.cell? ⟨gb247, 1, none⟩ = some (.int .u64 a1_1)) (ds := []) #[false, false, false, false, false, false, false, false, false, false, false] (by kernel_rfl) rfl rfl ⟨(blk_cell BK246.out 0).trans rfl, (blk_cell BK246.out 1).trans rfl, (blk_cell BK246.out 2).trans rfl, (blk_cell BK246.out 3).trans rfl, (blk_cell BK246.out 4).trans rfl, (blk_cell BK247.out 0).trans rfl, (blk_cell BK247.out 1).trans rfl⟩ (fun hHeld => ?_); refine with_tabW winnowlaw12_RegisterAgain.tab3 winnowlaw12_RegisterAgain.bits3 (fun HT_ HW_ => ?_)
  generalize w39.drew = w40 at BK246 BK247 BK248 BK260 BK267 HB hHeld ⊢
  refine pure_ (i := 3) (N := some 38) (v := ?_) (a' := ?_) #[false, false, false, true, false, false, false, false, false, false, false] rfl rfl (any_of HT_.out (by kernel_rfl)) (fun _ _ _ h => h) (Or.inl ⟨by rfl, ?_⟩) ?_ ?_
  rotate_left
  · intro w'
    go_simp
    with_reducible rfl
  rotate_left
  · simp only [Act.put, List.setIfInBounds_toArray, List.set_cons_zero, List.set_cons_succ, i64_w, i32_w]
    rfl
  refine take_ (i := 0) (N := some 35) (v := ?_) (a' := ?_) #[true, false, false, true, false, false, false, false, false, false, false] rfl rfl (take_ofW HT_.out HW_.out (by kernel_rfl)) (fun _ _ _ h => h) (Or.inl ⟨by rfl, ?_⟩) hHeld ?_ ?_
  rotate_left
  · rintro w' ⟨s0, s1, s2, s3, s4, s5, s6⟩
    go_simp
    with_reducible rfl
  rotate_left
  · simp only [Act.put, List.setIfInBounds_toArray, List.set_cons_zero, List.set_cons_succ, i64_w, i32_w]
    rfl
  refine take_ (i := 2) (N := some 37) (v := ?_) (a' := ?_) #[true, false, true, true, false, false, false, false, false, false, false] rfl rfl (take_ofW HT_.out HW_.out (by kernel_rfl)) (fun _ _ _ h => h) (Or.inl ⟨by rfl, ?_⟩) hHeld ?_ ?_
  rotate_left
  · rintro w' ⟨s0, s1, s2, s3, s4, s5, s6⟩
    go_simp
    with_reducible rfl
  rotate_left
  · simp only [Act.put, List.setIfInBounds_toArray, List.set_cons_zero, List.set_cons_succ, i64_w, i32_w]
    rfl
  refine join_ (σ := Nat) 2 #[true, true, true, true, true, true, true, true, true, false, false] (fun s_ => [(36, .agg #[.int .u64 t268, .int .u64 t269, .int .u64 t270, .int .u64 t271, .int .i64 t272]), (39, .tuple #[.agg #[.int .u64 t273, .int .u64 t274, .int .u64 t275, .int .u64 t276, .int .i64 t277], .bool t278]), (13, .pointer (some ⟨s_, 0, none⟩)), (34, .tuple #[.agg #[.int .u64 t273, .int .u64 t274, .int .u64 t275, .int .u64 t276, .int .i64 t277], .bool t278]), (40, .agg #[.int .u64 t273, .int .u64 t274, .int .u64 t275, .int .u64 t276, .int .i64 t277]), (41, .bool t278)]) (fun s_ w' => (w'.cell? ⟨gb246, 0, none⟩ = some (.int .u64 a0_0) ∧ w'.cell? ⟨gb246, 1, none⟩ = some (.int .u64 a0_1) ∧ w'.cell? ⟨gb246, 2, none⟩ = some (.int .u64 a0_2) ∧ w'.cell? ⟨gb246, 3, none⟩ = some (.int .u64 a0_3) ∧ w'.cell? ⟨gb246, 4, none⟩ = some (.int .i64 a0_4) ∧ w'.cell? ⟨gb247, 0, none⟩ = some (.int .u64 a1_0) ∧ w'.cell? ⟨gb247, 1, none⟩ = some (.int .u64 a1_1)) ∧ (w'.heap[gb246]? = some (.cells #[.int .u64 a0_0, .int .u64 a0_1, .int .u64 a0_2, .int .u64 a0_3, .int .i64 a0_4] 40 (0, 0))) ∧ (w'.heap[gb247]? = some (.cells #[.int .u64 a1_0, .int .u64 a1_1] 24 (0, 0))) ∧ (w'.heap[gb248]? = some (.cells #[.int .u64 a2_0, .int .u64 a2_1] 24 (0, 0))) ∧ (w'.heap[gb260]? = some (.cells #[.int .u64 t254, .int .u64 t255, .int .u64 t256, .int .u64 t257, .int .i64 t258] 42 (0, 0))) ∧ (w'.heap[gb267]? = some (.cells #[.int .u64 t261, .int .u64 t262, .int .u64 t263, .int .u64 t264, .int .i64 t265] 42 (0, 0))) ∧ (w'.heap[s_]? = some (.cells #[.int .u64 0, .int .u64 0, .int .u64 0, .int .u64 0, .int .i64 0] 42 (0, 0))) ∧ (w.heap.size ≤ s_) ∧ (w.heap.size ≤ s_) ∧ (gb246 ≠ s_) ∧ (s_ ≠ gb246) ∧ (gb247 ≠ s_) ∧ (s_ ≠ gb247) ∧ (gb248 ≠ s_) ∧ (s_ ≠ gb248) ∧ (gb260 ≠ s_) ∧ (s_ ≠ gb260) ∧ (gb267 ≠ s_) ∧ (s_ ≠ gb267) ∧ (Below w.heap.size w w')) ?_ ?_
  rotate_left
  · intro hCont
    refine two_ (i := 1) (j := 8) (Ni := some 36) (Nj := some 13) #[true, true, true, true, false, false, false, false, false, false, false] #[true, false, true, true, false, false, false, false, true, false, false] rfl rfl rfl rfl (two_of HT_.out (by kernel_rfl)) (by decide) (by decide) (fun K hK => ?_) (fun K hK => ?_)
    · skip
      refine goes_ Try.func23 (by kernel_rfl) rfl #[.agg #[.int .u64 a0_0, .int .u64 a0_1, .int .u64 a0_2, .int .u64 a0_3, .int .i64 a0_4]] (by rfl) rfl rfl (by (try simp only [List.map_toArray, List.map_cons, List.map_nil]); first | done | rfl | (simp only [List.length_drop, List.length_take]; rfl)) ?_
      with_reducible refine (winnowlaw12_own.calls a0_0 a0_1 a0_2 a0_3 a0_4 t268 t269 t270 t271 t272 _ A8.out).mono ?_
      rintro e w41 ⟨rfl, hb⟩
      refine ⟨_, rfl, ?_⟩
      have n0_ := Aside0.mk (blk_below (g := gb246) (o := .cells #[.int .u64 a0_0, .int .u64 a0_1, .int .u64 a0_2, .int .u64 a0_3, .int .i64 a0_4] 40 (0, 0)) (by (with_reducible repeat (first | refine blk_drewN ?_ _ | refine blk_drew ?_ | refine blk_alloc ?_ _)); exact BK246.out) hb)
      have n1_ := Aside0.mk (blk_below (g := gb247) (o := .cells #[.int .u64 a1_0, .int .u64 a1_1] 24 (0, 0)) (by (with_reducible repeat (first | refine blk_drewN ?_ _ | refine blk_drew ?_ | refine blk_alloc ?_ _)); exact BK247.out) hb)
      have n2_ := Aside0.mk (blk_below (g := gb248) (o := .cells #[.int .u64 a2_0, .int .u64 a2_1] 24 (0, 0)) (by (with_reducible repeat (first | refine blk_drewN ?_ _ | refine blk_drew ?_ | refine blk_alloc ?_ _)); exact BK248.out) hb)
      have n3_ := Aside0.mk (blk_below (g := gb260) (o := .cells #[.int .u64 t254, .int .u64 t255, .int .u64 t256, .int .u64 t257, .int .i64 t258] 42 (0, 0)) (by (with_reducible repeat (first | refine blk_drewN ?_ _ | refine blk_drew ?_ | refine blk_alloc ?_ _)); exact BK260.out) hb)
      have n4_ := Aside0.mk (blk_below (g := gb267) (o := .cells #[.int .u64 t261, .int .u64 t262, .int .u64 t263, .int .u64 t264, .int .i64 t265] 42 (0, 0)) (by (with_reducible repeat (first | refine blk_drewN ?_ _ | refine blk_drew ?_ | refine blk_alloc ?_ _)); exact BK267.out) hb)
      have n5_ := Aside0.mk (below_step (by repeat (first | (with_reducible first | exact HB.out | apply below_alloc | apply pw_below_drewN | apply below_drew1 | refine below_set ?_ GE246.out | refine below_set ?_ GE247.out | refine below_set ?_ GE248.out | refine below_set ?_ GE260.out | refine below_set ?_ GE267.out) | exact HB.out)) hb)
      clear BK246
      clear BK247
      clear BK248
      clear BK260
      clear BK267
      clear HB
      have BK246 := n0_
      have BK247 := n1_
      have BK248 := n2_
      have BK260 := n3_
      have BK267 := n4_
      have HB := n5_
      clear n0_ n1_ n2_ n3_ n4_ n5_
      (try clear hb)
      (try clear hb2)
      (try clear hk)
      (try clear hi)
      refine hK.out _ _ ⟨(blk_cell BK246.out 0).trans rfl, (blk_cell BK246.out 1).trans rfl, (blk_cell BK246.out 2).trans rfl, (blk_cell BK246.out 3).trans rfl, (blk_cell BK246.out 4).trans rfl, (blk_cell BK247.out 0).trans rfl, (blk_cell BK247.out 1).trans rfl⟩ (fun hHeld => ?_)
      clear hK K
      refine norm_ (a' := ?_) ?_ ?_
      rotate_left
      · show Act.put _ (some 36) _ = _
        simp only [Act.put, List.setIfInBounds_toArray, List.set_cons_zero, List.set_cons_succ, i64_w, i32_w]
        rfl
      refine two_ (i := 4) (j := 8) (Ni := some 39) (Nj := some 13) #[true, true, true, true, true, false, false, false, false, false, false] #[true, true, true, true, false, false, false, false, true, false, false] rfl rfl rfl rfl (two_of HT_.out (by kernel_rfl)) (by decide) (by decide) (fun K hK => ?_) (fun K hK => ?_)
      · skip
        refine goes_ Try.func24 (by kernel_rfl) rfl #[.agg #[.int .u64 t268, .int .u64 t269, .int .u64 t270, .int .u64 t271, .int .i64 t272], .agg #[.int .u64 a1_0, .int .u64 a1_1], .int .i64 a3] (by rfl) rfl rfl (by (try simp only [List.map_toArray, List.map_cons, List.map_nil]); first | done | rfl | (simp only [List.length_drop, List.length_take]; rfl)) ?_
        with_reducible refine (register_Accept.calls k t268 t269 t270 t271 t272 a1_0 a1_1 a3 t273 t274 t275 t276 t277 t278 _ A9.out).mono ?_
        rintro e w42 ⟨rfl, hb⟩
        refine ⟨_, rfl, ?_⟩
        have n0_ := Aside0.mk (blk_below (g := gb246) (o := .cells #[.int .u64 a0_0, .int .u64 a0_1, .int .u64 a0_2, .int .u64 a0_3, .int .i64 a0_4] 40 (0, 0)) (by (with_reducible repeat (first | refine blk_drewN ?_ _ | refine blk_drew ?_ | refine blk_alloc ?_ _)); exact BK246.out) hb)
        have n1_ := Aside0.mk (blk_below (g := gb247) (o := .cells #[.int .u64 a1_0, .int .u64 a1_1] 24 (0, 0)) (by (with_reducible repeat (first | refine blk_drewN ?_ _ | refine blk_drew ?_ | refine blk_alloc ?_ _)); exact BK247.out) hb)
        have n2_ := Aside0.mk (blk_below (g := gb248) (o := .cells #[.int .u64 a2_0, .int .u64 a2_1] 24 (0, 0)) (by (with_reducible repeat (first | refine blk_drewN ?_ _ | refine blk_drew ?_ | refine blk_alloc ?_ _)); exact BK248.out) hb)
        have n3_ := Aside0.mk (blk_below (g := gb260) (o := .cells #[.int .u64 t254, .int .u64 t255, .int .u64 t256, .int .u64 t257, .int .i64 t258] 42 (0, 0)) (by (with_reducible repeat (first | refine blk_drewN ?_ _ | refine blk_drew ?_ | refine blk_alloc ?_ _)); exact BK260.out) hb)
        have n4_ := Aside0.mk (blk_below (g := gb267) (o := .cells #[.int .u64 t261, .int .u64 t262, .int .u64 t263, .int .u64 t264, .int .i64 t265] 42 (0, 0)) (by (with_reducible repeat (first | refine blk_drewN ?_ _ | refine blk_drew ?_ | refine blk_alloc ?_ _)); exact BK267.out) hb)
        have n5_ := Aside0.mk (below_step (by repeat (first | (with_reducible first | exact HB.out | apply below_alloc | apply pw_below_drewN | apply below_drew1 | refine below_set ?_ GE246.out | refine below_set ?_ GE247.out | refine below_set ?_ GE248.out | refine below_set ?_ GE260.out | refine below_set ?_ GE267.out) | exact HB.out)) hb)
        clear BK246
        clear BK247
        clear BK248
        clear BK260
        clear BK267
        clear HB
        have BK246 := n0_
        have BK247 := n1_
        have BK248 := n2_
        have BK260 := n3_
        have BK267 := n4_
        have HB := n5_
        clear n0_ n1_ n2_ n3_ n4_ n5_
        (try clear hb)
        (try clear hb2)
        (try clear hk)
        (try clear hi)
        refine hK.out _ _ ⟨(blk_cell BK246.out 0).trans rfl, (blk_cell BK246.out 1).trans rfl, (blk_cell BK246.out 2).trans rfl, (blk_cell BK246.out 3).trans rfl, (blk_cell BK246.out 4).trans rfl, (blk_cell BK247.out 0).trans rfl, (blk_cell BK247.out 1).trans rfl⟩ (fun hHeld => ?_)
        clear hK K
        refine norm_ (a' := ?_) ?_ ?_
        rotate_left
        · show Act.put _ (some 39) _ = _
          simp only [Act.put, List.setIfInBounds_toArray, List.set_cons_zero, List.set_cons_succ, i64_w, i32_w]
          rfl
        refine pure_ (i := 5) (N := some 34) (v := ?_) (a' := ?_) #[true, true, true, true, true, true, false, false, false, false, false] rfl rfl (any_of HT_.out (by kernel_rfl)) (fun _ _ _ h => h) (Or.inl ⟨by rfl, ?_⟩) ?_ ?_
        rotate_left
        · intro w'
          go_simp
          with_reducible rfl
        rotate_left
        · simp only [Act.put, List.setIfInBounds_toArray, List.set_cons_zero, List.set_cons_succ, i64_w, i32_w]
          rfl
        refine pure_ (i := 6) (N := some 40) (v := ?_) (a' := ?_) #[true, true, true, true, true, true, true, false, false, false, false] rfl rfl (any_of HT_.out (by kernel_rfl)) (fun _ _ _ h => h) (Or.inl ⟨by rfl, ?_⟩) ?_ ?_
        rotate_left
        · intro w'
          go_simp
          with_reducible rfl
        rotate_left
        · simp only [Act.put, List.setIfInBounds_toArray, List.set_cons_zero, List.set_cons_succ, i64_w, i32_w]
          rfl
        refine pure_ (i := 7) (N := some 41) (v := ?_) (a' := ?_) #[true, true, true, true, true, true, true, true, false, false, false] rfl rfl (any_of HT_.out (by kernel_rfl)) (fun _ _ _ h => h) (Or.inl ⟨by rfl, ?_⟩) ?_ ?_
        rotate_left
        · intro w'
          go_simp
          with_reducible rfl
        rotate_left
        · simp only [Act.put, List.setIfInBounds_toArray, List.set_cons_zero, List.set_cons_succ, i64_w, i32_w]
          rfl
        refine one_ (i := 8) (N := some 13) #[true, true, true, true, true, true, true, true, true, false, false] rfl rfl (one_of HT_.out (by kernel_rfl)) (by decide) (fun K hK => ?_)
        refine box_step ?hg (N := 13) ?hd (cs := #[.int .u64 0, .int .u64 0, .int .u64 0, .int .u64 0, .int .i64 0]) (t := 42) ?hr ?_; (case hd => rfl); (case hg => rfl); (case hr => first | (go_simp; done) | (go_simp; rfl))
        intro gb279 hg w43 hbox hb
        have n0_ := Aside0.mk (blk_below (g := gb246) (o := .cells #[.int .u64 a0_0, .int .u64 a0_1, .int .u64 a0_2, .int .u64 a0_3, .int .i64 a0_4] 40 (0, 0)) (by (with_reducible repeat (first | refine blk_drewN ?_ _ | refine blk_drew ?_ | refine blk_alloc ?_ _)); exact BK246.out) hb)
        have n1_ := Aside0.mk (blk_below (g := gb247) (o := .cells #[.int .u64 a1_0, .int .u64 a1_1] 24 (0, 0)) (by (with_reducible repeat (first | refine blk_drewN ?_ _ | refine blk_drew ?_ | refine blk_alloc ?_ _)); exact BK247.out) hb)
        have n2_ := Aside0.mk (blk_below (g := gb248) (o := .cells #[.int .u64 a2_0, .int .u64 a2_1] 24 (0, 0)) (by (with_reducible repeat (first | refine blk_drewN ?_ _ | refine blk_drew ?_ | refine blk_alloc ?_ _)); exact BK248.out) hb)
        have n3_ := Aside0.mk (blk_below (g := gb260) (o := .cells #[.int .u64 t254, .int .u64 t255, .int .u64 t256, .int .u64 t257, .int .i64 t258] 42 (0, 0)) (by (with_reducible repeat (first | refine blk_drewN ?_ _ | refine blk_drew ?_ | refine blk_alloc ?_ _)); exact BK260.out) hb)
        have n4_ := Aside0.mk (blk_below (g := gb267) (o := .cells #[.int .u64 t261, .int .u64 t262, .int .u64 t263, .int .u64 t264, .int .i64 t265] 42 (0, 0)) (by (with_reducible repeat (first | refine blk_drewN ?_ _ | refine blk_drew ?_ | refine blk_alloc ?_ _)); exact BK267.out) hb)
        have n5_ := Aside0.mk (below_step (by repeat (first | (with_reducible first | exact HB.out | apply below_alloc | apply pw_below_drewN | apply below_drew1 | refine below_set ?_ GE246.out | refine below_set ?_ GE247.out | refine below_set ?_ GE248.out | refine below_set ?_ GE260.out | refine below_set ?_ GE267.out) | exact HB.out)) hb)
        have n6_ := Aside0.mk (hbox)
        have n7_ := Aside0.mk ((by rw [hg]; exact (below_size (by repeat (first | (with_reducible first | exact HB.out | apply below_alloc | apply pw_below_drewN | apply below_drew1 | refine below_set ?_ GE246.out | refine below_set ?_ GE247.out | refine below_set ?_ GE248.out | refine below_set ?_ GE260.out | refine below_set ?_ GE267.out) | exact HB.out))) : w.heap.size ≤ gb279))
        have n8_ := Aside0.mk ((by rw [hg]; exact (below_size (by repeat (first | (with_reducible first | exact HB.out | apply below_alloc | apply pw_below_drewN | apply below_drew1 | refine below_set ?_ GE246.out | refine below_set ?_ GE247.out | refine below_set ?_ GE248.out | refine below_set ?_ GE260.out | refine below_set ?_ GE267.out) | exact HB.out))) : w.heap.size ≤ gb279))
        have n9_ := Aside0.mk ((by rw [hg]; exact Nat.ne_of_lt (blk_lt (g := gb246) (o := .cells #[.int .u64 a0_0, .int .u64 a0_1, .int .u64 a0_2, .int .u64 a0_3, .int .i64 a0_4] 40 (0, 0)) (by (with_reducible repeat (first | refine blk_drewN ?_ _ | refine blk_drew ?_ | refine blk_alloc ?_ _)); exact BK246.out)) : gb246 ≠ gb279))
        have n10_ := Aside0.mk ((by rw [hg]; exact Nat.ne_of_gt (blk_lt (g := gb246) (o := .cells #[.int .u64 a0_0, .int .u64 a0_1, .int .u64 a0_2, .int .u64 a0_3, .int .i64 a0_4] 40 (0, 0)) (by (with_reducible repeat (first | refine blk_drewN ?_ _ | refine blk_drew ?_ | refine blk_alloc ?_ _)); exact BK246.out)) : gb279 ≠ gb246))
        have n11_ := Aside0.mk ((by rw [hg]; exact Nat.ne_of_lt (blk_lt (g := gb247) (o := .cells #[.int .u64 a1_0, .int .u64 a1_1] 24 (0, 0)) (by (with_reducible repeat (first | refine blk_drewN ?_ _ | refine blk_drew ?_ | refine blk_alloc ?_ _)); exact BK247.out)) : gb247 ≠ gb279))
        have n12_ := Aside0.mk ((by rw [hg]; exact Nat.ne_of_gt (blk_lt (g := gb247) (o := .cells #[.int .u64 a1_0, .int .u64 a1_1] 24 (0, 0)) (by (with_reducible repeat (first | refine blk_drewN ?_ _ | refine blk_drew ?_ | refine blk_alloc ?_ _)); exact BK247.out)) : gb279 ≠ gb247))
        have n13_ := Aside0.mk ((by rw [hg]; exact Nat.ne_of_lt (blk_lt (g := gb248) (o := .cells #[.int .u64 a2_0, .int .u64 a2_1] 24 (0, 0)) (by (with_reducible repeat (first | refine blk_drewN ?_ _ | refine blk_drew ?_ | refine blk_alloc ?_ _)); exact BK248.out)) : gb248 ≠ gb279))
        have n14_ := Aside0.mk ((by rw [hg]; exact Nat.ne_of_gt (blk_lt (g := gb248) (o := .cells #[.int .u64 a2_0, .int .u64 a2_1] 24 (0, 0)) (by (with_reducible repeat (first | refine blk_drewN ?_ _ | refine blk_drew ?_ | refine blk_alloc ?_ _)); exact BK248.out)) : gb279 ≠ gb248))
        have n15_ := Aside0.mk ((by rw [hg]; exact Nat.ne_of_lt (blk_lt (g := gb260) (o := .cells #[.int .u64 t254, .int .u64 t255, .int .u64 t256, .int .u64 t257, .int .i64 t258] 42 (0, 0)) (by (with_reducible repeat (first | refine blk_drewN ?_ _ | refine blk_drew ?_ | refine blk_alloc ?_ _)); exact BK260.out)) : gb260 ≠ gb279))
        have n16_ := Aside0.mk ((by rw [hg]; exact Nat.ne_of_gt (blk_lt (g := gb260) (o := .cells #[.int .u64 t254, .int .u64 t255, .int .u64 t256, .int .u64 t257, .int .i64 t258] 42 (0, 0)) (by (with_reducible repeat (first | refine blk_drewN ?_ _ | refine blk_drew ?_ | refine blk_alloc ?_ _)); exact BK260.out)) : gb279 ≠ gb260))
        have n17_ := Aside0.mk ((by rw [hg]; exact Nat.ne_of_lt (blk_lt (g := gb267) (o := .cells #[.int .u64 t261, .int .u64 t262, .int .u64 t263, .int .u64 t264, .int .i64 t265] 42 (0, 0)) (by (with_reducible repeat (first | refine blk_drewN ?_ _ | refine blk_drew ?_ | refine blk_alloc ?_ _)); exact BK267.out)) : gb267 ≠ gb279))
        have n18_ := Aside0.mk ((by rw [hg]; exact Nat.ne_of_gt (blk_lt (g := gb267) (o := .cells #[.int .u64 t261, .int .u64 t262, .int .u64 t263, .int .u64 t264, .int .i64 t265] 42 (0, 0)) (by (with_reducible repeat (first | refine blk_drewN ?_ _ | refine blk_drew ?_ | refine blk_alloc ?_ _)); exact BK267.out)) : gb279 ≠ gb267))
        clear BK246
        clear BK247
        clear BK248
        clear BK260
        clear BK267
        clear HB
        have BK246 := n0_
        have BK247 := n1_
        have BK248 := n2_
        have BK260 := n3_
        have BK267 := n4_
        have HB := n5_
        have BK279 := n6_
        have GW279 := n7_
        have GE279 := n8_
        have NB246_279 := n9_
        have NB279_246 := n10_
        have NB247_279 := n11_
        have NB279_247 := n12_
        have NB248_279 := n13_
        have NB279_248 := n14_
        have NB260_279 := n15_
        have NB279_260 := n16_
        have NB267_279 := n17_
        have NB279_267 := n18_
        clear n0_ n1_ n2_ n3_ n4_ n5_ n6_ n7_ n8_ n9_ n10_ n11_ n12_ n13_ n14_ n15_ n16_ n17_ n18_
        clear hb hbox hg
        refine hK.out _ _ ⟨(blk_cell BK246.out 0).trans rfl, (blk_cell BK246.out 1).trans rfl, (blk_cell BK246.out 2).trans rfl, (blk_cell BK246.out 3).trans rfl, (blk_cell BK246.out 4).trans rfl, (blk_cell BK247.out 0).trans rfl, (blk_cell BK247.out 1).trans rfl⟩ (fun hHeld => ?_)
        clear hK K
        refine norm_ (a' := ?_) ?_ ?_
        rotate_left
        · show Act.put _ (some 13) _ = _
          simp only [Act.put, List.setIfInBounds_toArray, List.set_cons_zero, List.set_cons_succ, i64_w, i32_w]
          rfl
        exact norm_ (by simp only [putAll, Act.put, List.setIfInBounds_toArray, List.set_cons_zero, List.set_cons_succ]) (hCont (gb279) _ ⟨hHeld, (by (with_reducible repeat (first | refine blk_drewN ?_ _ | refine blk_drew ?_ | refine blk_alloc ?_ _)); exact BK246.out), (by (with_reducible repeat (first | refine blk_drewN ?_ _ | refine blk_drew ?_ | refine blk_alloc ?_ _)); exact BK247.out), (by (with_reducible repeat (first | refine blk_drewN ?_ _ | refine blk_drew ?_ | refine blk_alloc ?_ _)); exact BK248.out), (by (with_reducible repeat (first | refine blk_drewN ?_ _ | refine blk_drew ?_ | refine blk_alloc ?_ _)); exact BK260.out), (by (with_reducible repeat (first | refine blk_drewN ?_ _ | refine blk_drew ?_ | refine blk_alloc ?_ _)); exact BK267.out), (by (with_reducible repeat (first | refine blk_drewN ?_ _ | refine blk_drew ?_ | refine blk_alloc ?_ _)); exact BK279.out), GW279.out, GE279.out, NB246_279.out, NB279_246.out, NB247_279.out, NB279_247.out, NB248_279.out, NB279_248.out, NB260_279.out, NB279_260.out, NB267_279.out, NB279_267.out, (by repeat (first | (with_reducible first | exact HB.out | apply below_alloc | apply pw_below_drewN | apply below_drew1 | refine below_set ?_ GE246.out | refine below_set ?_ GE247.out | refine below_set ?_ GE248.out | refine below_set ?_ GE260.out | refine below_set ?_ GE267.out | refine below_set ?_ GE279.out) | exact HB.out))⟩)
      · skip
        refine box_step ?hg (N := 13) ?hd (cs := #[.int .u64 0, .int .u64 0, .int .u64 0, .int .u64 0, .int .i64 0]) (t := 42) ?hr ?_; (case hd => rfl); (case hg => rfl); (case hr => first | (go_simp; done) | (go_simp; rfl))
        intro gb279 hg w42 hbox hb
        have n0_ := Aside0.mk (blk_below (g := gb246) (o := .cells #[.int .u64 a0_0, .int .u64 a0_1, .int .u64 a0_2, .int .u64 a0_3, .int .i64 a0_4] 40 (0, 0)) (by (with_reducible repeat (first | refine blk_drewN ?_ _ | refine blk_drew ?_ | refine blk_alloc ?_ _)); exact BK246.out) hb)
        have n1_ := Aside0.mk (blk_below (g := gb247) (o := .cells #[.int .u64 a1_0, .int .u64 a1_1] 24 (0, 0)) (by (with_reducible repeat (first | refine blk_drewN ?_ _ | refine blk_drew ?_ | refine blk_alloc ?_ _)); exact BK247.out) hb)
        have n2_ := Aside0.mk (blk_below (g := gb248) (o := .cells #[.int .u64 a2_0, .int .u64 a2_1] 24 (0, 0)) (by (with_reducible repeat (first | refine blk_drewN ?_ _ | refine blk_drew ?_ | refine blk_alloc ?_ _)); exact BK248.out) hb)
        have n3_ := Aside0.mk (blk_below (g := gb260) (o := .cells #[.int .u64 t254, .int .u64 t255, .int .u64 t256, .int .u64 t257, .int .i64 t258] 42 (0, 0)) (by (with_reducible repeat (first | refine blk_drewN ?_ _ | refine blk_drew ?_ | refine blk_alloc ?_ _)); exact BK260.out) hb)
        have n4_ := Aside0.mk (blk_below (g := gb267) (o := .cells #[.int .u64 t261, .int .u64 t262, .int .u64 t263, .int .u64 t264, .int .i64 t265] 42 (0, 0)) (by (with_reducible repeat (first | refine blk_drewN ?_ _ | refine blk_drew ?_ | refine blk_alloc ?_ _)); exact BK267.out) hb)
        have n5_ := Aside0.mk (below_step (by repeat (first | (with_reducible first | exact HB.out | apply below_alloc | apply pw_below_drewN | apply below_drew1 | refine below_set ?_ GE246.out | refine below_set ?_ GE247.out | refine below_set ?_ GE248.out | refine below_set ?_ GE260.out | refine below_set ?_ GE267.out) | exact HB.out)) hb)
        have n6_ := Aside0.mk (hbox)
        have n7_ := Aside0.mk ((by rw [hg]; exact (below_size (by repeat (first | (with_reducible first | exact HB.out | apply below_alloc | apply pw_below_drewN | apply below_drew1 | refine below_set ?_ GE246.out | refine below_set ?_ GE247.out | refine below_set ?_ GE248.out | refine below_set ?_ GE260.out | refine below_set ?_ GE267.out) | exact HB.out))) : w.heap.size ≤ gb279))
        have n8_ := Aside0.mk ((by rw [hg]; exact (below_size (by repeat (first | (with_reducible first | exact HB.out | apply below_alloc | apply pw_below_drewN | apply below_drew1 | refine below_set ?_ GE246.out | refine below_set ?_ GE247.out | refine below_set ?_ GE248.out | refine below_set ?_ GE260.out | refine below_set ?_ GE267.out) | exact HB.out))) : w.heap.size ≤ gb279))
        have n9_ := Aside0.mk ((by rw [hg]; exact Nat.ne_of_lt (blk_lt (g := gb246) (o := .cells #[.int .u64 a0_0, .int .u64 a0_1, .int .u64 a0_2, .int .u64 a0_3, .int .i64 a0_4] 40 (0, 0)) (by (with_reducible repeat (first | refine blk_drewN ?_ _ | refine blk_drew ?_ | refine blk_alloc ?_ _)); exact BK246.out)) : gb246 ≠ gb279))
        have n10_ := Aside0.mk ((by rw [hg]; exact Nat.ne_of_gt (blk_lt (g := gb246) (o := .cells #[.int .u64 a0_0, .int .u64 a0_1, .int .u64 a0_2, .int .u64 a0_3, .int .i64 a0_4] 40 (0, 0)) (by (with_reducible repeat (first | refine blk_drewN ?_ _ | refine blk_drew ?_ | refine blk_alloc ?_ _)); exact BK246.out)) : gb279 ≠ gb246))
        have n11_ := Aside0.mk ((by rw [hg]; exact Nat.ne_of_lt (blk_lt (g := gb247) (o := .cells #[.int .u64 a1_0, .int .u64 a1_1] 24 (0, 0)) (by (with_reducible repeat (first | refine blk_drewN ?_ _ | refine blk_drew ?_ | refine blk_alloc ?_ _)); exact BK247.out)) : gb247 ≠ gb279))
        have n12_ := Aside0.mk ((by rw [hg]; exact Nat.ne_of_gt (blk_lt (g := gb247) (o := .cells #[.int .u64 a1_0, .int .u64 a1_1] 24 (0, 0)) (by (with_reducible repeat (first | refine blk_drewN ?_ _ | refine blk_drew ?_ | refine blk_alloc ?_ _)); exact BK247.out)) : gb279 ≠ gb247))
        have n13_ := Aside0.mk ((by rw [hg]; exact Nat.ne_of_lt (blk_lt (g := gb248) (o := .cells #[.int .u64 a2_0, .int .u64 a2_1] 24 (0, 0)) (by (with_reducible repeat (first | refine blk_drewN ?_ _ | refine blk_drew ?_ | refine blk_alloc ?_ _)); exact BK248.out)) : gb248 ≠ gb279))
        have n14_ := Aside0.mk ((by rw [hg]; exact Nat.ne_of_gt (blk_lt (g := gb248) (o := .cells #[.int .u64 a2_0, .int .u64 a2_1] 24 (0, 0)) (by (with_reducible repeat (first | refine blk_drewN ?_ _ | refine blk_drew ?_ | refine blk_alloc ?_ _)); exact BK248.out)) : gb279 ≠ gb248))
        have n15_ := Aside0.mk ((by rw [hg]; exact Nat.ne_of_lt (blk_lt (g := gb260) (o := .cells #[.int .u64 t254, .int .u64 t255, .int .u64 t256, .int .u64 t257, .int .i64 t258] 42 (0, 0)) (by (with_reducible repeat (first | refine blk_drewN ?_ _ | refine blk_drew ?_ | refine blk_alloc ?_ _)); exact BK260.out)) : gb260 ≠ gb279))
        have n16_ := Aside0.mk ((by rw [hg]; exact Nat.ne_of_gt (blk_lt (g := gb260) (o := .cells #[.int .u64 t254, .int .u64 t255, .int .u64 t256, .int .u64 t257, .int .i64 t258] 42 (0, 0)) (by (with_reducible repeat (first | refine blk_drewN ?_ _ | refine blk_drew ?_ | refine blk_alloc ?_ _)); exact BK260.out)) : gb279 ≠ gb260))
        have n17_ := Aside0.mk ((by rw [hg]; exact Nat.ne_of_lt (blk_lt (g := gb267) (o := .cells #[.int .u64 t261, .int .u64 t262, .int .u64 t263, .int .u64 t264, .int .i64 t265] 42 (0, 0)) (by (with_reducible repeat (first | refine blk_drewN ?_ _ | refine blk_drew ?_ | refine blk_alloc ?_ _)); exact BK267.out)) : gb267 ≠ gb279))
        have n18_ := Aside0.mk ((by rw [hg]; exact Nat.ne_of_gt (blk_lt (g := gb267) (o := .cells #[.int .u64 t261, .int .u64 t262, .int .u64 t263, .int .u64 t264, .int .i64 t265] 42 (0, 0)) (by (with_reducible repeat (first | refine blk_drewN ?_ _ | refine blk_drew ?_ | refine blk_alloc ?_ _)); exact BK267.out)) : gb279 ≠ gb267))
        clear BK246
        clear BK247
        clear BK248
        clear BK260
        clear BK267
        clear HB
        have BK246 := n0_
        have BK247 := n1_
        have BK248 := n2_
        have BK260 := n3_
        have BK267 := n4_
        have HB := n5_
        have BK279 := n6_
        have GW279 := n7_
        have GE279 := n8_
        have NB246_279 := n9_
        have NB279_246 := n10_
        have NB247_279 := n11_
        have NB279_247 := n12_
        have NB248_279 := n13_
        have NB279_248 := n14_
        have NB260_279 := n15_
        have NB279_260 := n16_
        have NB267_279 := n17_
        have NB279_267 := n18_
        clear n0_ n1_ n2_ n3_ n4_ n5_ n6_ n7_ n8_ n9_ n10_ n11_ n12_ n13_ n14_ n15_ n16_ n17_ n18_
        clear hb hbox hg
        refine hK.out _ _ ⟨(blk_cell BK246.out 0).trans rfl, (blk_cell BK246.out 1).trans rfl, (blk_cell BK246.out 2).trans rfl, (blk_cell BK246.out 3).trans rfl, (blk_cell BK246.out 4).trans rfl, (blk_cell BK247.out 0).trans rfl, (blk_cell BK247.out 1).trans rfl⟩ (fun hHeld => ?_)
        clear hK K
        refine norm_ (a' := ?_) ?_ ?_
        rotate_left
        · show Act.put _ (some 13) _ = _
          simp only [Act.put, List.setIfInBounds_toArray, List.set_cons_zero, List.set_cons_succ, i64_w, i32_w]
          rfl
        refine one_ (i := 4) (N := some 39) #[true, true, true, true, true, false, false, false, true, false, false] rfl rfl (one_of HT_.out (by kernel_rfl)) (by decide) (fun K hK => ?_)
        refine goes_ Try.func24 (by kernel_rfl) rfl #[.agg #[.int .u64 t268, .int .u64 t269, .int .u64 t270, .int .u64 t271, .int .i64 t272], .agg #[.int .u64 a1_0, .int .u64 a1_1], .int .i64 a3] (by rfl) rfl rfl (by (try simp only [List.map_toArray, List.map_cons, List.map_nil]); first | done | rfl | (simp only [List.length_drop, List.length_take]; rfl)) ?_
        with_reducible refine (register_Accept.calls k t268 t269 t270 t271 t272 a1_0 a1_1 a3 t273 t274 t275 t276 t277 t278 _ A9.out).mono ?_
        rintro e w43 ⟨rfl, hb⟩
        refine ⟨_, rfl, ?_⟩
        have n0_ := Aside0.mk (blk_below (g := gb246) (o := .cells #[.int .u64 a0_0, .int .u64 a0_1, .int .u64 a0_2, .int .u64 a0_3, .int .i64 a0_4] 40 (0, 0)) (by (with_reducible repeat (first | refine blk_drewN ?_ _ | refine blk_drew ?_ | refine blk_alloc ?_ _)); exact BK246.out) hb)
        have n1_ := Aside0.mk (blk_below (g := gb247) (o := .cells #[.int .u64 a1_0, .int .u64 a1_1] 24 (0, 0)) (by (with_reducible repeat (first | refine blk_drewN ?_ _ | refine blk_drew ?_ | refine blk_alloc ?_ _)); exact BK247.out) hb)
        have n2_ := Aside0.mk (blk_below (g := gb248) (o := .cells #[.int .u64 a2_0, .int .u64 a2_1] 24 (0, 0)) (by (with_reducible repeat (first | refine blk_drewN ?_ _ | refine blk_drew ?_ | refine blk_alloc ?_ _)); exact BK248.out) hb)
        have n3_ := Aside0.mk (blk_below (g := gb260) (o := .cells #[.int .u64 t254, .int .u64 t255, .int .u64 t256, .int .u64 t257, .int .i64 t258] 42 (0, 0)) (by (with_reducible repeat (first | refine blk_drewN ?_ _ | refine blk_drew ?_ | refine blk_alloc ?_ _)); exact BK260.out) hb)
        have n4_ := Aside0.mk (blk_below (g := gb267) (o := .cells #[.int .u64 t261, .int .u64 t262, .int .u64 t263, .int .u64 t264, .int .i64 t265] 42 (0, 0)) (by (with_reducible repeat (first | refine blk_drewN ?_ _ | refine blk_drew ?_ | refine blk_alloc ?_ _)); exact BK267.out) hb)
        have n5_ := Aside0.mk (blk_below (g := gb279) (o := .cells #[.int .u64 0, .int .u64 0, .int .u64 0, .int .u64 0, .int .i64 0] 42 (0, 0)) (by (with_reducible repeat (first | refine blk_drewN ?_ _ | refine blk_drew ?_ | refine blk_alloc ?_ _)); exact BK279.out) hb)
        have n6_ := Aside0.mk (below_step (by repeat (first | (with_reducible first | exact HB.out | apply below_alloc | apply pw_below_drewN | apply below_drew1 | refine below_set ?_ GE246.out | refine below_set ?_ GE247.out | refine below_set ?_ GE248.out | refine below_set ?_ GE260.out | refine below_set ?_ GE267.out | refine below_set ?_ GE279.out) | exact HB.out)) hb)
        clear BK246
        clear BK247
        clear BK248
        clear BK260
        clear BK267
        clear BK279
        clear HB
        have BK246 := n0_
        have BK247 := n1_
        have BK248 := n2_
        have BK260 := n3_
        have BK267 := n4_
        have BK279 := n5_
        have HB := n6_
        clear n0_ n1_ n2_ n3_ n4_ n5_ n6_
        (try clear hb)
        (try clear hb2)
        (try clear hk)
        (try clear hi)
        refine hK.out _ _ ⟨(blk_cell BK246.out 0).trans rfl, (blk_cell BK246.out 1).trans rfl, (blk_cell BK246.out 2).trans rfl, (blk_cell BK246.out 3).trans rfl, (blk_cell BK246.out 4).trans rfl, (blk_cell BK247.out 0).trans rfl, (blk_cell BK247.out 1).trans rfl⟩ (fun hHeld => ?_)
        clear hK K
        refine norm_ (a' := ?_) ?_ ?_
        rotate_left
        · show Act.put _ (some 39) _ = _
          simp only [Act.put, List.setIfInBounds_toArray, List.set_cons_zero, List.set_cons_succ, i64_w, i32_w]
          rfl
        refine pure_ (i := 5) (N := some 34) (v := ?_) (a' := ?_) #[true, true, true, true, true, true, false, false, true, false, false] rfl rfl (any_of HT_.out (by kernel_rfl)) (fun _ _ _ h => h) (Or.inl ⟨by rfl, ?_⟩) ?_ ?_
        rotate_left
        · intro w'
          go_simp
          with_reducible rfl
        rotate_left
        · simp only [Act.put, List.setIfInBounds_toArray, List.set_cons_zero, List.set_cons_succ, i64_w, i32_w]
          rfl
        refine pure_ (i := 6) (N := some 40) (v := ?_) (a' := ?_) #[true, true, true, true, true, true, true, false, true, false, false] rfl rfl (any_of HT_.out (by kernel_rfl)) (fun _ _ _ h => h) (Or.inl ⟨by rfl, ?_⟩) ?_ ?_
        rotate_left
        · intro w'
          go_simp
          with_reducible rfl
        rotate_left
        · simp only [Act.put, List.setIfInBounds_toArray, List.set_cons_zero, List.set_cons_succ, i64_w, i32_w]
          rfl
        refine pure_ (i := 7) (N := some 41) (v := ?_) (a' := ?_) #[true, true, true, true, true, true, true, true, true, false, false] rfl rfl (any_of HT_.out (by kernel_rfl)) (fun _ _ _ h => h) (Or.inl ⟨by rfl, ?_⟩) ?_ ?_
        rotate_left
        · intro w'
          go_simp
          with_reducible rfl
        rotate_left
        · simp only [Act.put, List.setIfInBounds_toArray, List.set_cons_zero, List.set_cons_succ, i64_w, i32_w]
          rfl
        exact norm_ (by simp only [putAll, Act.put, List.setIfInBounds_toArray, List.set_cons_zero, List.set_cons_succ]) (hCont (gb279) _ ⟨hHeld, (by (with_reducible repeat (first | refine blk_drewN ?_ _ | refine blk_drew ?_ | refine blk_alloc ?_ _)); exact BK246.out), (by (with_reducible repeat (first | refine blk_drewN ?_ _ | refine blk_drew ?_ | refine blk_alloc ?_ _)); exact BK247.out), (by (with_reducible repeat (first | refine blk_drewN ?_ _ | refine blk_drew ?_ | refine blk_alloc ?_ _)); exact BK248.out), (by (with_reducible repeat (first | refine blk_drewN ?_ _ | refine blk_drew ?_ | refine blk_alloc ?_ _)); exact BK260.out), (by (with_reducible repeat (first | refine blk_drewN ?_ _ | refine blk_drew ?_ | refine blk_alloc ?_ _)); exact BK267.out), (by (with_reducible repeat (first | refine blk_drewN ?_ _ | refine blk_drew ?_ | refine blk_alloc ?_ _)); exact BK279.out), GW279.out, GE279.out, NB246_279.out, NB279_246.out, NB247_279.out, NB279_247.out, NB248_279.out, NB279_248.out, NB260_279.out, NB279_260.out, NB267_279.out, NB279_267.out, (by repeat (first | (with_reducible first | exact HB.out | apply below_alloc | apply pw_below_drewN | apply below_drew1 | refine below_set ?_ GE246.out | refine below_set ?_ GE247.out | refine below_set ?_ GE248.out | refine below_set ?_ GE260.out | refine below_set ?_ GE267.out | refine below_set ?_ GE279.out) | exact HB.out))⟩)
    · skip
      refine box_step ?hg (N := 13) ?hd (cs := #[.int .u64 0, .int .u64 0, .int .u64 0, .int .u64 0, .int .i64 0]) (t := 42) ?hr ?_; (case hd => rfl); (case hg => rfl); (case hr => first | (go_simp; done) | (go_simp; rfl))
      intro gb279 hg w41 hbox hb
      have n0_ := Aside0.mk (blk_below (g := gb246) (o := .cells #[.int .u64 a0_0, .int .u64 a0_1, .int .u64 a0_2, .int .u64 a0_3, .int .i64 a0_4] 40 (0, 0)) (by (with_reducible repeat (first | refine blk_drewN ?_ _ | refine blk_drew ?_ | refine blk_alloc ?_ _)); exact BK246.out) hb)
      have n1_ := Aside0.mk (blk_below (g := gb247) (o := .cells #[.int .u64 a1_0, .int .u64 a1_1] 24 (0, 0)) (by (with_reducible repeat (first | refine blk_drewN ?_ _ | refine blk_drew ?_ | refine blk_alloc ?_ _)); exact BK247.out) hb)
      have n2_ := Aside0.mk (blk_below (g := gb248) (o := .cells #[.int .u64 a2_0, .int .u64 a2_1] 24 (0, 0)) (by (with_reducible repeat (first | refine blk_drewN ?_ _ | refine blk_drew ?_ | refine blk_alloc ?_ _)); exact BK248.out) hb)
      have n3_ := Aside0.mk (blk_below (g := gb260) (o := .cells #[.int .u64 t254, .int .u64 t255, .int .u64 t256, .int .u64 t257, .int .i64 t258] 42 (0, 0)) (by (with_reducible repeat (first | refine blk_drewN ?_ _ | refine blk_drew ?_ | refine blk_alloc ?_ _)); exact BK260.out) hb)
      have n4_ := Aside0.mk (blk_below (g := gb267) (o := .cells #[.int .u64 t261, .int .u64 t262, .int .u64 t263, .int .u64 t264, .int .i64 t265] 42 (0, 0)) (by (with_reducible repeat (first | refine blk_drewN ?_ _ | refine blk_drew ?_ | refine blk_alloc ?_ _)); exact BK267.out) hb)
      have n5_ := Aside0.mk (below_step (by repeat (first | (with_reducible first | exact HB.out | apply below_alloc | apply pw_below_drewN | apply below_drew1 | refine below_set ?_ GE246.out | refine below_set ?_ GE247.out | refine below_set ?_ GE248.out | refine below_set ?_ GE260.out | refine below_set ?_ GE267.out) | exact HB.out)) hb)
      have n6_ := Aside0.mk (hbox)
      have n7_ := Aside0.mk ((by rw [hg]; exact (below_size (by repeat (first | (with_reducible first | exact HB.out | apply below_alloc | apply pw_below_drewN | apply below_drew1 | refine below_set ?_ GE246.out | refine below_set ?_ GE247.out | refine below_set ?_ GE248.out | refine below_set ?_ GE260.out | refine below_set ?_ GE267.out) | exact HB.out))) : w.heap.size ≤ gb279))
      have n8_ := Aside0.mk ((by rw [hg]; exact (below_size (by repeat (first | (with_reducible first | exact HB.out | apply below_alloc | apply pw_below_drewN | apply below_drew1 | refine below_set ?_ GE246.out | refine below_set ?_ GE247.out | refine below_set ?_ GE248.out | refine below_set ?_ GE260.out | refine below_set ?_ GE267.out) | exact HB.out))) : w.heap.size ≤ gb279))
      have n9_ := Aside0.mk ((by rw [hg]; exact Nat.ne_of_lt (blk_lt (g := gb246) (o := .cells #[.int .u64 a0_0, .int .u64 a0_1, .int .u64 a0_2, .int .u64 a0_3, .int .i64 a0_4] 40 (0, 0)) (by (with_reducible repeat (first | refine blk_drewN ?_ _ | refine blk_drew ?_ | refine blk_alloc ?_ _)); exact BK246.out)) : gb246 ≠ gb279))
      have n10_ := Aside0.mk ((by rw [hg]; exact Nat.ne_of_gt (blk_lt (g := gb246) (o := .cells #[.int .u64 a0_0, .int .u64 a0_1, .int .u64 a0_2, .int .u64 a0_3, .int .i64 a0_4] 40 (0, 0)) (by (with_reducible repeat (first | refine blk_drewN ?_ _ | refine blk_drew ?_ | refine blk_alloc ?_ _)); exact BK246.out)) : gb279 ≠ gb246))
      have n11_ := Aside0.mk ((by rw [hg]; exact Nat.ne_of_lt (blk_lt (g := gb247) (o := .cells #[.int .u64 a1_0, .int .u64 a1_1] 24 (0, 0)) (by (with_reducible repeat (first | refine blk_drewN ?_ _ | refine blk_drew ?_ | refine blk_alloc ?_ _)); exact BK247.out)) : gb247 ≠ gb279))
      have n12_ := Aside0.mk ((by rw [hg]; exact Nat.ne_of_gt (blk_lt (g := gb247) (o := .cells #[.int .u64 a1_0, .int .u64 a1_1] 24 (0, 0)) (by (with_reducible repeat (first | refine blk_drewN ?_ _ | refine blk_drew ?_ | refine blk_alloc ?_ _)); exact BK247.out)) : gb279 ≠ gb247))
      have n13_ := Aside0.mk ((by rw [hg]; exact Nat.ne_of_lt (blk_lt (g := gb248) (o := .cells #[.int .u64 a2_0, .int .u64 a2_1] 24 (0, 0)) (by (with_reducible repeat (first | refine blk_drewN ?_ _ | refine blk_drew ?_ | refine blk_alloc ?_ _)); exact BK248.out)) : gb248 ≠ gb279))
      have n14_ := Aside0.mk ((by rw [hg]; exact Nat.ne_of_gt (blk_lt (g := gb248) (o := .cells #[.int .u64 a2_0, .int .u64 a2_1] 24 (0, 0)) (by (with_reducible repeat (first | refine blk_drewN ?_ _ | refine blk_drew ?_ | refine blk_alloc ?_ _)); exact BK248.out)) : gb279 ≠ gb248))
      have n15_ := Aside0.mk ((by rw [hg]; exact Nat.ne_of_lt (blk_lt (g := gb260) (o := .cells #[.int .u64 t254, .int .u64 t255, .int .u64 t256, .int .u64 t257, .int .i64 t258] 42 (0, 0)) (by (with_reducible repeat (first | refine blk_drewN ?_ _ | refine blk_drew ?_ | refine blk_alloc ?_ _)); exact BK260.out)) : gb260 ≠ gb279))
      have n16_ := Aside0.mk ((by rw [hg]; exact Nat.ne_of_gt (blk_lt (g := gb260) (o := .cells #[.int .u64 t254, .int .u64 t255, .int .u64 t256, .int .u64 t257, .int .i64 t258] 42 (0, 0)) (by (with_reducible repeat (first | refine blk_drewN ?_ _ | refine blk_drew ?_ | refine blk_alloc ?_ _)); exact BK260.out)) : gb279 ≠ gb260))
      have n17_ := Aside0.mk ((by rw [hg]; exact Nat.ne_of_lt (blk_lt (g := gb267) (o := .cells #[.int .u64 t261, .int .u64 t262, .int .u64 t263, .int .u64 t264, .int .i64 t265] 42 (0, 0)) (by (with_reducible repeat (first | refine blk_drewN ?_ _ | refine blk_drew ?_ | refine blk_alloc ?_ _)); exact BK267.out)) : gb267 ≠ gb279))
      have n18_ := Aside0.mk ((by rw [hg]; exact Nat.ne_of_gt (blk_lt (g := gb267) (o := .cells #[.int .u64 t261, .int .u64 t262, .int .u64 t263, .int .u64 t264, .int .i64 t265] 42 (0, 0)) (by (with_reducible repeat (first | refine blk_drewN ?_ _ | refine blk_drew ?_ | refine blk_alloc ?_ _)); exact BK267.out)) : gb279 ≠ gb267))
      clear BK246
      clear BK247
      clear BK248
      clear BK260
      clear BK267
      clear HB
      have BK246 := n0_
      have BK247 := n1_
      have BK248 := n2_
      have BK260 := n3_
      have BK267 := n4_
      have HB := n5_
      have BK279 := n6_
      have GW279 := n7_
      have GE279 := n8_
      have NB246_279 := n9_
      have NB279_246 := n10_
      have NB247_279 := n11_
      have NB279_247 := n12_
      have NB248_279 := n13_
      have NB279_248 := n14_
      have NB260_279 := n15_
      have NB279_260 := n16_
      have NB267_279 := n17_
      have NB279_267 := n18_
      clear n0_ n1_ n2_ n3_ n4_ n5_ n6_ n7_ n8_ n9_ n10_ n11_ n12_ n13_ n14_ n15_ n16_ n17_ n18_
      clear hb hbox hg
      refine hK.out _ _ ⟨(blk_cell BK246.out 0).trans rfl, (blk_cell BK246.out 1).trans rfl, (blk_cell BK246.out 2).trans rfl, (blk_cell BK246.out 3).trans rfl, (blk_cell BK246.out 4).trans rfl, (blk_cell BK247.out 0).trans rfl, (blk_cell BK247.out 1).trans rfl⟩ (fun hHeld => ?_)
      clear hK K
      refine norm_ (a' := ?_) ?_ ?_
      rotate_left
      · show Act.put _ (some 13) _ = _
        simp only [Act.put, List.setIfInBounds_toArray, List.set_cons_zero, List.set_cons_succ, i64_w, i32_w]
        rfl
      refine one_ (i := 1) (N := some 36) #[true, true, true, true, false, false, false, false, true, false, false] rfl rfl (one_of HT_.out (by kernel_rfl)) (by decide) (fun K hK => ?_)
      refine goes_ Try.func23 (by kernel_rfl) rfl #[.agg #[.int .u64 a0_0, .int .u64 a0_1, .int .u64 a0_2, .int .u64 a0_3, .int .i64 a0_4]] (by rfl) rfl rfl (by (try simp only [List.map_toArray, List.map_cons, List.map_nil]); first | done | rfl | (simp only [List.length_drop, List.length_take]; rfl)) ?_
      with_reducible refine (winnowlaw12_own.calls a0_0 a0_1 a0_2 a0_3 a0_4 t268 t269 t270 t271 t272 _ A8.out).mono ?_
      rintro e w42 ⟨rfl, hb⟩
      refine ⟨_, rfl, ?_⟩
      have n0_ := Aside0.mk (blk_below (g := gb246) (o := .cells #[.int .u64 a0_0, .int .u64 a0_1, .int .u64 a0_2, .int .u64 a0_3, .int .i64 a0_4] 40 (0, 0)) (by (with_reducible repeat (first | refine blk_drewN ?_ _ | refine blk_drew ?_ | refine blk_alloc ?_ _)); exact BK246.out) hb)
      have n1_ := Aside0.mk (blk_below (g := gb247) (o := .cells #[.int .u64 a1_0, .int .u64 a1_1] 24 (0, 0)) (by (with_reducible repeat (first | refine blk_drewN ?_ _ | refine blk_drew ?_ | refine blk_alloc ?_ _)); exact BK247.out) hb)
      have n2_ := Aside0.mk (blk_below (g := gb248) (o := .cells #[.int .u64 a2_0, .int .u64 a2_1] 24 (0, 0)) (by (with_reducible repeat (first | refine blk_drewN ?_ _ | refine blk_drew ?_ | refine blk_alloc ?_ _)); exact BK248.out) hb)
      have n3_ := Aside0.mk (blk_below (g := gb260) (o := .cells #[.int .u64 t254, .int .u64 t255, .int .u64 t256, .int .u64 t257, .int .i64 t258] 42 (0, 0)) (by (with_reducible repeat (first | refine blk_drewN ?_ _ | refine blk_drew ?_ | refine blk_alloc ?_ _)); exact BK260.out) hb)
      have n4_ := Aside0.mk (blk_below (g := gb267) (o := .cells #[.int .u64 t261, .int .u64 t262, .int .u64 t263, .int .u64 t264, .int .i64 t265] 42 (0, 0)) (by (with_reducible repeat (first | refine blk_drewN ?_ _ | refine blk_drew ?_ | refine blk_alloc ?_ _)); exact BK267.out) hb)
      have n5_ := Aside0.mk (blk_below (g := gb279) (o := .cells #[.int .u64 0, .int .u64 0, .int .u64 0, .int .u64 0, .int .i64 0] 42 (0, 0)) (by (with_reducible repeat (first | refine blk_drewN ?_ _ | refine blk_drew ?_ | refine blk_alloc ?_ _)); exact BK279.out) hb)
      have n6_ := Aside0.mk (below_step (by repeat (first | (with_reducible first | exact HB.out | apply below_alloc | apply pw_below_drewN | apply below_drew1 | refine below_set ?_ GE246.out | refine below_set ?_ GE247.out | refine below_set ?_ GE248.out | refine below_set ?_ GE260.out | refine below_set ?_ GE267.out | refine below_set ?_ GE279.out) | exact HB.out)) hb)
      clear BK246
      clear BK247
      clear BK248
      clear BK260
      clear BK267
      clear BK279
      clear HB
      have BK246 := n0_
      have BK247 := n1_
      have BK248 := n2_
      have BK260 := n3_
      have BK267 := n4_
      have BK279 := n5_
      have HB := n6_
      clear n0_ n1_ n2_ n3_ n4_ n5_ n6_
      (try clear hb)
      (try clear hb2)
      (try clear hk)
      (try clear hi)
      refine hK.out _ _ ⟨(blk_cell BK246.out 0).trans rfl, (blk_cell BK246.out 1).trans rfl, (blk_cell BK246.out 2).trans rfl, (blk_cell BK246.out 3).trans rfl, (blk_cell BK246.out 4).trans rfl, (blk_cell BK247.out 0).trans rfl, (blk_cell BK247.out 1).trans rfl⟩ (fun hHeld => ?_)
      clear hK K
      refine norm_ (a' := ?_) ?_ ?_
      rotate_left
      · show Act.put _ (some 36) _ = _
        simp only [Act.put, List.setIfInBounds_toArray, List.set_cons_zero, List.set_cons_succ, i64_w, i32_w]
        rfl
      refine one_ (i := 4) (N := some 39) #[true, true, true, true, true, false, false, false, true, false, false] rfl rfl (one_of HT_.out (by kernel_rfl)) (by decide) (fun K hK => ?_)
      refine goes_ Try.func24 (by kernel_rfl) rfl #[.agg #[.int .u64 t268, .int .u64 t269, .int .u64 t270, .int .u64 t271, .int .i64 t272], .agg #[.int .u64 a1_0, .int .u64 a1_1], .int .i64 a3] (by rfl) rfl rfl (by (try simp only [List.map_toArray, List.map_cons, List.map_nil]); first | done | rfl | (simp only [List.length_drop, List.length_take]; rfl)) ?_
      with_reducible refine (register_Accept.calls k t268 t269 t270 t271 t272 a1_0 a1_1 a3 t273 t274 t275 t276 t277 t278 _ A9.out).mono ?_
      rintro e w43 ⟨rfl, hb⟩
      refine ⟨_, rfl, ?_⟩
      have n0_ := Aside0.mk (blk_below (g := gb246) (o := .cells #[.int .u64 a0_0, .int .u64 a0_1, .int .u64 a0_2, .int .u64 a0_3, .int .i64 a0_4] 40 (0, 0)) (by (with_reducible repeat (first | refine blk_drewN ?_ _ | refine blk_drew ?_ | refine blk_alloc ?_ _)); exact BK246.out) hb)
      have n1_ := Aside0.mk (blk_below (g := gb247) (o := .cells #[.int .u64 a1_0, .int .u64 a1_1] 24 (0, 0)) (by (with_reducible repeat (first | refine blk_drewN ?_ _ | refine blk_drew ?_ | refine blk_alloc ?_ _)); exact BK247.out) hb)
      have n2_ := Aside0.mk (blk_below (g := gb248) (o := .cells #[.int .u64 a2_0, .int .u64 a2_1] 24 (0, 0)) (by (with_reducible repeat (first | refine blk_drewN ?_ _ | refine blk_drew ?_ | refine blk_alloc ?_ _)); exact BK248.out) hb)
      have n3_ := Aside0.mk (blk_below (g := gb260) (o := .cells #[.int .u64 t254, .int .u64 t255, .int .u64 t256, .int .u64 t257, .int .i64 t258] 42 (0, 0)) (by (with_reducible repeat (first | refine blk_drewN ?_ _ | refine blk_drew ?_ | refine blk_alloc ?_ _)); exact BK260.out) hb)
      have n4_ := Aside0.mk (blk_below (g := gb267) (o := .cells #[.int .u64 t261, .int .u64 t262, .int .u64 t263, .int .u64 t264, .int .i64 t265] 42 (0, 0)) (by (with_reducible repeat (first | refine blk_drewN ?_ _ | refine blk_drew ?_ | refine blk_alloc ?_ _)); exact BK267.out) hb)
      have n5_ := Aside0.mk (blk_below (g := gb279) (o := .cells #[.int .u64 0, .int .u64 0, .int .u64 0, .int .u64 0, .int .i64 0] 42 (0, 0)) (by (with_reducible repeat (first | refine blk_drewN ?_ _ | refine blk_drew ?_ | refine blk_alloc ?_ _)); exact BK279.out) hb)
      have n6_ := Aside0.mk (below_step (by repeat (first | (with_reducible first | exact HB.out | apply below_alloc | apply pw_below_drewN | apply below_drew1 | refine below_set ?_ GE246.out | refine below_set ?_ GE247.out | refine below_set ?_ GE248.out | refine below_set ?_ GE260.out | refine below_set ?_ GE267.out | refine below_set ?_ GE279.out) | exact HB.out)) hb)
      clear BK246
      clear BK247
      clear BK248
      clear BK260
      clear BK267
      clear BK279
      clear HB
      have BK246 := n0_
      have BK247 := n1_
      have BK248 := n2_
      have BK260 := n3_
      have BK267 := n4_
      have BK279 := n5_
      have HB := n6_
      clear n0_ n1_ n2_ n3_ n4_ n5_ n6_
      (try clear hb)
      (try clear hb2)
      (try clear hk)
      (try clear hi)
      refine hK.out _ _ ⟨(blk_cell BK246.out 0).trans rfl, (blk_cell BK246.out 1).trans rfl, (blk_cell BK246.out 2).trans rfl, (blk_cell BK246.out 3).trans rfl, (blk_cell BK246.out 4).trans rfl, (blk_cell BK247.out 0).trans rfl, (blk_cell BK247.out 1).trans rfl⟩ (fun hHeld => ?_)
      clear hK K
      refine norm_ (a' := ?_) ?_ ?_
      rotate_left
      · show Act.put _ (some 39) _ = _
        simp only [Act.put, List.setIfInBounds_toArray, List.set_cons_zero, List.set_cons_succ, i64_w, i32_w]
        rfl
      refine pure_ (i := 5) (N := some 34) (v := ?_) (a' := ?_) #[true, true, true, true, true, true, false, false, true, false, false] rfl rfl (any_of HT_.out (by kernel_rfl)) (fun _ _ _ h => h) (Or.inl ⟨by rfl, ?_⟩) ?_ ?_
      rotate_left
      · intro w'
        go_simp
        with_reducible rfl
      rotate_left
      · simp only [Act.put, List.setIfInBounds_toArray, List.set_cons_zero, List.set_cons_succ, i64_w, i32_w]
        rfl
      refine pure_ (i := 6) (N := some 40) (v := ?_) (a' := ?_) #[true, true, true, true, true, true, true, false, true, false, false] rfl rfl (any_of HT_.out (by kernel_rfl)) (fun _ _ _ h => h) (Or.inl ⟨by rfl, ?_⟩) ?_ ?_
      rotate_left
      · intro w'
        go_simp
        with_reducible rfl
      rotate_left
      · simp only [Act.put, List.setIfInBounds_toArray, List.set_cons_zero, List.set_cons_succ, i64_w, i32_w]
        rfl
      refine pure_ (i := 7) (N := some 41) (v := ?_) (a' := ?_) #[true, true, true, true, true, true, true, true, true, false, false] rfl rfl (any_of HT_.out (by kernel_rfl)) (fun _ _ _ h => h) (Or.inl ⟨by rfl, ?_⟩) ?_ ?_
      rotate_left
      · intro w'
        go_simp
        with_reducible rfl
      rotate_left
      · simp only [Act.put, List.setIfInBounds_toArray, List.set_cons_zero, List.set_cons_succ, i64_w, i32_w]
        rfl
      exact norm_ (by simp only [putAll, Act.put, List.setIfInBounds_toArray, List.set_cons_zero, List.set_cons_succ]) (hCont (gb279) _ ⟨hHeld, (by (with_reducible repeat (first | refine blk_drewN ?_ _ | refine blk_drew ?_ | refine blk_alloc ?_ _)); exact BK246.out), (by (with_reducible repeat (first | refine blk_drewN ?_ _ | refine blk_drew ?_ | refine blk_alloc ?_ _)); exact BK247.out), (by (with_reducible repeat (first | refine blk_drewN ?_ _ | refine blk_drew ?_ | refine blk_alloc ?_ _)); exact BK248.out), (by (with_reducible repeat (first | refine blk_drewN ?_ _ | refine blk_drew ?_ | refine blk_alloc ?_ _)); exact BK260.out), (by (with_reducible repeat (first | refine blk_drewN ?_ _ | refine blk_drew ?_ | refine blk_alloc ?_ _)); exact BK267.out), (by (with_reducible repeat (first | refine blk_drewN ?_ _ | refine blk_drew ?_ | refine blk_alloc ?_ _)); exact BK279.out), GW279.out, GE279.out, NB246_279.out, NB279_246.out, NB247_279.out, NB279_247.out, NB248_279.out, NB279_248.out, NB260_279.out, NB279_260.out, NB267_279.out, NB279_267.out, (by repeat (first | (with_reducible first | exact HB.out | apply below_alloc | apply pw_below_drewN | apply below_drew1 | refine below_set ?_ GE246.out | refine below_set ?_ GE247.out | refine below_set ?_ GE248.out | refine below_set ?_ GE260.out | refine below_set ?_ GE267.out | refine below_set ?_ GE279.out) | exact HB.out))⟩)
  rintro gb279 w44 ⟨hS_, h0_, h1_, h2_, h3_, h4_, h5_, h6_, h7_, h8_, h9_, h10_, h11_, h12_, h13_, h14_, h15_, h16_, h17_, h18_⟩
  have n0_ : Aside0 (w44.heap[gb246]? = some (.cells #[.int .u64 a0_0, .int .u64 a0_1, .int .u64 a0_2, .int .u64 a0_3, .int .i64 a0_4] 40 (0, 0))) := ⟨h0_⟩
  have n1_ : Aside0 (w44.heap[gb247]? = some (.cells #[.int .u64 a1_0, .int .u64 a1_1] 24 (0, 0))) := ⟨h1_⟩
  have n2_ : Aside0 (w44.heap[gb248]? = some (.cells #[.int .u64 a2_0, .int .u64 a2_1] 24 (0, 0))) := ⟨h2_⟩
  have n3_ : Aside0 (w44.heap[gb260]? = some (.cells #[.int .u64 t254, .int .u64 t255, .int .u64 t256, .int .u64 t257, .int .i64 t258] 42 (0, 0))) := ⟨h3_⟩
  have n4_ : Aside0 (w44.heap[gb267]? = some (.cells #[.int .u64 t261, .int .u64 t262, .int .u64 t263, .int .u64 t264, .int .i64 t265] 42 (0, 0))) := ⟨h4_⟩
  have n5_ : Aside0 (w44.heap[gb279]? = some (.cells #[.int .u64 0, .int .u64 0, .int .u64 0, .int .u64 0, .int .i64 0] 42 (0, 0))) := ⟨h5_⟩
  have n6_ : Aside0 (w.heap.size ≤ gb279) := ⟨h6_⟩
  have n7_ : Aside0 (w.heap.size ≤ gb279) := ⟨h7_⟩
  have n8_ : Aside0 (gb246 ≠ gb279) := ⟨h8_⟩
  have n9_ : Aside0 (gb279 ≠ gb246) := ⟨h9_⟩
  have n10_ : Aside0 (gb247 ≠ gb279) := ⟨h10_⟩
  have n11_ : Aside0 (gb279 ≠ gb247) := ⟨h11_⟩
  have n12_ : Aside0 (gb248 ≠ gb279) := ⟨h12_⟩
  have n13_ : Aside0 (gb279 ≠ gb248) := ⟨h13_⟩
  have n14_ : Aside0 (gb260 ≠ gb279) := ⟨h14_⟩
  have n15_ : Aside0 (gb279 ≠ gb260) := ⟨h15_⟩
  have n16_ : Aside0 (gb267 ≠ gb279) := ⟨h16_⟩
  have n17_ : Aside0 (gb279 ≠ gb267) := ⟨h17_⟩
  have n18_ : Aside0 (Below w.heap.size w w44) := ⟨h18_⟩
  clear BK246
  clear BK247
  clear BK248
  clear BK260
  clear BK267
  clear HB
  clear h0_ h1_ h2_ h3_ h4_ h5_ h6_ h7_ h8_ h9_ h10_ h11_ h12_ h13_ h14_ h15_ h16_ h17_ h18_
  have BK246 := n0_
  have BK247 := n1_
  have BK248 := n2_
  have BK260 := n3_
  have BK267 := n4_
  have BK279 := n5_
  have GW279 := n6_
  have GE279 := n7_
  have NB246_279 := n8_
  have NB279_246 := n9_
  have NB247_279 := n10_
  have NB279_247 := n11_
  have NB248_279 := n12_
  have NB279_248 := n13_
  have NB260_279 := n14_
  have NB279_260 := n15_
  have NB267_279 := n16_
  have NB279_267 := n17_
  have HB := n18_
  clear n0_ n1_ n2_ n3_ n4_ n5_ n6_ n7_ n8_ n9_ n10_ n11_ n12_ n13_ n14_ n15_ n16_ n17_ n18_
  have hHeld : w44.cell? ⟨gb246, 0, none⟩ = some (.int .u64 a0_0) ∧ w44.cell? ⟨gb246, 1, none⟩ = some (.int .u64 a0_1) ∧ w44.cell? ⟨gb246, 2, none⟩ = some (.int .u64 a0_2) ∧ w44.cell? ⟨gb246, 3, none⟩ = some (.int .u64 a0_3) ∧ w44.cell? ⟨gb246, 4, none⟩ = some (.int .i64 a0_4) ∧ w44.cell? ⟨gb247, 0, none⟩ = some (.int .u64 a1_0) ∧ w44.cell? ⟨gb247, 1, none⟩ = some (.int .u64 a1_1) := hS_
  refine norm_ (a' := ?_) ?_ ?_
  rotate_left
  · simp only [putAll, Act.put, List.setIfInBounds_toArray, List.set_cons_zero, List.set_cons_succ]
    rfl
  refine one_ (i := 9) (N := none) #[true, true, true, true, true, true, true, true, true, true, false] rfl rfl (one_of HT_.out (by kernel_rfl)) (by decide) (fun K hK => ?_)
  have hs45 : w44.cell? ⟨gb279, 0, none⟩ = some (.int .u64 0) := (blk_cell BK279.out 0).trans rfl
  have hfs45 := blk_frozen BK279.out 0
  have hns45_0 := NB246_279.out
  have hns45_1 := NB247_279.out
  have hns45_2 := NB248_279.out
  have hns45_3 := NB260_279.out
  have hns45_4 := NB267_279.out
  have hms45_0 := NB279_246.out
  have hms45_1 := NB279_247.out
  have hms45_2 := NB279_248.out
  have hms45_3 := NB279_260.out
  have hms45_4 := NB279_267.out
  have hs46 : w44.cell? ⟨gb279, 1, none⟩ = some (.int .u64 0) := (blk_cell BK279.out 1).trans rfl
  have hfs46 := blk_frozen BK279.out 1
  have hns46_0 := NB246_279.out
  have hns46_1 := NB247_279.out
  have hns46_2 := NB248_279.out
  have hns46_3 := NB260_279.out
  have hns46_4 := NB267_279.out
  have hms46_0 := NB279_246.out
  have hms46_1 := NB279_247.out
  have hms46_2 := NB279_248.out
  have hms46_3 := NB279_260.out
  have hms46_4 := NB279_267.out
  have hs47 : w44.cell? ⟨gb279, 2, none⟩ = some (.int .u64 0) := (blk_cell BK279.out 2).trans rfl
  have hfs47 := blk_frozen BK279.out 2
  have hns47_0 := NB246_279.out
  have hns47_1 := NB247_279.out
  have hns47_2 := NB248_279.out
  have hns47_3 := NB260_279.out
  have hns47_4 := NB267_279.out
  have hms47_0 := NB279_246.out
  have hms47_1 := NB279_247.out
  have hms47_2 := NB279_248.out
  have hms47_3 := NB279_260.out
  have hms47_4 := NB279_267.out
  have hs48 : w44.cell? ⟨gb279, 3, none⟩ = some (.int .u64 0) := (blk_cell BK279.out 3).trans rfl
  have hfs48 := blk_frozen BK279.out 3
  have hns48_0 := NB246_279.out
  have hns48_1 := NB247_279.out
  have hns48_2 := NB248_279.out
  have hns48_3 := NB260_279.out
  have hns48_4 := NB267_279.out
  have hms48_0 := NB279_246.out
  have hms48_1 := NB279_247.out
  have hms48_2 := NB279_248.out
  have hms48_3 := NB279_260.out
  have hms48_4 := NB279_267.out
  have hs49 : w44.cell? ⟨gb279, 4, none⟩ = some (.int .i64 0) := (blk_cell BK279.out 4).trans rfl
  have hfs49 := blk_frozen BK279.out 4
  have hns49_0 := NB246_279.out
  have hns49_1 := NB247_279.out
  have hns49_2 := NB248_279.out
  have hns49_3 := NB260_279.out
  have hns49_4 := NB267_279.out
  have hms49_0 := NB279_246.out
  have hms49_1 := NB279_247.out
  have hms49_2 := NB279_248.out
  have hms49_3 := NB279_260.out
  have hms49_4 := NB279_267.out
  refine skip_ (w1 := ?_) (by rfl) rfl ?_ ?_
  rotate_left
  · go_simp
    rfl
  refine hK.out _ _ ⟨((cell_far (p := ⟨gb279, _, none⟩) NB246_279.out _).trans (((cell_far (p := ⟨gb279, _, none⟩) NB246_279.out _).trans (((cell_far (p := ⟨gb279, _, none⟩) NB246_279.out _).trans (((cell_far (p := ⟨gb279, _, none⟩) NB246_279.out _).trans (((cell_far (p := ⟨gb279, _, none⟩) NB246_279.out _).trans (hHeld.1)))))))))), ((cell_far (p := ⟨gb279, _, none⟩) NB246_279.out _).trans (((cell_far (p := ⟨gb279, _, none⟩) NB246_279.out _).trans (((cell_far (p := ⟨gb279, _, none⟩) NB246_279.out _).trans (((cell_far (p := ⟨gb279, _, none⟩) NB246_279.out _).trans (((cell_far (p := ⟨gb279, _, none⟩) NB246_279.out _).trans (hHeld.2.1)))))))))), ((cell_far (p := ⟨gb279, _, none⟩) NB246_279.out _).trans (((cell_far (p := ⟨gb279, _, none⟩) NB246_279.out _).trans (((cell_far (p := ⟨gb279, _, none⟩) NB246_279.out _).trans (((cell_far (p := ⟨gb279, _, none⟩) NB246_279.out _).trans (((cell_far (p := ⟨gb279, _, none⟩) NB246_279.out _).trans (hHeld.2.2.1)))))))))), ((cell_far (p := ⟨gb279, _, none⟩) NB246_279.out _).trans (((cell_far (p := ⟨gb279, _, none⟩) NB246_279.out _).trans (((cell_far (p := ⟨gb279, _, none⟩) NB246_279.out _).trans (((cell_far (p := ⟨gb279, _, none⟩) NB246_279.out _).trans (((cell_far (p := ⟨gb279, _, none⟩) NB246_279.out _).trans (hHeld.2.2.2.1)))))))))), ((cell_far (p := ⟨gb279, _, none⟩) NB246_279.out _).trans (((cell_far (p := ⟨gb279, _, none⟩) NB246_279.out _).trans (((cell_far (p := ⟨gb279, _, none⟩) NB246_279.out _).trans (((cell_far (p := ⟨gb279, _, none⟩) NB246_279.out _).trans (((cell_far (p := ⟨gb279, _, none⟩) NB246_279.out _).trans (hHeld.2.2.2.2.1)))))))))), ((cell_far (p := ⟨gb279, _, none⟩) NB247_279.out _).trans (((cell_far (p := ⟨gb279, _, none⟩) NB247_279.out _).trans (((cell_far (p := ⟨gb279, _, none⟩) NB247_279.out _).trans (((cell_far (p := ⟨gb279, _, none⟩) NB247_279.out _).trans (((cell_far (p := ⟨gb279, _, none⟩) NB247_279.out _).trans (hHeld.2.2.2.2.2.1)))))))))), ((cell_far (p := ⟨gb279, _, none⟩) NB247_279.out _).trans (((cell_far (p := ⟨gb279, _, none⟩) NB247_279.out _).trans (((cell_far (p := ⟨gb279, _, none⟩) NB247_279.out _).trans (((cell_far (p := ⟨gb279, _, none⟩) NB247_279.out _).trans (((cell_far (p := ⟨gb279, _, none⟩) NB247_279.out _).trans (hHeld.2.2.2.2.2.2))))))))))⟩ (fun hHeld => ?_)
  clear hK K
  refine pure_ (i := 10) (N := some 14) (v := ?_) (a' := ?_) #[true, true, true, true, true, true, true, true, true, true, true] rfl rfl (any_of HT_.out (by kernel_rfl)) (fun _ _ _ h => h) (Or.inl ⟨by rfl, ?_⟩) ?_ ?_
  rotate_left
  · intro w'
    go_simp
    with_reducible rfl
  rotate_left
  · simp only [Act.put, List.setIfInBounds_toArray, List.set_cons_zero, List.set_cons_succ, i64_w, i32_w]
    rfl
  refine done_ (done_of HT_.out (by kernel_rfl)) ?_
  have hnb50 := NB279_246.out
  have hnc50 := NB246_279.out
  have hnb51 := NB279_247.out
  have hnc51 := NB247_279.out
  have hnb52 := NB279_248.out
  have hnc52 := NB248_279.out
  have hnb53 := NB279_260.out
  have hnc53 := NB260_279.out
  have hnb54 := NB279_267.out
  have hnc54 := NB267_279.out
  have hcz55_0 : w44.cell? ⟨gb279, 0, none⟩ = some (.int .u64 0) := (blk_cell BK279.out 0).trans rfl
  have hcz55_1 : w44.cell? ⟨gb279, 1, none⟩ = some (.int .u64 0) := (blk_cell BK279.out 1).trans rfl
  have hcz55_2 : w44.cell? ⟨gb279, 2, none⟩ = some (.int .u64 0) := (blk_cell BK279.out 2).trans rfl
  have hcz55_3 : w44.cell? ⟨gb279, 3, none⟩ = some (.int .u64 0) := (blk_cell BK279.out 3).trans rfl
  have hcz55_4 : w44.cell? ⟨gb279, 4, none⟩ = some (.int .i64 0) := (blk_cell BK279.out 4).trans rfl
  have hfz55_0 := blk_frozen BK279.out 0
  have hfz55_1 := blk_frozen BK279.out 1
  have hfz55_2 := blk_frozen BK279.out 2
  have hfz55_3 := blk_frozen BK279.out 3
  have hfz55_4 := blk_frozen BK279.out 4
  have hcz56_0 : w44.cell? ⟨gb247, 0, none⟩ = some (.int .u64 a1_0) := (blk_cell BK247.out 0).trans rfl
  have hcz56_1 : w44.cell? ⟨gb247, 1, none⟩ = some (.int .u64 a1_1) := (blk_cell BK247.out 1).trans rfl
  have hfz56_0 := blk_frozen BK247.out 0
  have hfz56_1 := blk_frozen BK247.out 1
  go_upto_region 5 with (first | ((with_reducible refine gate_callee (f := 24) rfl ?_); refine goesL_ (some 46) rfl rfl Try.func24 (by kernel_rfl) rfl #[.agg #[.int .u64 t273, .int .u64 t274, .int .u64 t275, .int .u64 t276, .int .i64 t277], .agg #[.int .u64 a1_0, .int .u64 a1_1], .int .i64 a3] rfl (by (try simp only [List.map_toArray, List.map_cons, List.map_nil]); first | done | rfl | (simp only [List.length_drop, List.length_take]; rfl)) ?_; (with_reducible refine (register_Accept.calls k t273 t274 t275 t276 t277 a1_0 a1_1 a3 t280 t281 t282 t283 t284 t285 _ A10.out).mono ?_); rintro e w57 ⟨rfl, hb⟩; refine ⟨_, rfl, ?_⟩; have n0_ := Aside0.mk (blk_below (g := gb246) (o := .cells #[.int .u64 a0_0, .int .u64 a0_1, .int .u64 a0_2, .int .u64 a0_3, .int .i64 a0_4] 40 (0, 0)) (by (with_reducible repeat (first | refine blk_drewN ?_ _ | refine blk_drew ?_ | refine blk_alloc ?_ _)); refine blk_far ?_ NB246_279.out _; (with_reducible repeat (first | refine blk_drewN ?_ _ | refine blk_drew ?_ | refine blk_alloc ?_ _)); refine blk_far ?_ NB246_279.out _; (with_reducible repeat (first | refine blk_drewN ?_ _ | refine blk_drew ?_ | refine blk_alloc ?_ _)); refine blk_far ?_ NB246_279.out _; (with_reducible repeat (first | refine blk_drewN ?_ _ | refine blk_drew ?_ | refine blk_alloc ?_ _)); refine blk_far ?_ NB246_279.out _; (with_reducible repeat (first | refine blk_drewN ?_ _ | refine blk_drew ?_ | refine blk_alloc ?_ _)); refine blk_far ?_ NB246_279.out _; (with_reducible repeat (first | refine blk_drewN ?_ _ | refine blk_drew ?_ | refine blk_alloc ?_ _)); exact BK246.out) hb); have n1_ := Aside0.mk (blk_below (g := gb247) (o := .cells #[.int .u64 a1_0, .int .u64 a1_1] 24 (0, 0)) (by (with_reducible repeat (first | refine blk_drewN ?_ _ | refine blk_drew ?_ | refine blk_alloc ?_ _)); refine blk_far ?_ NB247_279.out _; (with_reducible repeat (first | refine blk_drewN ?_ _ | refine blk_drew ?_ | refine blk_alloc ?_ _)); refine blk_far ?_ NB247_279.out _; (with_reducible repeat (first | refine blk_drewN ?_ _ | refine blk_drew ?_ | refine blk_alloc ?_ _)); refine blk_far ?_ NB247_279.out _; (with_reducible repeat (first | refine blk_drewN ?_ _ | refine blk_drew ?_ | refine blk_alloc ?_ _)); refine blk_far ?_ NB247_279.out _; (with_reducible repeat (first | refine blk_drewN ?_ _ | refine blk_drew ?_ | refine blk_alloc ?_ _)); refine blk_far ?_ NB247_279.out _; (with_reducible repeat (first | refine blk_drewN ?_ _ | refine blk_drew ?_ | refine blk_alloc ?_ _)); exact BK247.out) hb); have n2_ := Aside0.mk (blk_below (g := gb248) (o := .cells #[.int .u64 a2_0, .int .u64 a2_1] 24 (0, 0)) (by (with_reducible repeat (first | refine blk_drewN ?_ _ | refine blk_drew ?_ | refine blk_alloc ?_ _)); refine blk_far ?_ NB248_279.out _; (with_reducible repeat (first | refine blk_drewN ?_ _ | refine blk_drew ?_ | refine blk_alloc ?_ _)); refine blk_far ?_ NB248_279.out _; (with_reducible repeat (first | refine blk_drewN ?_ _ | refine blk_drew ?_ | refine blk_alloc ?_ _)); refine blk_far ?_ NB248_279.out _; (with_reducible repeat (first | refine blk_drewN ?_ _ | refine blk_drew ?_ | refine blk_alloc ?_ _)); refine blk_far ?_ NB248_279.out _; (with_reducible repeat (first | refine blk_drewN ?_ _ | refine blk_drew ?_ | refine blk_alloc ?_ _)); refine blk_far ?_ NB248_279.out _; (with_reducible repeat (first | refine blk_drewN ?_ _ | refine blk_drew ?_ | refine blk_alloc ?_ _)); exact BK248.out) hb); have n3_ := Aside0.mk (blk_below (g := gb260) (o := .cells #[.int .u64 t254, .int .u64 t255, .int .u64 t256, .int .u64 t257, .int .i64 t258] 42 (0, 0)) (by (with_reducible repeat (first | refine blk_drewN ?_ _ | refine blk_drew ?_ | refine blk_alloc ?_ _)); refine blk_far ?_ NB260_279.out _; (with_reducible repeat (first | refine blk_drewN ?_ _ | refine blk_drew ?_ | refine blk_alloc ?_ _)); refine blk_far ?_ NB260_279.out _; (with_reducible repeat (first | refine blk_drewN ?_ _ | refine blk_drew ?_ | refine blk_alloc ?_ _)); refine blk_far ?_ NB260_279.out _; (with_reducible repeat (first | refine blk_drewN ?_ _ | refine blk_drew ?_ | refine blk_alloc ?_ _)); refine blk_far ?_ NB260_279.out _; (with_reducible repeat (first | refine blk_drewN ?_ _ | refine blk_drew ?_ | refine blk_alloc ?_ _)); refine blk_far ?_ NB260_279.out _; (with_reducible repeat (first | refine blk_drewN ?_ _ | refine blk_drew ?_ | refine blk_alloc ?_ _)); exact BK260.out) hb); have n4_ := Aside0.mk (blk_below (g := gb267) (o := .cells #[.int .u64 t261, .int .u64 t262, .int .u64 t263, .int .u64 t264, .int .i64 t265] 42 (0, 0)) (by (with_reducible repeat (first | refine blk_drewN ?_ _ | refine blk_drew ?_ | refine blk_alloc ?_ _)); refine blk_far ?_ NB267_279.out _; (with_reducible repeat (first | refine blk_drewN ?_ _ | refine blk_drew ?_ | refine blk_alloc ?_ _)); refine blk_far ?_ NB267_279.out _; (with_reducible repeat (first | refine blk_drewN ?_ _ | refine blk_drew ?_ | refine blk_alloc ?_ _)); refine blk_far ?_ NB267_279.out _; (with_reducible repeat (first | refine blk_drewN ?_ _ | refine blk_drew ?_ | refine blk_alloc ?_ _)); refine blk_far ?_ NB267_279.out _; (with_reducible repeat (first | refine blk_drewN ?_ _ | refine blk_drew ?_ | refine blk_alloc ?_ _)); refine blk_far ?_ NB267_279.out _; (with_reducible repeat (first | refine blk_drewN ?_ _ | refine blk_drew ?_ | refine blk_alloc ?_ _)); exact BK267.out) hb); have n5_ := Aside0.mk (blk_below (g := gb279) (o := .cells #[.int .u64 t273, .int .u64 t274, .int .u64 t275, .int .u64 t276, .int .i64 t277] 42 (0, 0)) (by (with_reducible repeat (first | refine blk_drewN ?_ _ | refine blk_drew ?_ | refine blk_alloc ?_ _)); refine blk_put (cs := #[.int .u64 t273, .int .u64 t274, .int .u64 t275, .int .u64 t276, .int .i64 0]) ?_ 4 _ rfl; (with_reducible repeat (first | refine blk_drewN ?_ _ | refine blk_drew ?_ | refine blk_alloc ?_ _)); refine blk_put (cs := #[.int .u64 t273, .int .u64 t274, .int .u64 t275, .int .u64 0, .int .i64 0]) ?_ 3 _ rfl; (with_reducible repeat (first | refine blk_drewN ?_ _ | refine blk_drew ?_ | refine blk_alloc ?_ _)); refine blk_put (cs := #[.int .u64 t273, .int .u64 t274, .int .u64 0, .int .u64 0, .int .i64 0]) ?_ 2 _ rfl; (with_reducible repeat (first | refine blk_drewN ?_ _ | refine blk_drew ?_ | refine blk_alloc ?_ _)); refine blk_put (cs := #[.int .u64 t273, .int .u64 0, .int .u64 0, .int .u64 0, .int .i64 0]) ?_ 1 _ rfl; (with_reducible repeat (first | refine blk_drewN ?_ _ | refine blk_drew ?_ | refine blk_alloc ?_ _)); refine blk_put (cs := #[.int .u64 0, .int .u64 0, .int .u64 0, .int .u64 0, .int .i64 0]) ?_ 0 _ rfl; (with_reducible repeat (first | refine blk_drewN ?_ _ | refine blk_drew ?_ | refine blk_alloc ?_ _)); exact BK279.out) hb); have n6_ := Aside0.mk (below_step (by repeat (first | (with_reducible first | exact HB.out | apply below_alloc | apply pw_below_drewN | apply below_drew1 | refine below_set ?_ GE246.out | refine below_set ?_ GE247.out | refine below_set ?_ GE248.out | refine below_set ?_ GE260.out | refine below_set ?_ GE267.out | refine below_set ?_ GE279.out) | exact HB.out)) hb); clear BK246; clear BK247; clear BK248; clear BK260; clear BK267; clear BK279; clear HB; have BK246 := n0_; have BK247 := n1_; have BK248 := n2_; have BK260 := n3_; have BK267 := n4_; have BK279 := n5_; have HB := n6_; clear n0_ n1_ n2_ n3_ n4_ n5_ n6_; (try clear hb); (try clear hb2); (try clear hk); (try clear hi)) | ((with_reducible refine gate_dst (N := 15) rfl ?_); refine box_event ?hg (N := 15) ?hd (cs := #[.int .u64 0, .int .u64 0, .int .u64 0, .int .u64 0, .int .i64 0]) (t := 42) ?hr ?_; (case hd => rfl); (case hg => rfl); (case hr => first | (go_simp; done) | (go_simp; rfl)); intro gb286 hg w58 hbox hb; have n0_ := Aside0.mk (blk_below (g := gb246) (o := .cells #[.int .u64 a0_0, .int .u64 a0_1, .int .u64 a0_2, .int .u64 a0_3, .int .i64 a0_4] 40 (0, 0)) (by (with_reducible repeat (first | refine blk_drewN ?_ _ | refine blk_drew ?_ | refine blk_alloc ?_ _)); exact BK246.out) hb); have n1_ := Aside0.mk (blk_below (g := gb247) (o := .cells #[.int .u64 a1_0, .int .u64 a1_1] 24 (0, 0)) (by (with_reducible repeat (first | refine blk_drewN ?_ _ | refine blk_drew ?_ | refine blk_alloc ?_ _)); exact BK247.out) hb); have n2_ := Aside0.mk (blk_below (g := gb248) (o := .cells #[.int .u64 a2_0, .int .u64 a2_1] 24 (0, 0)) (by (with_reducible repeat (first | refine blk_drewN ?_ _ | refine blk_drew ?_ | refine blk_alloc ?_ _)); exact BK248.out) hb); have n3_ := Aside0.mk (blk_below (g := gb260) (o := .cells #[.int .u64 t254, .int .u64 t255, .int .u64 t256, .int .u64 t257, .int .i64 t258] 42 (0, 0)) (by (with_reducible repeat (first | refine blk_drewN ?_ _ | refine blk_drew ?_ | refine blk_alloc ?_ _)); exact BK260.out) hb); have n4_ := Aside0.mk (blk_below (g := gb267) (o := .cells #[.int .u64 t261, .int .u64 t262, .int .u64 t263, .int .u64 t264, .int .i64 t265] 42 (0, 0)) (by (with_reducible repeat (first | refine blk_drewN ?_ _ | refine blk_drew ?_ | refine blk_alloc ?_ _)); exact BK267.out) hb); have n5_ := Aside0.mk (blk_below (g := gb279) (o := .cells #[.int .u64 t273, .int .u64 t274, .int .u64 t275, .int .u64 t276, .int .i64 t277] 42 (0, 0)) (by (with_reducible repeat (first | refine blk_drewN ?_ _ | refine blk_drew ?_ | refine blk_alloc ?_ _)); exact BK279.out) hb); have n6_ := Aside0.mk (below_step (by repeat (first | (with_reducible first | exact HB.out | apply below_alloc | apply pw_below_drewN | apply below_drew1 | refine below_set ?_ GE246.out | refine below_set ?_ GE247.out | refine below_set ?_ GE248.out | refine below_set ?_ GE260.out | refine below_set ?_ GE267.out | refine below_set ?_ GE279.out) | exact HB.out)) hb); have n7_ := Aside0.mk (hbox); have n8_ := Aside0.mk ((by rw [hg]; exact (below_size (by repeat (first | (with_reducible first | exact HB.out | apply below_alloc | apply pw_below_drewN | apply below_drew1 | refine below_set ?_ GE246.out | refine below_set ?_ GE247.out | refine below_set ?_ GE248.out | refine below_set ?_ GE260.out | refine below_set ?_ GE267.out | refine below_set ?_ GE279.out) | exact HB.out))) : w.heap.size ≤ gb286)); have n9_ := Aside0.mk ((by rw [hg]; exact (below_size (by repeat (first | (with_reducible first | exact HB.out | apply below_alloc | apply pw_below_drewN | apply below_drew1 | refine below_set ?_ GE246.out | refine below_set ?_ GE247.out | refine below_set ?_ GE248.out | refine below_set ?_ GE260.out | refine below_set ?_ GE267.out | refine below_set ?_ GE279.out) | exact HB.out))) : w.heap.size ≤ gb286)); have n10_ := Aside0.mk ((by rw [hg]; exact Nat.ne_of_lt (blk_lt (g := gb246) (o := .cells #[.int .u64 a0_0, .int .u64 a0_1, .int .u64 a0_2, .int .u64 a0_3, .int .i64 a0_4] 40 (0, 0)) (by (with_reducible repeat (first | refine blk_drewN ?_ _ | refine blk_drew ?_ | refine blk_alloc ?_ _)); exact BK246.out)) : gb246 ≠ gb286)); have n11_ := Aside0.mk ((by rw [hg]; exact Nat.ne_of_gt (blk_lt (g := gb246) (o := .cells #[.int .u64 a0_0, .int .u64 a0_1, .int .u64 a0_2, .int .u64 a0_3, .int .i64 a0_4] 40 (0, 0)) (by (with_reducible repeat (first | refine blk_drewN ?_ _ | refine blk_drew ?_ | refine blk_alloc ?_ _)); exact BK246.out)) : gb286 ≠ gb246)); have n12_ := Aside0.mk ((by rw [hg]; exact Nat.ne_of_lt (blk_lt (g := gb247) (o := .cells #[.int .u64 a1_0, .int .u64 a1_1] 24 (0, 0)) (by (with_reducible repeat (first | refine blk_drewN ?_ _ | refine blk_drew ?_ | refine blk_alloc ?_ _)); exact BK247.out)) : gb247 ≠ gb286)); have n13_ := Aside0.mk ((by rw [hg]; exact Nat.ne_of_gt (blk_lt (g := gb247) (o := .cells #[.int .u64 a1_0, .int .u64 a1_1] 24 (0, 0)) (by (with_reducible repeat (first | refine blk_drewN ?_ _ | refine blk_drew ?_ | refine blk_alloc ?_ _)); exact BK247.out)) : gb286 ≠ gb247)); have n14_ := Aside0.mk ((by rw [hg]; exact Nat.ne_of_lt (blk_lt (g := gb248) (o := .cells #[.int .u64 a2_0, .int .u64 a2_1] 24 (0, 0)) (by (with_reducible repeat (first | refine blk_drewN ?_ _ | refine blk_drew ?_ | refine blk_alloc ?_ _)); exact BK248.out)) : gb248 ≠ gb286)); have n15_ := Aside0.mk ((by rw [hg]; exact Nat.ne_of_gt (blk_lt (g := gb248) (o := .cells #[.int .u64 a2_0, .int .u64 a2_1] 24 (0, 0)) (by (with_reducible repeat (first | refine blk_drewN ?_ _ | refine blk_drew ?_ | refine blk_alloc ?_ _)); exact BK248.out)) : gb286 ≠ gb248)); have n16_ := Aside0.mk ((by rw [hg]; exact Nat.ne_of_lt (blk_lt (g := gb260) (o := .cells #[.int .u64 t254, .int .u64 t255, .int .u64 t256, .int .u64 t257, .int .i64 t258] 42 (0, 0)) (by (with_reducible repeat (first | refine blk_drewN ?_ _ | refine blk_drew ?_ | refine blk_alloc ?_ _)); exact BK260.out)) : gb260 ≠ gb286)); have n17_ := Aside0.mk ((by rw [hg]; exact Nat.ne_of_gt (blk_lt (g := gb260) (o := .cells #[.int .u64 t254, .int .u64 t255, .int .u64 t256, .int .u64 t257, .int .i64 t258] 42 (0, 0)) (by (with_reducible repeat (first | refine blk_drewN ?_ _ | refine blk_drew ?_ | refine blk_alloc ?_ _)); exact BK260.out)) : gb286 ≠ gb260)); have n18_ := Aside0.mk ((by rw [hg]; exact Nat.ne_of_lt (blk_lt (g := gb267) (o := .cells #[.int .u64 t261, .int .u64 t262, .int .u64 t263, .int .u64 t264, .int .i64 t265] 42 (0, 0)) (by (with_reducible repeat (first | refine blk_drewN ?_ _ | refine blk_drew ?_ | refine blk_alloc ?_ _)); exact BK267.out)) : gb267 ≠ gb286)); have n19_ := Aside0.mk ((by rw [hg]; exact Nat.ne_of_gt (blk_lt (g := gb267) (o := .cells #[.int .u64 t261, .int .u64 t262, .int .u64 t263, .int .u64 t264, .int .i64 t265] 42 (0, 0)) (by (with_reducible repeat (first | refine blk_drewN ?_ _ | refine blk_drew ?_ | refine blk_alloc ?_ _)); exact BK267.out)) : gb286 ≠ gb267)); have n20_ := Aside0.mk ((by rw [hg]; exact Nat.ne_of_lt (blk_lt (g := gb279) (o := .cells #[.int .u64 t273, .int .u64 t274, .int .u64 t275, .int .u64 t276, .int .i64 t277] 42 (0, 0)) (by (with_reducible repeat (first | refine blk_drewN ?_ _ | refine blk_drew ?_ | refine blk_alloc ?_ _)); exact BK279.out)) : gb279 ≠ gb286)); have n21_ := Aside0.mk ((by rw [hg]; exact Nat.ne_of_gt (blk_lt (g := gb279) (o := .cells #[.int .u64 t273, .int .u64 t274, .int .u64 t275, .int .u64 t276, .int .i64 t277] 42 (0, 0)) (by (with_reducible repeat (first | refine blk_drewN ?_ _ | refine blk_drew ?_ | refine blk_alloc ?_ _)); exact BK279.out)) : gb286 ≠ gb279)); clear BK246; clear BK247; clear BK248; clear BK260; clear BK267; clear BK279; clear HB; have BK246 := n0_; have BK247 := n1_; have BK248 := n2_; have BK260 := n3_; have BK267 := n4_; have BK279 := n5_; have HB := n6_; have BK286 := n7_; have GW286 := n8_; have GE286 := n9_; have NB246_286 := n10_; have NB286_246 := n11_; have NB247_286 := n12_; have NB286_247 := n13_; have NB248_286 := n14_; have NB286_248 := n15_; have NB260_286 := n16_; have NB286_260 := n17_; have NB267_286 := n18_; have NB286_267 := n19_; have NB279_286 := n20_; have NB286_279 := n21_; clear n0_ n1_ n2_ n3_ n4_ n5_ n6_ n7_ n8_ n9_ n10_ n11_ n12_ n13_ n14_ n15_ n16_ n17_ n18_ n19_ n20_ n21_; clear hb hbox hg; have hnb59 := NB286_246.out; have hnc59 := NB246_286.out; have hnb60 := NB286_247.out; have hnc60 := NB247_286.out; have hnb61 := NB286_248.out; have hnc61 := NB248_286.out; have hnb62 := NB286_260.out; have hnc62 := NB260_286.out; have hnb63 := NB286_267.out; have hnc63 := NB267_286.out; have hnb64 := NB286_279.out; have hnc64 := NB279_286.out; have hcz65_0 : w58.cell? ⟨gb286, 0, none⟩ = some (.int .u64 0) := (blk_cell BK286.out 0).trans rfl; have hcz65_1 : w58.cell? ⟨gb286, 1, none⟩ = some (.int .u64 0) := (blk_cell BK286.out 1).trans rfl; have hcz65_2 : w58.cell? ⟨gb286, 2, none⟩ = some (.int .u64 0) := (blk_cell BK286.out 2).trans rfl; have hcz65_3 : w58.cell? ⟨gb286, 3, none⟩ = some (.int .u64 0) := (blk_cell BK286.out 3).trans rfl; have hcz65_4 : w58.cell? ⟨gb286, 4, none⟩ = some (.int .i64 0) := (blk_cell BK286.out 4).trans rfl; have hfz65_0 := blk_frozen BK286.out 0; have hfz65_1 := blk_frozen BK286.out 1; have hfz65_2 := blk_frozen BK286.out 2; have hfz65_3 := blk_frozen BK286.out 3; have hfz65_4 := blk_frozen BK286.out 4))
  (try simp only [Act.put, List.setIfInBounds_toArray, List.set_cons_zero, List.set_cons_succ])
  go_cut [70] (fun v70 wc => ∃ (kq : Nat) (x70_10 : Bool), v70 = .bool x70_10 ∧ Aside0 (winnowlaw12_RegisterAgain.j0 kq a3 t259 x70_10 a1_0 a1_1 a2_0 a2_1 t254 t255 t256 t257 t258 = some r) ∧ Aside0 (kq ≤ k) ∧ Aside0 (wc.heap[gb246]? = some (.cells #[.int .u64 a0_0, .int .u64 a0_1, .int .u64 a0_2, .int .u64 a0_3, .int .i64 a0_4] 40 (0, 0))) ∧ Aside0 (wc.heap[gb247]? = some (.cells #[.int .u64 a1_0, .int .u64 a1_1] 24 (0, 0))) ∧ Aside0 (wc.heap[gb248]? = some (.cells #[.int .u64 a2_0, .int .u64 a2_1] 24 (0, 0))) ∧ Aside0 (wc.heap[gb260]? = some (.cells #[.int .u64 t254, .int .u64 t255, .int .u64 t256, .int .u64 t257, .int .i64 t258] 42 (0, 0))) ∧ Aside0 (wc.heap[gb267]? = some (.cells #[.int .u64 t261, .int .u64 t262, .int .u64 t263, .int .u64 t264, .int .i64 t265] 42 (0, 0))) ∧ Aside0 (wc.heap[gb279]? = some (.cells #[.int .u64 t273, .int .u64 t274, .int .u64 t275, .int .u64 t276, .int .i64 t277] 42 (0, 0))) ∧ Aside0 (wc.heap[gb286]? = some (.cells #[.int .u64 t280, .int .u64 t281, .int .u64 t282, .int .u64 t283, .int .i64 t284] 42 (0, 0))) ∧ Aside0 (Below w.heap.size w wc))
  case first =>
    have H := HC11.out
    clear HC11
    by_cases c66 : t259 = true
    · subst c66
      have H1 : (if t266 = true then (if ((!(t261 == t254) || (!(t262 == t255))) || ((!(t263 == t256) || (!(t264 == t257))) || (!(t265 == t258)))) = true then (winnowlaw12_RegisterAgain.j0 k a3 true true a1_0 a1_1 a2_0 a2_1 t254 t255 t256 t257 t258) else (if t278 = true then (if t285 = true then (winnowlaw12_RegisterAgain.j0 k a3 true ((!(t280 == t273) || (!(t281 == t274))) || ((!(t282 == t275) || (!(t283 == t276))) || (!(t284 == t277)))) a1_0 a1_1 a2_0 a2_1 t254 t255 t256 t257 t258) else (winnowlaw12_RegisterAgain.j0 k a3 true true a1_0 a1_1 a2_0 a2_1 t254 t255 t256 t257 t258)) else (winnowlaw12_RegisterAgain.j0 k a3 true false a1_0 a1_1 a2_0 a2_1 t254 t255 t256 t257 t258))) else (winnowlaw12_RegisterAgain.j0 k a3 true true a1_0 a1_1 a2_0 a2_1 t254 t255 t256 t257 t258)) = some r := by rw [if_pos rfl] at H; exact H
      clear H
      have H := H1
      clear H1
      by_cases c67 : t266 = true
      · subst c67
        have H1 : (if ((!(t261 == t254) || (!(t262 == t255))) || ((!(t263 == t256) || (!(t264 == t257))) || (!(t265 == t258)))) = true then (winnowlaw12_RegisterAgain.j0 k a3 true true a1_0 a1_1 a2_0 a2_1 t254 t255 t256 t257 t258) else (if t278 = true then (if t285 = true then (winnowlaw12_RegisterAgain.j0 k a3 true ((!(t280 == t273) || (!(t281 == t274))) || ((!(t282 == t275) || (!(t283 == t276))) || (!(t284 == t277)))) a1_0 a1_1 a2_0 a2_1 t254 t255 t256 t257 t258) else (winnowlaw12_RegisterAgain.j0 k a3 true true a1_0 a1_1 a2_0 a2_1 t254 t255 t256 t257 t258)) else (winnowlaw12_RegisterAgain.j0 k a3 true false a1_0 a1_1 a2_0 a2_1 t254 t255 t256 t257 t258))) = some r := by rw [if_pos rfl] at H; exact H
        clear H
        have H := H1
        clear H1
        by_cases c68 : ((!(t261 == t254) || (!(t262 == t255))) || ((!(t263 == t256) || (!(t264 == t257))) || (!(t265 == t258)))) = true
        · rw [if_pos c68] at H
          have c68b0 : ((!(t261 == t254) || (!(t262 == t255))) || ((!(t263 == t256) || (!(t264 == t257))) || (!(t265 == t258)))) = true := c68
          clear c68
          (first | rw [c68b0] | (simp only [i64_w, i32_w]; rw [c68b0]) | skip)
          exact absurd H (by cases k <;> simp [winnowlaw12_RegisterAgain.j0, HRT_.out])
        · rw [if_neg c68] at H
          have c68b0 : ((!(t261 == t254) || (!(t262 == t255))) || ((!(t263 == t256) || (!(t264 == t257))) || (!(t265 == t258)))) = false := by simpa using c68
          clear c68
          (first | rw [c68b0] | (simp only [i64_w, i32_w]; rw [c68b0]) | skip)
          by_cases c69 : t278 = true
          · subst c69
            have H1 : (if t285 = true then (winnowlaw12_RegisterAgain.j0 k a3 true ((!(t280 == t273) || (!(t281 == t274))) || ((!(t282 == t275) || (!(t283 == t276))) || (!(t284 == t277)))) a1_0 a1_1 a2_0 a2_1 t254 t255 t256 t257 t258) else (winnowlaw12_RegisterAgain.j0 k a3 true true a1_0 a1_1 a2_0 a2_1 t254 t255 t256 t257 t258)) = some r := by rw [if_pos rfl] at H; exact H
            clear H
            have H := H1
            clear H1
            by_cases c70 : t285 = true
            · subst c70
              have H1 : (winnowlaw12_RegisterAgain.j0 k a3 true ((!(t280 == t273) || (!(t281 == t274))) || ((!(t282 == t275) || (!(t283 == t276))) || (!(t284 == t277)))) a1_0 a1_1 a2_0 a2_1 t254 t255 t256 t257 t258) = some r := by rw [if_pos rfl] at H; exact H
              clear H
              have H := H1
              clear H1
              have H' := Aside0.mk H
              clear H
              have hnb71 := NB267_246.out
              have hnc71 := NB246_267.out
              have hnb72 := NB267_247.out
              have hnc72 := NB247_267.out
              have hnb73 := NB267_248.out
              have hnc73 := NB248_267.out
              have hnb74 := NB267_260.out
              have hnc74 := NB260_267.out
              have hnb75 := NB267_279.out
              have hnc75 := NB279_267.out
              have hnb76 := NB267_286.out
              have hnc76 := NB286_267.out
              have hcz77_0 : w58.cell? ⟨gb267, 0, none⟩ = some (.int .u64 t261) := (blk_cell BK267.out 0).trans rfl
              have hcz77_1 : w58.cell? ⟨gb267, 1, none⟩ = some (.int .u64 t262) := (blk_cell BK267.out 1).trans rfl
              have hcz77_2 : w58.cell? ⟨gb267, 2, none⟩ = some (.int .u64 t263) := (blk_cell BK267.out 2).trans rfl
              have hcz77_3 : w58.cell? ⟨gb267, 3, none⟩ = some (.int .u64 t264) := (blk_cell BK267.out 3).trans rfl
              have hcz77_4 : w58.cell? ⟨gb267, 4, none⟩ = some (.int .i64 t265) := (blk_cell BK267.out 4).trans rfl
              have hfz77_0 := blk_frozen BK267.out 0
              have hfz77_1 := blk_frozen BK267.out 1
              have hfz77_2 := blk_frozen BK267.out 2
              have hfz77_3 := blk_frozen BK267.out 3
              have hfz77_4 := blk_frozen BK267.out 4
              have hnb78 := NB260_246.out
              have hnc78 := NB246_260.out
              have hnb79 := NB260_247.out
              have hnc79 := NB247_260.out
              have hnb80 := NB260_248.out
              have hnc80 := NB248_260.out
              have hnb81 := NB260_279.out
              have hnc81 := NB279_260.out
              have hnb82 := NB260_286.out
              have hnc82 := NB286_260.out
              have hcz83_0 : w58.cell? ⟨gb260, 0, none⟩ = some (.int .u64 t254) := (blk_cell BK260.out 0).trans rfl
              have hcz83_1 : w58.cell? ⟨gb260, 1, none⟩ = some (.int .u64 t255) := (blk_cell BK260.out 1).trans rfl
              have hcz83_2 : w58.cell? ⟨gb260, 2, none⟩ = some (.int .u64 t256) := (blk_cell BK260.out 2).trans rfl
              have hcz83_3 : w58.cell? ⟨gb260, 3, none⟩ = some (.int .u64 t257) := (blk_cell BK260.out 3).trans rfl
              have hcz83_4 : w58.cell? ⟨gb260, 4, none⟩ = some (.int .i64 t258) := (blk_cell BK260.out 4).trans rfl
              have hfz83_0 := blk_frozen BK260.out 0
              have hfz83_1 := blk_frozen BK260.out 1
              have hfz83_2 := blk_frozen BK260.out 2
              have hfz83_3 := blk_frozen BK260.out 3
              have hfz83_4 := blk_frozen BK260.out 4
              have hnb84 := NB286_246.out
              have hnc84 := NB246_286.out
              have hnb85 := NB286_247.out
              have hnc85 := NB247_286.out
              have hnb86 := NB286_248.out
              have hnc86 := NB248_286.out
              have hnb87 := NB286_279.out
              have hnc87 := NB279_286.out
              have hcz88_0 : w58.cell? ⟨gb286, 0, none⟩ = some (.int .u64 0) := (blk_cell BK286.out 0).trans rfl
              have hcz88_1 : w58.cell? ⟨gb286, 1, none⟩ = some (.int .u64 0) := (blk_cell BK286.out 1).trans rfl
              have hcz88_2 : w58.cell? ⟨gb286, 2, none⟩ = some (.int .u64 0) := (blk_cell BK286.out 2).trans rfl
              have hcz88_3 : w58.cell? ⟨gb286, 3, none⟩ = some (.int .u64 0) := (blk_cell BK286.out 3).trans rfl
              have hcz88_4 : w58.cell? ⟨gb286, 4, none⟩ = some (.int .i64 0) := (blk_cell BK286.out 4).trans rfl
              have hfz88_0 := blk_frozen BK286.out 0
              have hfz88_1 := blk_frozen BK286.out 1
              have hfz88_2 := blk_frozen BK286.out 2
              have hfz88_3 := blk_frozen BK286.out 3
              have hfz88_4 := blk_frozen BK286.out 4
              have hnb89 := NB279_246.out
              have hnc89 := NB246_279.out
              have hnb90 := NB279_247.out
              have hnc90 := NB247_279.out
              have hnb91 := NB279_248.out
              have hnc91 := NB248_279.out
              have hcz92_0 : w58.cell? ⟨gb279, 0, none⟩ = some (.int .u64 t273) := (blk_cell BK279.out 0).trans rfl
              have hcz92_1 : w58.cell? ⟨gb279, 1, none⟩ = some (.int .u64 t274) := (blk_cell BK279.out 1).trans rfl
              have hcz92_2 : w58.cell? ⟨gb279, 2, none⟩ = some (.int .u64 t275) := (blk_cell BK279.out 2).trans rfl
              have hcz92_3 : w58.cell? ⟨gb279, 3, none⟩ = some (.int .u64 t276) := (blk_cell BK279.out 3).trans rfl
              have hcz92_4 : w58.cell? ⟨gb279, 4, none⟩ = some (.int .i64 t277) := (blk_cell BK279.out 4).trans rfl
              have hfz92_0 := blk_frozen BK279.out 0
              have hfz92_1 := blk_frozen BK279.out 1
              have hfz92_2 := blk_frozen BK279.out 2
              have hfz92_3 := blk_frozen BK279.out 3
              have hfz92_4 := blk_frozen BK279.out 4
              go_wp2
              go_meet
              case rel => exact ⟨_, (((!(t280 == t273) || (!(t281 == t274))) || ((!(t282 == t275) || (!(t283 == t276))) || (!(t284 == t277))))), (by first | rfl | (simp; done) | (simp [*]; done)), H', ⟨by first | omega | exact Nat.le_refl _⟩, ⟨by (with_reducible repeat (first | refine blk_drewN ?_ _ | refine blk_drew ?_ | refine blk_alloc ?_ _)); refine blk_far ?_ NB246_286.out _; (with_reducible repeat (first | refine blk_drewN ?_ _ | refine blk_drew ?_ | refine blk_alloc ?_ _)); refine blk_far ?_ NB246_286.out _; (with_reducible repeat (first | refine blk_drewN ?_ _ | refine blk_drew ?_ | refine blk_alloc ?_ _)); refine blk_far ?_ NB246_286.out _; (with_reducible repeat (first | refine blk_drewN ?_ _ | refine blk_drew ?_ | refine blk_alloc ?_ _)); refine blk_far ?_ NB246_286.out _; (with_reducible repeat (first | refine blk_drewN ?_ _ | refine blk_drew ?_ | refine blk_alloc ?_ _)); refine blk_far ?_ NB246_286.out _; (with_reducible repeat (first | refine blk_drewN ?_ _ | refine blk_drew ?_ | refine blk_alloc ?_ _)); exact BK246.out⟩, ⟨by (with_reducible repeat (first | refine blk_drewN ?_ _ | refine blk_drew ?_ | refine blk_alloc ?_ _)); refine blk_far ?_ NB247_286.out _; (with_reducible repeat (first | refine blk_drewN ?_ _ | refine blk_drew ?_ | refine blk_alloc ?_ _)); refine blk_far ?_ NB247_286.out _; (with_reducible repeat (first | refine blk_drewN ?_ _ | refine blk_drew ?_ | refine blk_alloc ?_ _)); refine blk_far ?_ NB247_286.out _; (with_reducible repeat (first | refine blk_drewN ?_ _ | refine blk_drew ?_ | refine blk_alloc ?_ _)); refine blk_far ?_ NB247_286.out _; (with_reducible repeat (first | refine blk_drewN ?_ _ | refine blk_drew ?_ | refine blk_alloc ?_ _)); refine blk_far ?_ NB247_286.out _; (with_reducible repeat (first | refine blk_drewN ?_ _ | refine blk_drew ?_ | refine blk_alloc ?_ _)); exact BK247.out⟩, ⟨by (with_reducible repeat (first | refine blk_drewN ?_ _ | refine blk_drew ?_ | refine blk_alloc ?_ _)); refine blk_far ?_ NB248_286.out _; (with_reducible repeat (first | refine blk_drewN ?_ _ | refine blk_drew ?_ | refine blk_alloc ?_ _)); refine blk_far ?_ NB248_286.out _; (with_reducible repeat (first | refine blk_drewN ?_ _ | refine blk_drew ?_ | refine blk_alloc ?_ _)); refine blk_far ?_ NB248_286.out _; (with_reducible repeat (first | refine blk_drewN ?_ _ | refine blk_drew ?_ | refine blk_alloc ?_ _)); refine blk_far ?_ NB248_286.out _; (with_reducible repeat (first | refine blk_drewN ?_ _ | refine blk_drew ?_ | refine blk_alloc ?_ _)); refine blk_far ?_ NB248_286.out _; (with_reducible repeat (first | refine blk_drewN ?_ _ | refine blk_drew ?_ | refine blk_alloc ?_ _)); exact BK248.out⟩, ⟨by (with_reducible repeat (first | refine blk_drewN ?_ _ | refine blk_drew ?_ | refine blk_alloc ?_ _)); refine blk_far ?_ NB260_286.out _; (with_reducible repeat (first | refine blk_drewN ?_ _ | refine blk_drew ?_ | refine blk_alloc ?_ _)); refine blk_far ?_ NB260_286.out _; (with_reducible repeat (first | refine blk_drewN ?_ _ | refine blk_drew ?_ | refine blk_alloc ?_ _)); refine blk_far ?_ NB260_286.out _; (with_reducible repeat (first | refine blk_drewN ?_ _ | refine blk_drew ?_ | refine blk_alloc ?_ _)); refine blk_far ?_ NB260_286.out _; (with_reducible repeat (first | refine blk_drewN ?_ _ | refine blk_drew ?_ | refine blk_alloc ?_ _)); refine blk_far ?_ NB260_286.out _; (with_reducible repeat (first | refine blk_drewN ?_ _ | refine blk_drew ?_ | refine blk_alloc ?_ _)); exact BK260.out⟩, ⟨by (with_reducible repeat (first | refine blk_drewN ?_ _ | refine blk_drew ?_ | refine blk_alloc ?_ _)); refine blk_far ?_ NB267_286.out _; (with_reducible repeat (first | refine blk_drewN ?_ _ | refine blk_drew ?_ | refine blk_alloc ?_ _)); refine blk_far ?_ NB267_286.out _; (with_reducible repeat (first | refine blk_drewN ?_ _ | refine blk_drew ?_ | refine blk_alloc ?_ _)); refine blk_far ?_ NB267_286.out _; (with_reducible repeat (first | refine blk_drewN ?_ _ | refine blk_drew ?_ | refine blk_alloc ?_ _)); refine blk_far ?_ NB267_286.out _; (with_reducible repeat (first | refine blk_drewN ?_ _ | refine blk_drew ?_ | refine blk_alloc ?_ _)); refine blk_far ?_ NB267_286.out _; (with_reducible repeat (first | refine blk_drewN ?_ _ | refine blk_drew ?_ | refine blk_alloc ?_ _)); exact BK267.out⟩, ⟨by (with_reducible repeat (first | refine blk_drewN ?_ _ | refine blk_drew ?_ | refine blk_alloc ?_ _)); refine blk_far ?_ NB279_286.out _; (with_reducible repeat (first | refine blk_drewN ?_ _ | refine blk_drew ?_ | refine blk_alloc ?_ _)); refine blk_far ?_ NB279_286.out _; (with_reducible repeat (first | refine blk_drewN ?_ _ | refine blk_drew ?_ | refine blk_alloc ?_ _)); refine blk_far ?_ NB279_286.out _; (with_reducible repeat (first | refine blk_drewN ?_ _ | refine blk_drew ?_ | refine blk_alloc ?_ _)); refine blk_far ?_ NB279_286.out _; (with_reducible repeat (first | refine blk_drewN ?_ _ | refine blk_drew ?_ | refine blk_alloc ?_ _)); refine blk_far ?_ NB279_286.out _; (with_reducible repeat (first | refine blk_drewN ?_ _ | refine blk_drew ?_ | refine blk_alloc ?_ _)); exact BK279.out⟩, ⟨by (with_reducible repeat (first | refine blk_drewN ?_ _ | refine blk_drew ?_ | refine blk_alloc ?_ _)); refine blk_put (cs := #[.int .u64 t280, .int .u64 t281, .int .u64 t282, .int .u64 t283, .int .i64 0]) ?_ 4 _ rfl; (with_reducible repeat (first | refine blk_drewN ?_ _ | refine blk_drew ?_ | refine blk_alloc ?_ _)); refine blk_put (cs := #[.int .u64 t280, .int .u64 t281, .int .u64 t282, .int .u64 0, .int .i64 0]) ?_ 3 _ rfl; (with_reducible repeat (first | refine blk_drewN ?_ _ | refine blk_drew ?_ | refine blk_alloc ?_ _)); refine blk_put (cs := #[.int .u64 t280, .int .u64 t281, .int .u64 0, .int .u64 0, .int .i64 0]) ?_ 2 _ rfl; (with_reducible repeat (first | refine blk_drewN ?_ _ | refine blk_drew ?_ | refine blk_alloc ?_ _)); refine blk_put (cs := #[.int .u64 t280, .int .u64 0, .int .u64 0, .int .u64 0, .int .i64 0]) ?_ 1 _ rfl; (with_reducible repeat (first | refine blk_drewN ?_ _ | refine blk_drew ?_ | refine blk_alloc ?_ _)); refine blk_put (cs := #[.int .u64 0, .int .u64 0, .int .u64 0, .int .u64 0, .int .i64 0]) ?_ 0 _ rfl; (with_reducible repeat (first | refine blk_drewN ?_ _ | refine blk_drew ?_ | refine blk_alloc ?_ _)); exact BK286.out⟩, ⟨by repeat (first | (with_reducible first | exact HB.out | apply below_alloc | apply pw_below_drewN | apply below_drew1 | refine below_set ?_ GE246.out | refine below_set ?_ GE247.out | refine below_set ?_ GE248.out | refine below_set ?_ GE260.out | refine below_set ?_ GE267.out | refine below_set ?_ GE279.out | refine below_set ?_ GE286.out) | exact HB.out)⟩⟩
            · replace c70 := Bool.eq_false_iff.mpr c70
              subst c70
              have H1 : (winnowlaw12_RegisterAgain.j0 k a3 true true a1_0 a1_1 a2_0 a2_1 t254 t255 t256 t257 t258) = some r := by rw [if_neg (show ¬ (false = true) by decide)] at H; exact H
              clear H
              have H := H1
              clear H1
              exact absurd H (by cases k <;> simp [winnowlaw12_RegisterAgain.j0, HRT_.out])
          · replace c69 := Bool.eq_false_iff.mpr c69
            subst c69
            have H1 : (winnowlaw12_RegisterAgain.j0 k a3 true false a1_0 a1_1 a2_0 a2_1 t254 t255 t256 t257 t258) = some r := by rw [if_neg (show ¬ (false = true) by decide)] at H; exact H
            clear H
            have H := H1
            clear H1
            have H' := Aside0.mk H
            clear H
            have hnb93 := NB267_246.out
            have hnc93 := NB246_267.out
            have hnb94 := NB267_247.out
            have hnc94 := NB247_267.out
            have hnb95 := NB267_248.out
            have hnc95 := NB248_267.out
            have hnb96 := NB267_260.out
            have hnc96 := NB260_267.out
            have hnb97 := NB267_279.out
            have hnc97 := NB279_267.out
            have hnb98 := NB267_286.out
            have hnc98 := NB286_267.out
            have hcz99_0 : w58.cell? ⟨gb267, 0, none⟩ = some (.int .u64 t261) := (blk_cell BK267.out 0).trans rfl
            have hcz99_1 : w58.cell? ⟨gb267, 1, none⟩ = some (.int .u64 t262) := (blk_cell BK267.out 1).trans rfl
            have hcz99_2 : w58.cell? ⟨gb267, 2, none⟩ = some (.int .u64 t263) := (blk_cell BK267.out 2).trans rfl
            have hcz99_3 : w58.cell? ⟨gb267, 3, none⟩ = some (.int .u64 t264) := (blk_cell BK267.out 3).trans rfl
            have hcz99_4 : w58.cell? ⟨gb267, 4, none⟩ = some (.int .i64 t265) := (blk_cell BK267.out 4).trans rfl
            have hfz99_0 := blk_frozen BK267.out 0
            have hfz99_1 := blk_frozen BK267.out 1
            have hfz99_2 := blk_frozen BK267.out 2
            have hfz99_3 := blk_frozen BK267.out 3
            have hfz99_4 := blk_frozen BK267.out 4
            have hnb100 := NB260_246.out
            have hnc100 := NB246_260.out
            have hnb101 := NB260_247.out
            have hnc101 := NB247_260.out
            have hnb102 := NB260_248.out
            have hnc102 := NB248_260.out
            have hnb103 := NB260_279.out
            have hnc103 := NB279_260.out
            have hnb104 := NB260_286.out
            have hnc104 := NB286_260.out
            have hcz105_0 : w58.cell? ⟨gb260, 0, none⟩ = some (.int .u64 t254) := (blk_cell BK260.out 0).trans rfl
            have hcz105_1 : w58.cell? ⟨gb260, 1, none⟩ = some (.int .u64 t255) := (blk_cell BK260.out 1).trans rfl
            have hcz105_2 : w58.cell? ⟨gb260, 2, none⟩ = some (.int .u64 t256) := (blk_cell BK260.out 2).trans rfl
            have hcz105_3 : w58.cell? ⟨gb260, 3, none⟩ = some (.int .u64 t257) := (blk_cell BK260.out 3).trans rfl
            have hcz105_4 : w58.cell? ⟨gb260, 4, none⟩ = some (.int .i64 t258) := (blk_cell BK260.out 4).trans rfl
            have hfz105_0 := blk_frozen BK260.out 0
            have hfz105_1 := blk_frozen BK260.out 1
            have hfz105_2 := blk_frozen BK260.out 2
            have hfz105_3 := blk_frozen BK260.out 3
            have hfz105_4 := blk_frozen BK260.out 4
            go_wp2
            go_meet
            case rel => exact ⟨_, (false), (by first | rfl | (simp; done) | (simp [*]; done)), H', ⟨by first | omega | exact Nat.le_refl _⟩, ⟨by (with_reducible repeat (first | refine blk_drewN ?_ _ | refine blk_drew ?_ | refine blk_alloc ?_ _)); refine blk_far ?_ NB246_286.out _; (with_reducible repeat (first | refine blk_drewN ?_ _ | refine blk_drew ?_ | refine blk_alloc ?_ _)); refine blk_far ?_ NB246_286.out _; (with_reducible repeat (first | refine blk_drewN ?_ _ | refine blk_drew ?_ | refine blk_alloc ?_ _)); refine blk_far ?_ NB246_286.out _; (with_reducible repeat (first | refine blk_drewN ?_ _ | refine blk_drew ?_ | refine blk_alloc ?_ _)); refine blk_far ?_ NB246_286.out _; (with_reducible repeat (first | refine blk_drewN ?_ _ | refine blk_drew ?_ | refine blk_alloc ?_ _)); refine blk_far ?_ NB246_286.out _; (with_reducible repeat (first | refine blk_drewN ?_ _ | refine blk_drew ?_ | refine blk_alloc ?_ _)); exact BK246.out⟩, ⟨by (with_reducible repeat (first | refine blk_drewN ?_ _ | refine blk_drew ?_ | refine blk_alloc ?_ _)); refine blk_far ?_ NB247_286.out _; (with_reducible repeat (first | refine blk_drewN ?_ _ | refine blk_drew ?_ | refine blk_alloc ?_ _)); refine blk_far ?_ NB247_286.out _; (with_reducible repeat (first | refine blk_drewN ?_ _ | refine blk_drew ?_ | refine blk_alloc ?_ _)); refine blk_far ?_ NB247_286.out _; (with_reducible repeat (first | refine blk_drewN ?_ _ | refine blk_drew ?_ | refine blk_alloc ?_ _)); refine blk_far ?_ NB247_286.out _; (with_reducible repeat (first | refine blk_drewN ?_ _ | refine blk_drew ?_ | refine blk_alloc ?_ _)); refine blk_far ?_ NB247_286.out _; (with_reducible repeat (first | refine blk_drewN ?_ _ | refine blk_drew ?_ | refine blk_alloc ?_ _)); exact BK247.out⟩, ⟨by (with_reducible repeat (first | refine blk_drewN ?_ _ | refine blk_drew ?_ | refine blk_alloc ?_ _)); refine blk_far ?_ NB248_286.out _; (with_reducible repeat (first | refine blk_drewN ?_ _ | refine blk_drew ?_ | refine blk_alloc ?_ _)); refine blk_far ?_ NB248_286.out _; (with_reducible repeat (first | refine blk_drewN ?_ _ | refine blk_drew ?_ | refine blk_alloc ?_ _)); refine blk_far ?_ NB248_286.out _; (with_reducible repeat (first | refine blk_drewN ?_ _ | refine blk_drew ?_ | refine blk_alloc ?_ _)); refine blk_far ?_ NB248_286.out _; (with_reducible repeat (first | refine blk_drewN ?_ _ | refine blk_drew ?_ | refine blk_alloc ?_ _)); refine blk_far ?_ NB248_286.out _; (with_reducible repeat (first | refine blk_drewN ?_ _ | refine blk_drew ?_ | refine blk_alloc ?_ _)); exact BK248.out⟩, ⟨by (with_reducible repeat (first | refine blk_drewN ?_ _ | refine blk_drew ?_ | refine blk_alloc ?_ _)); refine blk_far ?_ NB260_286.out _; (with_reducible repeat (first | refine blk_drewN ?_ _ | refine blk_drew ?_ | refine blk_alloc ?_ _)); refine blk_far ?_ NB260_286.out _; (with_reducible repeat (first | refine blk_drewN ?_ _ | refine blk_drew ?_ | refine blk_alloc ?_ _)); refine blk_far ?_ NB260_286.out _; (with_reducible repeat (first | refine blk_drewN ?_ _ | refine blk_drew ?_ | refine blk_alloc ?_ _)); refine blk_far ?_ NB260_286.out _; (with_reducible repeat (first | refine blk_drewN ?_ _ | refine blk_drew ?_ | refine blk_alloc ?_ _)); refine blk_far ?_ NB260_286.out _; (with_reducible repeat (first | refine blk_drewN ?_ _ | refine blk_drew ?_ | refine blk_alloc ?_ _)); exact BK260.out⟩, ⟨by (with_reducible repeat (first | refine blk_drewN ?_ _ | refine blk_drew ?_ | refine blk_alloc ?_ _)); refine blk_far ?_ NB267_286.out _; (with_reducible repeat (first | refine blk_drewN ?_ _ | refine blk_drew ?_ | refine blk_alloc ?_ _)); refine blk_far ?_ NB267_286.out _; (with_reducible repeat (first | refine blk_drewN ?_ _ | refine blk_drew ?_ | refine blk_alloc ?_ _)); refine blk_far ?_ NB267_286.out _; (with_reducible repeat (first | refine blk_drewN ?_ _ | refine blk_drew ?_ | refine blk_alloc ?_ _)); refine blk_far ?_ NB267_286.out _; (with_reducible repeat (first | refine blk_drewN ?_ _ | refine blk_drew ?_ | refine blk_alloc ?_ _)); refine blk_far ?_ NB267_286.out _; (with_reducible repeat (first | refine blk_drewN ?_ _ | refine blk_drew ?_ | refine blk_alloc ?_ _)); exact BK267.out⟩, ⟨by (with_reducible repeat (first | refine blk_drewN ?_ _ | refine blk_drew ?_ | refine blk_alloc ?_ _)); refine blk_far ?_ NB279_286.out _; (with_reducible repeat (first | refine blk_drewN ?_ _ | refine blk_drew ?_ | refine blk_alloc ?_ _)); refine blk_far ?_ NB279_286.out _; (with_reducible repeat (first | refine blk_drewN ?_ _ | refine blk_drew ?_ | refine blk_alloc ?_ _)); refine blk_far ?_ NB279_286.out _; (with_reducible repeat (first | refine blk_drewN ?_ _ | refine blk_drew ?_ | refine blk_alloc ?_ _)); refine blk_far ?_ NB279_286.out _; (with_reducible repeat (first | refine blk_drewN ?_ _ | refine blk_drew ?_ | refine blk_alloc ?_ _)); refine blk_far ?_ NB279_286.out _; (with_reducible repeat (first | refine blk_drewN ?_ _ | refine blk_drew ?_ | refine blk_alloc ?_ _)); exact BK279.out⟩, ⟨by (with_reducible repeat (first | refine blk_drewN ?_ _ | refine blk_drew ?_ | refine blk_alloc ?_ _)); refine blk_put (cs := #[.int .u64 t280, .int .u64 t281, .int .u64 t282, .int .u64 t283, .int .i64 0]) ?_ 4 _ rfl; (with_reducible repeat (first | refine blk_drewN ?_ _ | refine blk_drew ?_ | refine blk_alloc ?_ _)); refine blk_put (cs := #[.int .u64 t280, .int .u64 t281, .int .u64 t282, .int .u64 0, .int .i64 0]) ?_ 3 _ rfl; (with_reducible repeat (first | refine blk_drewN ?_ _ | refine blk_drew ?_ | refine blk_alloc ?_ _)); refine blk_put (cs := #[.int .u64 t280, .int .u64 t281, .int .u64 0, .int .u64 0, .int .i64 0]) ?_ 2 _ rfl; (with_reducible repeat (first | refine blk_drewN ?_ _ | refine blk_drew ?_ | refine blk_alloc ?_ _)); refine blk_put (cs := #[.int .u64 t280, .int .u64 0, .int .u64 0, .int .u64 0, .int .i64 0]) ?_ 1 _ rfl; (with_reducible repeat (first | refine blk_drewN ?_ _ | refine blk_drew ?_ | refine blk_alloc ?_ _)); refine blk_put (cs := #[.int .u64 0, .int .u64 0, .int .u64 0, .int .u64 0, .int .i64 0]) ?_ 0 _ rfl; (with_reducible repeat (first | refine blk_drewN ?_ _ | refine blk_drew ?_ | refine blk_alloc ?_ _)); exact BK286.out⟩, ⟨by repeat (first | (with_reducible first | exact HB.out | apply below_alloc | apply pw_below_drewN | apply below_drew1 | refine below_set ?_ GE246.out | refine below_set ?_ GE247.out | refine below_set ?_ GE248.out | refine below_set ?_ GE260.out | refine below_set ?_ GE267.out | refine below_set ?_ GE279.out | refine below_set ?_ GE286.out) | exact HB.out)⟩⟩
      · replace c67 := Bool.eq_false_iff.mpr c67
        subst c67
        have H1 : (winnowlaw12_RegisterAgain.j0 k a3 true true a1_0 a1_1 a2_0 a2_1 t254 t255 t256 t257 t258) = some r := by rw [if_neg (show ¬ (false = true) by decide)] at H; exact H
        clear H
        have H := H1
        clear H1
        exact absurd H (by cases k <;> simp [winnowlaw12_RegisterAgain.j0, HRT_.out])
    · replace c66 := Bool.eq_false_iff.mpr c66
      subst c66
      have H1 : (if t278 = true then (if t285 = true then (winnowlaw12_RegisterAgain.j0 k a3 false ((!(t280 == t273) || (!(t281 == t274))) || ((!(t282 == t275) || (!(t283 == t276))) || (!(t284 == t277)))) a1_0 a1_1 a2_0 a2_1 t254 t255 t256 t257 t258) else (winnowlaw12_RegisterAgain.j0 k a3 false true a1_0 a1_1 a2_0 a2_1 t254 t255 t256 t257 t258)) else (winnowlaw12_RegisterAgain.j0 k a3 false false a1_0 a1_1 a2_0 a2_1 t254 t255 t256 t257 t258)) = some r := by rw [if_neg (show ¬ (false = true) by decide)] at H; exact H
      clear H
      have H := H1
      clear H1
      by_cases c106 : t278 = true
      · subst c106
        have H1 : (if t285 = true then (winnowlaw12_RegisterAgain.j0 k a3 false ((!(t280 == t273) || (!(t281 == t274))) || ((!(t282 == t275) || (!(t283 == t276))) || (!(t284 == t277)))) a1_0 a1_1 a2_0 a2_1 t254 t255 t256 t257 t258) else (winnowlaw12_RegisterAgain.j0 k a3 false true a1_0 a1_1 a2_0 a2_1 t254 t255 t256 t257 t258)) = some r := by rw [if_pos rfl] at H; exact H
        clear H
        have H := H1
        clear H1
        by_cases c107 : t285 = true
        · subst c107
          have H1 : (winnowlaw12_RegisterAgain.j0 k a3 false ((!(t280 == t273) || (!(t281 == t274))) || ((!(t282 == t275) || (!(t283 == t276))) || (!(t284 == t277)))) a1_0 a1_1 a2_0 a2_1 t254 t255 t256 t257 t258) = some r := by rw [if_pos rfl] at H; exact H
          clear H
          have H := H1
          clear H1
          have H' := Aside0.mk H
          clear H
          have hnb108 := NB286_246.out
          have hnc108 := NB246_286.out
          have hnb109 := NB286_247.out
          have hnc109 := NB247_286.out
          have hnb110 := NB286_248.out
          have hnc110 := NB248_286.out
          have hnb111 := NB286_260.out
          have hnc111 := NB260_286.out
          have hnb112 := NB286_267.out
          have hnc112 := NB267_286.out
          have hnb113 := NB286_279.out
          have hnc113 := NB279_286.out
          have hcz114_0 : w58.cell? ⟨gb286, 0, none⟩ = some (.int .u64 0) := (blk_cell BK286.out 0).trans rfl
          have hcz114_1 : w58.cell? ⟨gb286, 1, none⟩ = some (.int .u64 0) := (blk_cell BK286.out 1).trans rfl
          have hcz114_2 : w58.cell? ⟨gb286, 2, none⟩ = some (.int .u64 0) := (blk_cell BK286.out 2).trans rfl
          have hcz114_3 : w58.cell? ⟨gb286, 3, none⟩ = some (.int .u64 0) := (blk_cell BK286.out 3).trans rfl
          have hcz114_4 : w58.cell? ⟨gb286, 4, none⟩ = some (.int .i64 0) := (blk_cell BK286.out 4).trans rfl
          have hfz114_0 := blk_frozen BK286.out 0
          have hfz114_1 := blk_frozen BK286.out 1
          have hfz114_2 := blk_frozen BK286.out 2
          have hfz114_3 := blk_frozen BK286.out 3
          have hfz114_4 := blk_frozen BK286.out 4
          have hnb115 := NB279_246.out
          have hnc115 := NB246_279.out
          have hnb116 := NB279_247.out
          have hnc116 := NB247_279.out
          have hnb117 := NB279_248.out
          have hnc117 := NB248_279.out
          have hnb118 := NB279_260.out
          have hnc118 := NB260_279.out
          have hnb119 := NB279_267.out
          have hnc119 := NB267_279.out
          have hcz120_0 : w58.cell? ⟨gb279, 0, none⟩ = some (.int .u64 t273) := (blk_cell BK279.out 0).trans rfl
          have hcz120_1 : w58.cell? ⟨gb279, 1, none⟩ = some (.int .u64 t274) := (blk_cell BK279.out 1).trans rfl
          have hcz120_2 : w58.cell? ⟨gb279, 2, none⟩ = some (.int .u64 t275) := (blk_cell BK279.out 2).trans rfl
          have hcz120_3 : w58.cell? ⟨gb279, 3, none⟩ = some (.int .u64 t276) := (blk_cell BK279.out 3).trans rfl
          have hcz120_4 : w58.cell? ⟨gb279, 4, none⟩ = some (.int .i64 t277) := (blk_cell BK279.out 4).trans rfl
          have hfz120_0 := blk_frozen BK279.out 0
          have hfz120_1 := blk_frozen BK279.out 1
          have hfz120_2 := blk_frozen BK279.out 2
          have hfz120_3 := blk_frozen BK279.out 3
          have hfz120_4 := blk_frozen BK279.out 4
          go_wp2
          go_meet
          case rel => exact ⟨_, (((!(t280 == t273) || (!(t281 == t274))) || ((!(t282 == t275) || (!(t283 == t276))) || (!(t284 == t277))))), (by first | rfl | (simp; done) | (simp [*]; done)), H', ⟨by first | omega | exact Nat.le_refl _⟩, ⟨by (with_reducible repeat (first | refine blk_drewN ?_ _ | refine blk_drew ?_ | refine blk_alloc ?_ _)); refine blk_far ?_ NB246_286.out _; (with_reducible repeat (first | refine blk_drewN ?_ _ | refine blk_drew ?_ | refine blk_alloc ?_ _)); refine blk_far ?_ NB246_286.out _; (with_reducible repeat (first | refine blk_drewN ?_ _ | refine blk_drew ?_ | refine blk_alloc ?_ _)); refine blk_far ?_ NB246_286.out _; (with_reducible repeat (first | refine blk_drewN ?_ _ | refine blk_drew ?_ | refine blk_alloc ?_ _)); refine blk_far ?_ NB246_286.out _; (with_reducible repeat (first | refine blk_drewN ?_ _ | refine blk_drew ?_ | refine blk_alloc ?_ _)); refine blk_far ?_ NB246_286.out _; (with_reducible repeat (first | refine blk_drewN ?_ _ | refine blk_drew ?_ | refine blk_alloc ?_ _)); exact BK246.out⟩, ⟨by (with_reducible repeat (first | refine blk_drewN ?_ _ | refine blk_drew ?_ | refine blk_alloc ?_ _)); refine blk_far ?_ NB247_286.out _; (with_reducible repeat (first | refine blk_drewN ?_ _ | refine blk_drew ?_ | refine blk_alloc ?_ _)); refine blk_far ?_ NB247_286.out _; (with_reducible repeat (first | refine blk_drewN ?_ _ | refine blk_drew ?_ | refine blk_alloc ?_ _)); refine blk_far ?_ NB247_286.out _; (with_reducible repeat (first | refine blk_drewN ?_ _ | refine blk_drew ?_ | refine blk_alloc ?_ _)); refine blk_far ?_ NB247_286.out _; (with_reducible repeat (first | refine blk_drewN ?_ _ | refine blk_drew ?_ | refine blk_alloc ?_ _)); refine blk_far ?_ NB247_286.out _; (with_reducible repeat (first | refine blk_drewN ?_ _ | refine blk_drew ?_ | refine blk_alloc ?_ _)); exact BK247.out⟩, ⟨by (with_reducible repeat (first | refine blk_drewN ?_ _ | refine blk_drew ?_ | refine blk_alloc ?_ _)); refine blk_far ?_ NB248_286.out _; (with_reducible repeat (first | refine blk_drewN ?_ _ | refine blk_drew ?_ | refine blk_alloc ?_ _)); refine blk_far ?_ NB248_286.out _; (with_reducible repeat (first | refine blk_drewN ?_ _ | refine blk_drew ?_ | refine blk_alloc ?_ _)); refine blk_far ?_ NB248_286.out _; (with_reducible repeat (first | refine blk_drewN ?_ _ | refine blk_drew ?_ | refine blk_alloc ?_ _)); refine blk_far ?_ NB248_286.out _; (with_reducible repeat (first | refine blk_drewN ?_ _ | refine blk_drew ?_ | refine blk_alloc ?_ _)); refine blk_far ?_ NB248_286.out _; (with_reducible repeat (first | refine blk_drewN ?_ _ | refine blk_drew ?_ | refine blk_alloc ?_ _)); exact BK248.out⟩, ⟨by (with_reducible repeat (first | refine blk_drewN ?_ _ | refine blk_drew ?_ | refine blk_alloc ?_ _)); refine blk_far ?_ NB260_286.out _; (with_reducible repeat (first | refine blk_drewN ?_ _ | refine blk_drew ?_ | refine blk_alloc ?_ _)); refine blk_far ?_ NB260_286.out _; (with_reducible repeat (first | refine blk_drewN ?_ _ | refine blk_drew ?_ | refine blk_alloc ?_ _)); refine blk_far ?_ NB260_286.out _; (with_reducible repeat (first | refine blk_drewN ?_ _ | refine blk_drew ?_ | refine blk_alloc ?_ _)); refine blk_far ?_ NB260_286.out _; (with_reducible repeat (first | refine blk_drewN ?_ _ | refine blk_drew ?_ | refine blk_alloc ?_ _)); refine blk_far ?_ NB260_286.out _; (with_reducible repeat (first | refine blk_drewN ?_ _ | refine blk_drew ?_ | refine blk_alloc ?_ _)); exact BK260.out⟩, ⟨by (with_reducible repeat (first | refine blk_drewN ?_ _ | refine blk_drew ?_ | refine blk_alloc ?_ _)); refine blk_far ?_ NB267_286.out _; (with_reducible repeat (first | refine blk_drewN ?_ _ | refine blk_drew ?_ | refine blk_alloc ?_ _)); refine blk_far ?_ NB267_286.out _; (with_reducible repeat (first | refine blk_drewN ?_ _ | refine blk_drew ?_ | refine blk_alloc ?_ _)); refine blk_far ?_ NB267_286.out _; (with_reducible repeat (first | refine blk_drewN ?_ _ | refine blk_drew ?_ | refine blk_alloc ?_ _)); refine blk_far ?_ NB267_286.out _; (with_reducible repeat (first | refine blk_drewN ?_ _ | refine blk_drew ?_ | refine blk_alloc ?_ _)); refine blk_far ?_ NB267_286.out _; (with_reducible repeat (first | refine blk_drewN ?_ _ | refine blk_drew ?_ | refine blk_alloc ?_ _)); exact BK267.out⟩, ⟨by (with_reducible repeat (first | refine blk_drewN ?_ _ | refine blk_drew ?_ | refine blk_alloc ?_ _)); refine blk_far ?_ NB279_286.out _; (with_reducible repeat (first | refine blk_drewN ?_ _ | refine blk_drew ?_ | refine blk_alloc ?_ _)); refine blk_far ?_ NB279_286.out _; (with_reducible repeat (first | refine blk_drewN ?_ _ | refine blk_drew ?_ | refine blk_alloc ?_ _)); refine blk_far ?_ NB279_286.out _; (with_reducible repeat (first | refine blk_drewN ?_ _ | refine blk_drew ?_ | refine blk_alloc ?_ _)); refine blk_far ?_ NB279_286.out _; (with_reducible repeat (first | refine blk_drewN ?_ _ | refine blk_drew ?_ | refine blk_alloc ?_ _)); refine blk_far ?_ NB279_286.out _; (with_reducible repeat (first | refine blk_drewN ?_ _ | refine blk_drew ?_ | refine blk_alloc ?_ _)); exact BK279.out⟩, ⟨by (with_reducible repeat (first | refine blk_drewN ?_ _ | refine blk_drew ?_ | refine blk_alloc ?_ _)); refine blk_put (cs := #[.int .u64 t280, .int .u64 t281, .int .u64 t282, .int .u64 t283, .int .i64 0]) ?_ 4 _ rfl; (with_reducible repeat (first | refine blk_drewN ?_ _ | refine blk_drew ?_ | refine blk_alloc ?_ _)); refine blk_put (cs := #[.int .u64 t280, .int .u64 t281, .int .u64 t282, .int .u64 0, .int .i64 0]) ?_ 3 _ rfl; (with_reducible repeat (first | refine blk_drewN ?_ _ | refine blk_drew ?_ | refine blk_alloc ?_ _)); refine blk_put (cs := #[.int .u64 t280, .int .u64 t281, .int .u64 0, .int .u64 0, .int .i64 0]) ?_ 2 _ rfl; (with_reducible repeat (first | refine blk_drewN ?_ _ | refine blk_drew ?_ | refine blk_alloc ?_ _)); refine blk_put (cs := #[.int .u64 t280, .int .u64 0, .int .u64 0, .int .u64 0, .int .i64 0]) ?_ 1 _ rfl; (with_reducible repeat (first | refine blk_drewN ?_ _ | refine blk_drew ?_ | refine blk_alloc ?_ _)); refine blk_put (cs := #[.int .u64 0, .int .u64 0, .int .u64 0, .int .u64 0, .int .i64 0]) ?_ 0 _ rfl; (with_reducible repeat (first | refine blk_drewN ?_ _ | refine blk_drew ?_ | refine blk_alloc ?_ _)); exact BK286.out⟩, ⟨by repeat (first | (with_reducible first | exact HB.out | apply below_alloc | apply pw_below_drewN | apply below_drew1 | refine below_set ?_ GE246.out | refine below_set ?_ GE247.out | refine below_set ?_ GE248.out | refine below_set ?_ GE260.out | refine below_set ?_ GE267.out | refine below_set ?_ GE279.out | refine below_set ?_ GE286.out) | exact HB.out)⟩⟩
        · replace c107 := Bool.eq_false_iff.mpr c107
          subst c107
          have H1 : (winnowlaw12_RegisterAgain.j0 k a3 false true a1_0 a1_1 a2_0 a2_1 t254 t255 t256 t257 t258) = some r := by rw [if_neg (show ¬ (false = true) by decide)] at H; exact H
          clear H
          have H := H1
          clear H1
          exact absurd H (by cases k <;> simp [winnowlaw12_RegisterAgain.j0, HRT_.out])
      · replace c106 := Bool.eq_false_iff.mpr c106
        subst c106
        have H1 : (winnowlaw12_RegisterAgain.j0 k a3 false false a1_0 a1_1 a2_0 a2_1 t254 t255 t256 t257 t258) = some r := by rw [if_neg (show ¬ (false = true) by decide)] at H; exact H
        clear H
        have H := H1
        clear H1
        have H' := Aside0.mk H
        clear H
        go_wp2
        go_meet
        case rel => exact ⟨_, (false), (by first | rfl | (simp; done) | (simp [*]; done)), H', ⟨by first | omega | exact Nat.le_refl _⟩, ⟨by (with_reducible repeat (first | refine blk_drewN ?_ _ | refine blk_drew ?_ | refine blk_alloc ?_ _)); refine blk_far ?_ NB246_286.out _; (with_reducible repeat (first | refine blk_drewN ?_ _ | refine blk_drew ?_ | refine blk_alloc ?_ _)); refine blk_far ?_ NB246_286.out _; (with_reducible repeat (first | refine blk_drewN ?_ _ | refine blk_drew ?_ | refine blk_alloc ?_ _)); refine blk_far ?_ NB246_286.out _; (with_reducible repeat (first | refine blk_drewN ?_ _ | refine blk_drew ?_ | refine blk_alloc ?_ _)); refine blk_far ?_ NB246_286.out _; (with_reducible repeat (first | refine blk_drewN ?_ _ | refine blk_drew ?_ | refine blk_alloc ?_ _)); refine blk_far ?_ NB246_286.out _; (with_reducible repeat (first | refine blk_drewN ?_ _ | refine blk_drew ?_ | refine blk_alloc ?_ _)); exact BK246.out⟩, ⟨by (with_reducible repeat (first | refine blk_drewN ?_ _ | refine blk_drew ?_ | refine blk_alloc ?_ _)); refine blk_far ?_ NB247_286.out _; (with_reducible repeat (first | refine blk_drewN ?_ _ | refine blk_drew ?_ | refine blk_alloc ?_ _)); refine blk_far ?_ NB247_286.out _; (with_reducible repeat (first | refine blk_drewN ?_ _ | refine blk_drew ?_ | refine blk_alloc ?_ _)); refine blk_far ?_ NB247_286.out _; (with_reducible repeat (first | refine blk_drewN ?_ _ | refine blk_drew ?_ | refine blk_alloc ?_ _)); refine blk_far ?_ NB247_286.out _; (with_reducible repeat (first | refine blk_drewN ?_ _ | refine blk_drew ?_ | refine blk_alloc ?_ _)); refine blk_far ?_ NB247_286.out _; (with_reducible repeat (first | refine blk_drewN ?_ _ | refine blk_drew ?_ | refine blk_alloc ?_ _)); exact BK247.out⟩, ⟨by (with_reducible repeat (first | refine blk_drewN ?_ _ | refine blk_drew ?_ | refine blk_alloc ?_ _)); refine blk_far ?_ NB248_286.out _; (with_reducible repeat (first | refine blk_drewN ?_ _ | refine blk_drew ?_ | refine blk_alloc ?_ _)); refine blk_far ?_ NB248_286.out _; (with_reducible repeat (first | refine blk_drewN ?_ _ | refine blk_drew ?_ | refine blk_alloc ?_ _)); refine blk_far ?_ NB248_286.out _; (with_reducible repeat (first | refine blk_drewN ?_ _ | refine blk_drew ?_ | refine blk_alloc ?_ _)); refine blk_far ?_ NB248_286.out _; (with_reducible repeat (first | refine blk_drewN ?_ _ | refine blk_drew ?_ | refine blk_alloc ?_ _)); refine blk_far ?_ NB248_286.out _; (with_reducible repeat (first | refine blk_drewN ?_ _ | refine blk_drew ?_ | refine blk_alloc ?_ _)); exact BK248.out⟩, ⟨by (with_reducible repeat (first | refine blk_drewN ?_ _ | refine blk_drew ?_ | refine blk_alloc ?_ _)); refine blk_far ?_ NB260_286.out _; (with_reducible repeat (first | refine blk_drewN ?_ _ | refine blk_drew ?_ | refine blk_alloc ?_ _)); refine blk_far ?_ NB260_286.out _; (with_reducible repeat (first | refine blk_drewN ?_ _ | refine blk_drew ?_ | refine blk_alloc ?_ _)); refine blk_far ?_ NB260_286.out _; (with_reducible repeat (first | refine blk_drewN ?_ _ | refine blk_drew ?_ | refine blk_alloc ?_ _)); refine blk_far ?_ NB260_286.out _; (with_reducible repeat (first | refine blk_drewN ?_ _ | refine blk_drew ?_ | refine blk_alloc ?_ _)); refine blk_far ?_ NB260_286.out _; (with_reducible repeat (first | refine blk_drewN ?_ _ | refine blk_drew ?_ | refine blk_alloc ?_ _)); exact BK260.out⟩, ⟨by (with_reducible repeat (first | refine blk_drewN ?_ _ | refine blk_drew ?_ | refine blk_alloc ?_ _)); refine blk_far ?_ NB267_286.out _; (with_reducible repeat (first | refine blk_drewN ?_ _ | refine blk_drew ?_ | refine blk_alloc ?_ _)); refine blk_far ?_ NB267_286.out _; (with_reducible repeat (first | refine blk_drewN ?_ _ | refine blk_drew ?_ | refine blk_alloc ?_ _)); refine blk_far ?_ NB267_286.out _; (with_reducible repeat (first | refine blk_drewN ?_ _ | refine blk_drew ?_ | refine blk_alloc ?_ _)); refine blk_far ?_ NB267_286.out _; (with_reducible repeat (first | refine blk_drewN ?_ _ | refine blk_drew ?_ | refine blk_alloc ?_ _)); refine blk_far ?_ NB267_286.out _; (with_reducible repeat (first | refine blk_drewN ?_ _ | refine blk_drew ?_ | refine blk_alloc ?_ _)); exact BK267.out⟩, ⟨by (with_reducible repeat (first | refine blk_drewN ?_ _ | refine blk_drew ?_ | refine blk_alloc ?_ _)); refine blk_far ?_ NB279_286.out _; (with_reducible repeat (first | refine blk_drewN ?_ _ | refine blk_drew ?_ | refine blk_alloc ?_ _)); refine blk_far ?_ NB279_286.out _; (with_reducible repeat (first | refine blk_drewN ?_ _ | refine blk_drew ?_ | refine blk_alloc ?_ _)); refine blk_far ?_ NB279_286.out _; (with_reducible repeat (first | refine blk_drewN ?_ _ | refine blk_drew ?_ | refine blk_alloc ?_ _)); refine blk_far ?_ NB279_286.out _; (with_reducible repeat (first | refine blk_drewN ?_ _ | refine blk_drew ?_ | refine blk_alloc ?_ _)); refine blk_far ?_ NB279_286.out _; (with_reducible repeat (first | refine blk_drewN ?_ _ | refine blk_drew ?_ | refine blk_alloc ?_ _)); exact BK279.out⟩, ⟨by (with_reducible repeat (first | refine blk_drewN ?_ _ | refine blk_drew ?_ | refine blk_alloc ?_ _)); refine blk_put (cs := #[.int .u64 t280, .int .u64 t281, .int .u64 t282, .int .u64 t283, .int .i64 0]) ?_ 4 _ rfl; (with_reducible repeat (first | refine blk_drewN ?_ _ | refine blk_drew ?_ | refine blk_alloc ?_ _)); refine blk_put (cs := #[.int .u64 t280, .int .u64 t281, .int .u64 t282, .int .u64 0, .int .i64 0]) ?_ 3 _ rfl; (with_reducible repeat (first | refine blk_drewN ?_ _ | refine blk_drew ?_ | refine blk_alloc ?_ _)); refine blk_put (cs := #[.int .u64 t280, .int .u64 t281, .int .u64 0, .int .u64 0, .int .i64 0]) ?_ 2 _ rfl; (with_reducible repeat (first | refine blk_drewN ?_ _ | refine blk_drew ?_ | refine blk_alloc ?_ _)); refine blk_put (cs := #[.int .u64 t280, .int .u64 0, .int .u64 0, .int .u64 0, .int .i64 0]) ?_ 1 _ rfl; (with_reducible repeat (first | refine blk_drewN ?_ _ | refine blk_drew ?_ | refine blk_alloc ?_ _)); refine blk_put (cs := #[.int .u64 0, .int .u64 0, .int .u64 0, .int .u64 0, .int .i64 0]) ?_ 0 _ rfl; (with_reducible repeat (first | refine blk_drewN ?_ _ | refine blk_drew ?_ | refine blk_alloc ?_ _)); exact BK286.out⟩, ⟨by repeat (first | (with_reducible first | exact HB.out | apply below_alloc | apply pw_below_drewN | apply below_drew1 | refine below_set ?_ GE246.out | refine below_set ?_ GE247.out | refine below_set ?_ GE248.out | refine below_set ?_ GE260.out | refine below_set ?_ GE267.out | refine below_set ?_ GE279.out | refine below_set ?_ GE286.out) | exact HB.out)⟩⟩
  case rest =>
    clear HC11
    try clear c1
    try clear c2
    try clear p2
    try clear c5
    try clear c6
    try clear c7
    try clear c8
    try clear c9
    try clear c10
    try clear c11
    try clear c23
    try clear c24
    try clear c50
    try clear c51
    try clear c52
    try clear c53
    try clear c54
    try clear c59
    try clear c60
    try clear c61
    try clear c62
    try clear c63
    try clear c64
    try clear c66
    try clear c67
    try clear c68
    try clear c68b0
    try clear c69
    try clear c70
    try clear c71
    try clear c72
    try clear c73
    try clear c74
    try clear c75
    try clear c76
    try clear c78
    try clear c79
    try clear c80
    try clear c81
    try clear c82
    try clear c84
    try clear c85
    try clear c86
    try clear c87
    try clear c89
    try clear c90
    try clear c91
    try clear c93
    try clear c94
    try clear c95
    try clear c96
    try clear c97
    try clear c98
    try clear c100
    try clear c101
    try clear c102
    try clear c103
    try clear c104
    try clear c106
    try clear c107
    try clear c108
    try clear c109
    try clear c110
    try clear c111
    try clear c112
    try clear c113
    try clear c115
    try clear c116
    try clear c117
    try clear c118
    try clear c119
    try clear hcz105_0
    try clear hcz105_1
    try clear hcz105_2
    try clear hcz105_3
    try clear hcz105_4
    try clear hcz114_0
    try clear hcz114_1
    try clear hcz114_2
    try clear hcz114_3
    try clear hcz114_4
    try clear hcz120_0
    try clear hcz120_1
    try clear hcz120_2
    try clear hcz120_3
    try clear hcz120_4
    try clear hcz55_0
    try clear hcz55_1
    try clear hcz55_2
    try clear hcz55_3
    try clear hcz55_4
    try clear hcz56_0
    try clear hcz56_1
    try clear hcz65_0
    try clear hcz65_1
    try clear hcz65_2
    try clear hcz65_3
    try clear hcz65_4
    try clear hcz77_0
    try clear hcz77_1
    try clear hcz77_2
    try clear hcz77_3
    try clear hcz77_4
    try clear hcz83_0
    try clear hcz83_1
    try clear hcz83_2
    try clear hcz83_3
    try clear hcz83_4
    try clear hcz88_0
    try clear hcz88_1
    try clear hcz88_2
    try clear hcz88_3
    try clear hcz88_4
    try clear hcz92_0
    try clear hcz92_1
    try clear hcz92_2
    try clear hcz92_3
    try clear hcz92_4
    try clear hcz99_0
    try clear hcz99_1
    try clear hcz99_2
    try clear hcz99_3
    try clear hcz99_4
    try clear hfz105_0
    try clear hfz105_1
    try clear hfz105_2
    try clear hfz105_3
    try clear hfz105_4
    try clear hfz114_0
    try clear hfz114_1
    try clear hfz114_2
    try clear hfz114_3
    try clear hfz114_4
    try clear hfz120_0
    try clear hfz120_1
    try clear hfz120_2
    try clear hfz120_3
    try clear hfz120_4
    try clear hfz55_0
    try clear hfz55_1
    try clear hfz55_2
    try clear hfz55_3
    try clear hfz55_4
    try clear hfz56_0
    try clear hfz56_1
    try clear hfz65_0
    try clear hfz65_1
    try clear hfz65_2
    try clear hfz65_3
    try clear hfz65_4
    try clear hfz77_0
    try clear hfz77_1
    try clear hfz77_2
    try clear hfz77_3
    try clear hfz77_4
    try clear hfz83_0
    try clear hfz83_1
    try clear hfz83_2
    try clear hfz83_3
    try clear hfz83_4
    try clear hfz88_0
    try clear hfz88_1
    try clear hfz88_2
    try clear hfz88_3
    try clear hfz88_4
    try clear hfz92_0
    try clear hfz92_1
    try clear hfz92_2
    try clear hfz92_3
    try clear hfz92_4
    try clear hfz99_0
    try clear hfz99_1
    try clear hfz99_2
    try clear hfz99_3
    try clear hfz99_4
    obtain ⟨kq, x70_10, rfl, HA, HJ10, BK246, BK247, BK248, BK260, BK267, BK279, BK286, HB⟩ := hcut
    cases kq with
    | zero => exact absurd HA.out (by simp [winnowlaw12_RegisterAgain.j0])
    | succ kj10 =>
      have H := HA.out
      clear HA
      simp only [winnowlaw12_RegisterAgain.j0] at H
      by_cases c121 : x70_10 = true
      · subst c121
        have H1 : (some false) = some r := by rw [if_pos rfl] at H; exact H
        clear H
        have H := H1
        clear H1
        exact absurd ((Option.some.inj H).trans HRT_.out) (by decide)
      · replace c121 := Bool.eq_false_iff.mpr c121
        subst c121
        have H1 : (if t259 = true then ((winnowref11_Less.f a2_0 a2_1 a1_0 a1_1).bind fun t287 => (winnowlaw12_RegisterAgain.j1 kj10 a3 (!t287) a2_0 a2_1 t254 t255 t256 t257 t258)) else (winnowlaw12_RegisterAgain.j1 kj10 a3 true a2_0 a2_1 t254 t255 t256 t257 t258)) = some r := by rw [if_neg (show ¬ (false = true) by decide)] at H; exact H
        clear H
        have H := H1
        clear H1
        have HC122 := Aside0.mk H
        clear H
        go_upto_region 7 with (fail)
        go_cut [78] (fun v78 wc => ∃ (kq : Nat) (x78_121 : Bool), v78 = .bool x78_121 ∧ Aside0 (winnowlaw12_RegisterAgain.j1 kq a3 x78_121 a2_0 a2_1 t254 t255 t256 t257 t258 = some r) ∧ Aside0 (kq ≤ kj10) ∧ Aside0 (wc.heap[gb246]? = some (.cells #[.int .u64 a0_0, .int .u64 a0_1, .int .u64 a0_2, .int .u64 a0_3, .int .i64 a0_4] 40 (0, 0))) ∧ Aside0 (wc.heap[gb247]? = some (.cells #[.int .u64 a1_0, .int .u64 a1_1] 24 (0, 0))) ∧ Aside0 (wc.heap[gb248]? = some (.cells #[.int .u64 a2_0, .int .u64 a2_1] 24 (0, 0))) ∧ Aside0 (wc.heap[gb260]? = some (.cells #[.int .u64 t254, .int .u64 t255, .int .u64 t256, .int .u64 t257, .int .i64 t258] 42 (0, 0))) ∧ Aside0 (wc.heap[gb267]? = some (.cells #[.int .u64 t261, .int .u64 t262, .int .u64 t263, .int .u64 t264, .int .i64 t265] 42 (0, 0))) ∧ Aside0 (wc.heap[gb279]? = some (.cells #[.int .u64 t273, .int .u64 t274, .int .u64 t275, .int .u64 t276, .int .i64 t277] 42 (0, 0))) ∧ Aside0 (wc.heap[gb286]? = some (.cells #[.int .u64 t280, .int .u64 t281, .int .u64 t282, .int .u64 t283, .int .i64 t284] 42 (0, 0))) ∧ Aside0 (Below w.heap.size w wc))
        case first =>
          have H := HC122.out
          clear HC122
          by_cases c123 : t259 = true
          · subst c123
            have H1 : ((winnowref11_Less.f a2_0 a2_1 a1_0 a1_1).bind fun t287 => (winnowlaw12_RegisterAgain.j1 kj10 a3 (!t287) a2_0 a2_1 t254 t255 t256 t257 t258)) = some r := by rw [if_pos rfl] at H; exact H
            clear H
            have H := H1
            clear H1
            replace H := Option.bind_eq_some_iff.mp H
            obtain ⟨t287, A1240, H⟩ := H
            replace H : (winnowlaw12_RegisterAgain.j1 kj10 a3 (!t287) a2_0 a2_1 t254 t255 t256 t257 t258) = some r := H
            have A124 := Aside0.mk A1240
            clear A1240
            have H' := Aside0.mk H
            clear H
            have hnb125 := NB248_246.out
            have hnc125 := NB246_248.out
            have hnb126 := NB248_247.out
            have hnc126 := NB247_248.out
            have hnb127 := NB248_260.out
            have hnc127 := NB260_248.out
            have hnb128 := NB248_267.out
            have hnc128 := NB267_248.out
            have hnb129 := NB248_279.out
            have hnc129 := NB279_248.out
            have hnb130 := NB248_286.out
            have hnc130 := NB286_248.out
            have hcz131_0 : wc.cell? ⟨gb248, 0, none⟩ = some (.int .u64 a2_0) := (blk_cell BK248.out 0).trans rfl
            have hcz131_1 : wc.cell? ⟨gb248, 1, none⟩ = some (.int .u64 a2_1) := (blk_cell BK248.out 1).trans rfl
            have hfz131_0 := blk_frozen BK248.out 0
            have hfz131_1 := blk_frozen BK248.out 1
            have hnb132 := NB247_246.out
            have hnc132 := NB246_247.out
            have hnb133 := NB247_260.out
            have hnc133 := NB260_247.out
            have hnb134 := NB247_267.out
            have hnc134 := NB267_247.out
            have hnb135 := NB247_279.out
            have hnc135 := NB279_247.out
            have hnb136 := NB247_286.out
            have hnc136 := NB286_247.out
            have hcz137_0 : wc.cell? ⟨gb247, 0, none⟩ = some (.int .u64 a1_0) := (blk_cell BK247.out 0).trans rfl
            have hcz137_1 : wc.cell? ⟨gb247, 1, none⟩ = some (.int .u64 a1_1) := (blk_cell BK247.out 1).trans rfl
            have hfz137_0 := blk_frozen BK247.out 0
            have hfz137_1 := blk_frozen BK247.out 1
            go_wp2_with (first | (go_at_call 17; (with_reducible refine (winnowref11_Less.calls a2_0 a2_1 a1_0 a1_1 t287 _ A124.out).mono ?_); rintro e w138 ⟨rfl, hb⟩; have n0_ := Aside0.mk (blk_below (g := gb246) (o := .cells #[.int .u64 a0_0, .int .u64 a0_1, .int .u64 a0_2, .int .u64 a0_3, .int .i64 a0_4] 40 (0, 0)) (by (with_reducible repeat (first | refine blk_drewN ?_ _ | refine blk_drew ?_ | refine blk_alloc ?_ _)); exact BK246.out) hb); have n1_ := Aside0.mk (blk_below (g := gb247) (o := .cells #[.int .u64 a1_0, .int .u64 a1_1] 24 (0, 0)) (by (with_reducible repeat (first | refine blk_drewN ?_ _ | refine blk_drew ?_ | refine blk_alloc ?_ _)); exact BK247.out) hb); have n2_ := Aside0.mk (blk_below (g := gb248) (o := .cells #[.int .u64 a2_0, .int .u64 a2_1] 24 (0, 0)) (by (with_reducible repeat (first | refine blk_drewN ?_ _ | refine blk_drew ?_ | refine blk_alloc ?_ _)); exact BK248.out) hb); have n3_ := Aside0.mk (blk_below (g := gb260) (o := .cells #[.int .u64 t254, .int .u64 t255, .int .u64 t256, .int .u64 t257, .int .i64 t258] 42 (0, 0)) (by (with_reducible repeat (first | refine blk_drewN ?_ _ | refine blk_drew ?_ | refine blk_alloc ?_ _)); exact BK260.out) hb); have n4_ := Aside0.mk (blk_below (g := gb267) (o := .cells #[.int .u64 t261, .int .u64 t262, .int .u64 t263, .int .u64 t264, .int .i64 t265] 42 (0, 0)) (by (with_reducible repeat (first | refine blk_drewN ?_ _ | refine blk_drew ?_ | refine blk_alloc ?_ _)); exact BK267.out) hb); have n5_ := Aside0.mk (blk_below (g := gb279) (o := .cells #[.int .u64 t273, .int .u64 t274, .int .u64 t275, .int .u64 t276, .int .i64 t277] 42 (0, 0)) (by (with_reducible repeat (first | refine blk_drewN ?_ _ | refine blk_drew ?_ | refine blk_alloc ?_ _)); exact BK279.out) hb); have n6_ := Aside0.mk (blk_below (g := gb286) (o := .cells #[.int .u64 t280, .int .u64 t281, .int .u64 t282, .int .u64 t283, .int .i64 t284] 42 (0, 0)) (by (with_reducible repeat (first | refine blk_drewN ?_ _ | refine blk_drew ?_ | refine blk_alloc ?_ _)); exact BK286.out) hb); have n7_ := Aside0.mk (below_step (by repeat (first | (with_reducible first | exact HB.out | apply below_alloc | apply pw_below_drewN | apply below_drew1 | refine below_set ?_ GE246.out | refine below_set ?_ GE247.out | refine below_set ?_ GE248.out | refine below_set ?_ GE260.out | refine below_set ?_ GE267.out | refine below_set ?_ GE279.out | refine below_set ?_ GE286.out) | exact HB.out)) hb); clear BK246; clear BK247; clear BK248; clear BK260; clear BK267; clear BK279; clear BK286; clear HB; have BK246 := n0_; have BK247 := n1_; have BK248 := n2_; have BK260 := n3_; have BK267 := n4_; have BK279 := n5_; have BK286 := n6_; have HB := n7_; clear n0_ n1_ n2_ n3_ n4_ n5_ n6_ n7_; (try clear hb); (try clear hb2); (try clear hk); (try clear hi)))
            go_meet
            case rel => exact ⟨_, (!t287), (by first | rfl | (simp; done) | (simp [*]; done)), H', ⟨by have := HJ10.out; first | omega | exact Nat.le_refl _⟩, ⟨by (with_reducible repeat (first | refine blk_drewN ?_ _ | refine blk_drew ?_ | refine blk_alloc ?_ _)); exact BK246.out⟩, ⟨by (with_reducible repeat (first | refine blk_drewN ?_ _ | refine blk_drew ?_ | refine blk_alloc ?_ _)); exact BK247.out⟩, ⟨by (with_reducible repeat (first | refine blk_drewN ?_ _ | refine blk_drew ?_ | refine blk_alloc ?_ _)); exact BK248.out⟩, ⟨by (with_reducible repeat (first | refine blk_drewN ?_ _ | refine blk_drew ?_ | refine blk_alloc ?_ _)); exact BK260.out⟩, ⟨by (with_reducible repeat (first | refine blk_drewN ?_ _ | refine blk_drew ?_ | refine blk_alloc ?_ _)); exact BK267.out⟩, ⟨by (with_reducible repeat (first | refine blk_drewN ?_ _ | refine blk_drew ?_ | refine blk_alloc ?_ _)); exact BK279.out⟩, ⟨by (with_reducible repeat (first | refine blk_drewN ?_ _ | refine blk_drew ?_ | refine blk_alloc ?_ _)); exact BK286.out⟩, ⟨by repeat (first | (with_reducible first | exact HB.out | apply below_alloc | apply pw_below_drewN | apply below_drew1 | refine below_set ?_ GE246.out | refine below_set ?_ GE247.out | refine below_set ?_ GE248.out | refine below_set ?_ GE260.out | refine below_set ?_ GE267.out | refine below_set ?_ GE279.out | refine below_set ?_ GE286.out) | exact HB.out)⟩⟩
          · replace c123 := Bool.eq_false_iff.mpr c123
            subst c123
            have H1 : (winnowlaw12_RegisterAgain.j1 kj10 a3 true a2_0 a2_1 t254 t255 t256 t257 t258) = some r := by rw [if_neg (show ¬ (false = true) by decide)] at H; exact H
            clear H
            have H := H1
            clear H1
            have H' := Aside0.mk H
            clear H
            go_wp2
            go_meet
            case rel => exact ⟨_, (true), (by first | rfl | (simp; done) | (simp [*]; done)), H', ⟨by have := HJ10.out; first | omega | exact Nat.le_refl _⟩, ⟨by (with_reducible repeat (first | refine blk_drewN ?_ _ | refine blk_drew ?_ | refine blk_alloc ?_ _)); exact BK246.out⟩, ⟨by (with_reducible repeat (first | refine blk_drewN ?_ _ | refine blk_drew ?_ | refine blk_alloc ?_ _)); exact BK247.out⟩, ⟨by (with_reducible repeat (first | refine blk_drewN ?_ _ | refine blk_drew ?_ | refine blk_alloc ?_ _)); exact BK248.out⟩, ⟨by (with_reducible repeat (first | refine blk_drewN ?_ _ | refine blk_drew ?_ | refine blk_alloc ?_ _)); exact BK260.out⟩, ⟨by (with_reducible repeat (first | refine blk_drewN ?_ _ | refine blk_drew ?_ | refine blk_alloc ?_ _)); exact BK267.out⟩, ⟨by (with_reducible repeat (first | refine blk_drewN ?_ _ | refine blk_drew ?_ | refine blk_alloc ?_ _)); exact BK279.out⟩, ⟨by (with_reducible repeat (first | refine blk_drewN ?_ _ | refine blk_drew ?_ | refine blk_alloc ?_ _)); exact BK286.out⟩, ⟨by repeat (first | (with_reducible first | exact HB.out | apply below_alloc | apply pw_below_drewN | apply below_drew1 | refine below_set ?_ GE246.out | refine below_set ?_ GE247.out | refine below_set ?_ GE248.out | refine below_set ?_ GE260.out | refine below_set ?_ GE267.out | refine below_set ?_ GE279.out | refine below_set ?_ GE286.out) | exact HB.out)⟩⟩
        case rest =>
          clear HC122
          try clear c1
          try clear c2
          try clear p2
          try clear c5
          try clear c6
          try clear c7
          try clear c8
          try clear c9
          try clear c10
          try clear c11
          try clear c12
          try clear c13
          try clear c23
          try clear c24
          try clear c50
          try clear c51
          try clear c52
          try clear c53
          try clear c54
          try clear c59
          try clear c60
          try clear c61
          try clear c62
          try clear c63
          try clear c64
          try clear c66
          try clear c67
          try clear c68
          try clear c68b0
          try clear c69
          try clear c70
          try clear c71
          try clear c72
          try clear c73
          try clear c74
          try clear c75
          try clear c76
          try clear c78
          try clear c79
          try clear c80
          try clear c81
          try clear c82
          try clear c84
          try clear c85
          try clear c86
          try clear c87
          try clear c89
          try clear c90
          try clear c91
          try clear c93
          try clear c94
          try clear c95
          try clear c96
          try clear c97
          try clear c98
          try clear c100
          try clear c101
          try clear c102
          try clear c103
          try clear c104
          try clear c106
          try clear c107
          try clear c108
          try clear c109
          try clear c110
          try clear c111
          try clear c112
          try clear c113
          try clear c115
          try clear c116
          try clear c117
          try clear c118
          try clear c119
          try clear c121
          try clear c123
          try clear c125
          try clear c126
          try clear c127
          try clear c128
          try clear c129
          try clear c130
          try clear c132
          try clear c133
          try clear c134
          try clear c135
          try clear c136
          try clear hcz105_0
          try clear hcz105_1
          try clear hcz105_2
          try clear hcz105_3
          try clear hcz105_4
          try clear hcz114_0
          try clear hcz114_1
          try clear hcz114_2
          try clear hcz114_3
          try clear hcz114_4
          try clear hcz120_0
          try clear hcz120_1
          try clear hcz120_2
          try clear hcz120_3
          try clear hcz120_4
          try clear hcz131_0
          try clear hcz131_1
          try clear hcz137_0
          try clear hcz137_1
          try clear hcz55_0
          try clear hcz55_1
          try clear hcz55_2
          try clear hcz55_3
          try clear hcz55_4
          try clear hcz56_0
          try clear hcz56_1
          try clear hcz65_0
          try clear hcz65_1
          try clear hcz65_2
          try clear hcz65_3
          try clear hcz65_4
          try clear hcz77_0
          try clear hcz77_1
          try clear hcz77_2
          try clear hcz77_3
          try clear hcz77_4
          try clear hcz83_0
          try clear hcz83_1
          try clear hcz83_2
          try clear hcz83_3
          try clear hcz83_4
          try clear hcz88_0
          try clear hcz88_1
          try clear hcz88_2
          try clear hcz88_3
          try clear hcz88_4
          try clear hcz92_0
          try clear hcz92_1
          try clear hcz92_2
          try clear hcz92_3
          try clear hcz92_4
          try clear hcz99_0
          try clear hcz99_1
          try clear hcz99_2
          try clear hcz99_3
          try clear hcz99_4
          try clear hfz105_0
          try clear hfz105_1
          try clear hfz105_2
          try clear hfz105_3
          try clear hfz105_4
          try clear hfz114_0
          try clear hfz114_1
          try clear hfz114_2
          try clear hfz114_3
          try clear hfz114_4
          try clear hfz120_0
          try clear hfz120_1
          try clear hfz120_2
          try clear hfz120_3
          try clear hfz120_4
          try clear hfz131_0
          try clear hfz131_1
          try clear hfz137_0
          try clear hfz137_1
          try clear hfz55_0
          try clear hfz55_1
          try clear hfz55_2
          try clear hfz55_3
          try clear hfz55_4
          try clear hfz56_0
          try clear hfz56_1
          try clear hfz65_0
          try clear hfz65_1
          try clear hfz65_2
          try clear hfz65_3
          try clear hfz65_4
          try clear hfz77_0
          try clear hfz77_1
          try clear hfz77_2
          try clear hfz77_3
          try clear hfz77_4
          try clear hfz83_0
          try clear hfz83_1
          try clear hfz83_2
          try clear hfz83_3
          try clear hfz83_4
          try clear hfz88_0
          try clear hfz88_1
          try clear hfz88_2
          try clear hfz88_3
          try clear hfz88_4
          try clear hfz92_0
          try clear hfz92_1
          try clear hfz92_2
          try clear hfz92_3
          try clear hfz92_4
          try clear hfz99_0
          try clear hfz99_1
          try clear hfz99_2
          try clear hfz99_3
          try clear hfz99_4
          try clear p2
          obtain ⟨kq, x78_121, rfl, HA, HJ121, BK246, BK247, BK248, BK260, BK267, BK279, BK286, HB⟩ := hcut
          cases kq with
          | zero => exact absurd HA.out (by simp [winnowlaw12_RegisterAgain.j1])
          | succ kj121 =>
            have H := HA.out
            clear HA
            simp only [winnowlaw12_RegisterAgain.j1] at H
            by_cases c139 : x78_121 = true
            · subst c139
              have H1 : ((winnowlaw12_alive.f kj121).bind fun t288 => (some t288)) = some r := by rw [if_pos rfl] at H; exact H
              clear H
              have H := H1
              clear H1
              replace H := Option.bind_eq_some_iff.mp H
              obtain ⟨t288, A1400, H⟩ := H
              replace H : (some t288) = some r := H
              have A140 := Aside0.mk A1400
              clear A1400
              obtain rfl := Option.some.inj H
              go_wp2_with (first | ((with_reducible refine gate_callee (f := 21) rfl ?_); refine goesL_ (some 79) rfl rfl Try.func21 (by kernel_rfl) rfl #[] rfl (by (try simp only [List.map_toArray, List.map_cons, List.map_nil]); first | done | rfl | (simp only [List.length_drop, List.length_take]; rfl)) ?_; (with_reducible refine (winnowlaw12_alive.calls kj121  t288 _ A140.out).mono ?_); rintro e w141 ⟨rfl, hb⟩; refine ⟨_, rfl, ?_⟩; have n0_ := Aside0.mk (blk_below (g := gb246) (o := .cells #[.int .u64 a0_0, .int .u64 a0_1, .int .u64 a0_2, .int .u64 a0_3, .int .i64 a0_4] 40 (0, 0)) (by (with_reducible repeat (first | refine blk_drewN ?_ _ | refine blk_drew ?_ | refine blk_alloc ?_ _)); exact BK246.out) hb); have n1_ := Aside0.mk (blk_below (g := gb247) (o := .cells #[.int .u64 a1_0, .int .u64 a1_1] 24 (0, 0)) (by (with_reducible repeat (first | refine blk_drewN ?_ _ | refine blk_drew ?_ | refine blk_alloc ?_ _)); exact BK247.out) hb); have n2_ := Aside0.mk (blk_below (g := gb248) (o := .cells #[.int .u64 a2_0, .int .u64 a2_1] 24 (0, 0)) (by (with_reducible repeat (first | refine blk_drewN ?_ _ | refine blk_drew ?_ | refine blk_alloc ?_ _)); exact BK248.out) hb); have n3_ := Aside0.mk (blk_below (g := gb260) (o := .cells #[.int .u64 t254, .int .u64 t255, .int .u64 t256, .int .u64 t257, .int .i64 t258] 42 (0, 0)) (by (with_reducible repeat (first | refine blk_drewN ?_ _ | refine blk_drew ?_ | refine blk_alloc ?_ _)); exact BK260.out) hb); have n4_ := Aside0.mk (blk_below (g := gb267) (o := .cells #[.int .u64 t261, .int .u64 t262, .int .u64 t263, .int .u64 t264, .int .i64 t265] 42 (0, 0)) (by (with_reducible repeat (first | refine blk_drewN ?_ _ | refine blk_drew ?_ | refine blk_alloc ?_ _)); exact BK267.out) hb); have n5_ := Aside0.mk (blk_below (g := gb279) (o := .cells #[.int .u64 t273, .int .u64 t274, .int .u64 t275, .int .u64 t276, .int .i64 t277] 42 (0, 0)) (by (with_reducible repeat (first | refine blk_drewN ?_ _ | refine blk_drew ?_ | refine blk_alloc ?_ _)); exact BK279.out) hb); have n6_ := Aside0.mk (blk_below (g := gb286) (o := .cells #[.int .u64 t280, .int .u64 t281, .int .u64 t282, .int .u64 t283, .int .i64 t284] 42 (0, 0)) (by (with_reducible repeat (first | refine blk_drewN ?_ _ | refine blk_drew ?_ | refine blk_alloc ?_ _)); exact BK286.out) hb); have n7_ := Aside0.mk (below_step (by repeat (first | (with_reducible first | exact HB.out | apply below_alloc | apply pw_below_drewN | apply below_drew1 | refine below_set ?_ GE246.out | refine below_set ?_ GE247.out | refine below_set ?_ GE248.out | refine below_set ?_ GE260.out | refine below_set ?_ GE267.out | refine below_set ?_ GE279.out | refine below_set ?_ GE286.out) | exact HB.out)) hb); clear BK246; clear BK247; clear BK248; clear BK260; clear BK267; clear BK279; clear BK286; clear HB; have BK246 := n0_; have BK247 := n1_; have BK248 := n2_; have BK260 := n3_; have BK267 := n4_; have BK279 := n5_; have BK286 := n6_; have HB := n7_; clear n0_ n1_ n2_ n3_ n4_ n5_ n6_ n7_; (try clear hb); (try clear hb2); (try clear hk); (try clear hi)))
              go_ret
              exact ⟨by first | rfl | (simp [errW_none, errW_some] <;> rfl) | (simp [*, errW_none, errW_some] <;> rfl), by repeat (first | (with_reducible first | exact HB.out | apply below_alloc | apply pw_below_drewN | apply below_drew1 | refine below_set ?_ GE246.out | refine below_set ?_ GE247.out | refine below_set ?_ GE248.out | refine below_set ?_ GE260.out | refine below_set ?_ GE267.out | refine below_set ?_ GE279.out | refine below_set ?_ GE286.out) | exact HB.out)⟩
            · replace c139 := Bool.eq_false_iff.mpr c139
              subst c139
              have H1 : ((register_Prepare.f kj121 t254 t255 t256 t257 t258 a2_0 a2_1).bind fun bt289 => ((register_Accept.f kj121 t254 t255 t256 t257 t258 a2_0 a2_1 a3).bind fun bt296 => (if bt289.2.2.2.2.2 = true then (some false) else (if bt296.2.2.2.2.2 = true then (some false) else ((winnowlaw12_alive.f kj121).bind fun t303 => (some t303)))))) = some r := by rw [if_neg (show ¬ (false = true) by decide)] at H; exact H
              clear H
              have H := H1
              clear H1
              replace H := Option.bind_eq_some_iff.mp H
              obtain ⟨⟨t289, t290, t291, t292, t293, t294⟩, A1420, H⟩ := H
              replace H : ((register_Accept.f kj121 t254 t255 t256 t257 t258 a2_0 a2_1 a3).bind fun bt296 => (if t294 = true then (some false) else (if bt296.2.2.2.2.2 = true then (some false) else ((winnowlaw12_alive.f kj121).bind fun t303 => (some t303))))) = some r := H
              have A142 := Aside0.mk A1420
              clear A1420
              replace H := Option.bind_eq_some_iff.mp H
              obtain ⟨⟨t296, t297, t298, t299, t300, t301⟩, A1430, H⟩ := H
              replace H : (if t294 = true then (some false) else (if t301 = true then (some false) else ((winnowlaw12_alive.f kj121).bind fun t303 => (some t303)))) = some r := H
              have A143 := Aside0.mk A1430
              clear A1430
              by_cases c144 : t294 = true
              · subst c144
                have H1 : (some false) = some r := by rw [if_pos rfl] at H; exact H
                clear H
                have H := H1
                clear H1
                exact absurd ((Option.some.inj H).trans HRT_.out) (by decide)
              · replace c144 := Bool.eq_false_iff.mpr c144
                subst c144
                have H1 : (if t301 = true then (some false) else ((winnowlaw12_alive.f kj121).bind fun t303 => (some t303))) = some r := by rw [if_neg (show ¬ (false = true) by decide)] at H; exact H
                clear H
                have H := H1
                clear H1
                by_cases c145 : t301 = true
                · subst c145
                  have H1 : (some false) = some r := by rw [if_pos rfl] at H; exact H
                  clear H
                  have H := H1
                  clear H1
                  exact absurd ((Option.some.inj H).trans HRT_.out) (by decide)
                · replace c145 := Bool.eq_false_iff.mpr c145
                  subst c145
                  have H1 : ((winnowlaw12_alive.f kj121).bind fun t303 => (some t303)) = some r := by rw [if_neg (show ¬ (false = true) by decide)] at H; exact H
                  clear H
                  have H := H1
                  clear H1
                  replace H := Option.bind_eq_some_iff.mp H
                  obtain ⟨t303, A1460, H⟩ := H
                  replace H : (some t303) = some r := H
                  have A146 := Aside0.mk A1460
                  clear A1460
                  obtain rfl := Option.some.inj H
                  have hnb147 := NB260_246.out
                  have hnc147 := NB246_260.out
                  have hnb148 := NB260_247.out
                  have hnc148 := NB247_260.out
                  have hnb149 := NB260_248.out
                  have hnc149 := NB248_260.out
                  have hnb150 := NB260_267.out
                  have hnc150 := NB267_260.out
                  have hnb151 := NB260_279.out
                  have hnc151 := NB279_260.out
                  have hnb152 := NB260_286.out
                  have hnc152 := NB286_260.out
                  have hcz153_0 : wc.cell? ⟨gb260, 0, none⟩ = some (.int .u64 t254) := (blk_cell BK260.out 0).trans rfl
                  have hcz153_1 : wc.cell? ⟨gb260, 1, none⟩ = some (.int .u64 t255) := (blk_cell BK260.out 1).trans rfl
                  have hcz153_2 : wc.cell? ⟨gb260, 2, none⟩ = some (.int .u64 t256) := (blk_cell BK260.out 2).trans rfl
                  have hcz153_3 : wc.cell? ⟨gb260, 3, none⟩ = some (.int .u64 t257) := (blk_cell BK260.out 3).trans rfl
                  have hcz153_4 : wc.cell? ⟨gb260, 4, none⟩ = some (.int .i64 t258) := (blk_cell BK260.out 4).trans rfl
                  have hfz153_0 := blk_frozen BK260.out 0
                  have hfz153_1 := blk_frozen BK260.out 1
                  have hfz153_2 := blk_frozen BK260.out 2
                  have hfz153_3 := blk_frozen BK260.out 3
                  have hfz153_4 := blk_frozen BK260.out 4
                  have hnb154 := NB248_246.out
                  have hnc154 := NB246_248.out
                  have hnb155 := NB248_247.out
                  have hnc155 := NB247_248.out
                  have hnb156 := NB248_267.out
                  have hnc156 := NB267_248.out
                  have hnb157 := NB248_279.out
                  have hnc157 := NB279_248.out
                  have hnb158 := NB248_286.out
                  have hnc158 := NB286_248.out
                  have hcz159_0 : wc.cell? ⟨gb248, 0, none⟩ = some (.int .u64 a2_0) := (blk_cell BK248.out 0).trans rfl
                  have hcz159_1 : wc.cell? ⟨gb248, 1, none⟩ = some (.int .u64 a2_1) := (blk_cell BK248.out 1).trans rfl
                  have hfz159_0 := blk_frozen BK248.out 0
                  have hfz159_1 := blk_frozen BK248.out 1
                  go_wp2_with (first | ((with_reducible refine gate_callee (f := 22) rfl ?_); refine goesL_ (some 83) rfl rfl Try.func22 (by kernel_rfl) rfl #[.agg #[.int .u64 t254, .int .u64 t255, .int .u64 t256, .int .u64 t257, .int .i64 t258], .agg #[.int .u64 a2_0, .int .u64 a2_1]] rfl (by (try simp only [List.map_toArray, List.map_cons, List.map_nil]); first | done | rfl | (simp only [List.length_drop, List.length_take]; rfl)) ?_; (with_reducible refine (register_Prepare.calls kj121 t254 t255 t256 t257 t258 a2_0 a2_1 t289 t290 t291 t292 t293 false _ A142.out).mono ?_); rintro e w160 ⟨rfl, hb⟩; refine ⟨_, rfl, ?_⟩; have n0_ := Aside0.mk (blk_below (g := gb246) (o := .cells #[.int .u64 a0_0, .int .u64 a0_1, .int .u64 a0_2, .int .u64 a0_3, .int .i64 a0_4] 40 (0, 0)) (by (with_reducible repeat (first | refine blk_drewN ?_ _ | refine blk_drew ?_ | refine blk_alloc ?_ _)); exact BK246.out) hb); have n1_ := Aside0.mk (blk_below (g := gb247) (o := .cells #[.int .u64 a1_0, .int .u64 a1_1] 24 (0, 0)) (by (with_reducible repeat (first | refine blk_drewN ?_ _ | refine blk_drew ?_ | refine blk_alloc ?_ _)); exact BK247.out) hb); have n2_ := Aside0.mk (blk_below (g := gb248) (o := .cells #[.int .u64 a2_0, .int .u64 a2_1] 24 (0, 0)) (by (with_reducible repeat (first | refine blk_drewN ?_ _ | refine blk_drew ?_ | refine blk_alloc ?_ _)); exact BK248.out) hb); have n3_ := Aside0.mk (blk_below (g := gb260) (o := .cells #[.int .u64 t254, .int .u64 t255, .int .u64 t256, .int .u64 t257, .int .i64 t258] 42 (0, 0)) (by (with_reducible repeat (first | refine blk_drewN ?_ _ | refine blk_drew ?_ | refine blk_alloc ?_ _)); exact BK260.out) hb); have n4_ := Aside0.mk (blk_below (g := gb267) (o := .cells #[.int .u64 t261, .int .u64 t262, .int .u64 t263, .int .u64 t264, .int .i64 t265] 42 (0, 0)) (by (with_reducible repeat (first | refine blk_drewN ?_ _ | refine blk_drew ?_ | refine blk_alloc ?_ _)); exact BK267.out) hb); have n5_ := Aside0.mk (blk_below (g := gb279) (o := .cells #[.int .u64 t273, .int .u64 t274, .int .u64 t275, .int .u64 t276, .int .i64 t277] 42 (0, 0)) (by (with_reducible repeat (first | refine blk_drewN ?_ _ | refine blk_drew ?_ | refine blk_alloc ?_ _)); exact BK279.out) hb); have n6_ := Aside0.mk (blk_below (g := gb286) (o := .cells #[.int .u64 t280, .int .u64 t281, .int .u64 t282, .int .u64 t283, .int .i64 t284] 42 (0, 0)) (by (with_reducible repeat (first | refine blk_drewN ?_ _ | refine blk_drew ?_ | refine blk_alloc ?_ _)); exact BK286.out) hb); have n7_ := Aside0.mk (below_step (by repeat (first | (with_reducible first | exact HB.out | apply below_alloc | apply pw_below_drewN | apply below_drew1 | refine below_set ?_ GE246.out | refine below_set ?_ GE247.out | refine below_set ?_ GE248.out | refine below_set ?_ GE260.out | refine below_set ?_ GE267.out | refine below_set ?_ GE279.out | refine below_set ?_ GE286.out) | exact HB.out)) hb); clear BK246; clear BK247; clear BK248; clear BK260; clear BK267; clear BK279; clear BK286; clear HB; have BK246 := n0_; have BK247 := n1_; have BK248 := n2_; have BK260 := n3_; have BK267 := n4_; have BK279 := n5_; have BK286 := n6_; have HB := n7_; clear n0_ n1_ n2_ n3_ n4_ n5_ n6_ n7_; (try clear hb); (try clear hb2); (try clear hk); (try clear hi)) | ((with_reducible refine gate_dst (N := 17) rfl ?_); refine box_event ?hg (N := 17) ?hd (cs := #[.int .u64 0, .int .u64 0, .int .u64 0, .int .u64 0, .int .i64 0]) (t := 42) ?hr ?_; (case hd => rfl); (case hg => rfl); (case hr => first | (go_simp; done) | (go_simp; rfl)); intro gb295 hg w161 hbox hb; have n0_ := Aside0.mk (blk_below (g := gb246) (o := .cells #[.int .u64 a0_0, .int .u64 a0_1, .int .u64 a0_2, .int .u64 a0_3, .int .i64 a0_4] 40 (0, 0)) (by (with_reducible repeat (first | refine blk_drewN ?_ _ | refine blk_drew ?_ | refine blk_alloc ?_ _)); exact BK246.out) hb); have n1_ := Aside0.mk (blk_below (g := gb247) (o := .cells #[.int .u64 a1_0, .int .u64 a1_1] 24 (0, 0)) (by (with_reducible repeat (first | refine blk_drewN ?_ _ | refine blk_drew ?_ | refine blk_alloc ?_ _)); exact BK247.out) hb); have n2_ := Aside0.mk (blk_below (g := gb248) (o := .cells #[.int .u64 a2_0, .int .u64 a2_1] 24 (0, 0)) (by (with_reducible repeat (first | refine blk_drewN ?_ _ | refine blk_drew ?_ | refine blk_alloc ?_ _)); exact BK248.out) hb); have n3_ := Aside0.mk (blk_below (g := gb260) (o := .cells #[.int .u64 t254, .int .u64 t255, .int .u64 t256, .int .u64 t257, .int .i64 t258] 42 (0, 0)) (by (with_reducible repeat (first | refine blk_drewN ?_ _ | refine blk_drew ?_ | refine blk_alloc ?_ _)); exact BK260.out) hb); have n4_ := Aside0.mk (blk_below (g := gb267) (o := .cells #[.int .u64 t261, .int .u64 t262, .int .u64 t263, .int .u64 t264, .int .i64 t265] 42 (0, 0)) (by (with_reducible repeat (first | refine blk_drewN ?_ _ | refine blk_drew ?_ | refine blk_alloc ?_ _)); exact BK267.out) hb); have n5_ := Aside0.mk (blk_below (g := gb279) (o := .cells #[.int .u64 t273, .int .u64 t274, .int .u64 t275, .int .u64 t276, .int .i64 t277] 42 (0, 0)) (by (with_reducible repeat (first | refine blk_drewN ?_ _ | refine blk_drew ?_ | refine blk_alloc ?_ _)); exact BK279.out) hb); have n6_ := Aside0.mk (blk_below (g := gb286) (o := .cells #[.int .u64 t280, .int .u64 t281, .int .u64 t282, .int .u64 t283, .int .i64 t284] 42 (0, 0)) (by (with_reducible repeat (first | refine blk_drewN ?_ _ | refine blk_drew ?_ | refine blk_alloc ?_ _)); exact BK286.out) hb); have n7_ := Aside0.mk (below_step (by repeat (first | (with_reducible first | exact HB.out | apply below_alloc | apply pw_below_drewN | apply below_drew1 | refine below_set ?_ GE246.out | refine below_set ?_ GE247.out | refine below_set ?_ GE248.out | refine below_set ?_ GE260.out | refine below_set ?_ GE267.out | refine below_set ?_ GE279.out | refine below_set ?_ GE286.out) | exact HB.out)) hb); have n8_ := Aside0.mk (hbox); have n9_ := Aside0.mk ((by rw [hg]; exact (below_size (by repeat (first | (with_reducible first | exact HB.out | apply below_alloc | apply pw_below_drewN | apply below_drew1 | refine below_set ?_ GE246.out | refine below_set ?_ GE247.out | refine below_set ?_ GE248.out | refine below_set ?_ GE260.out | refine below_set ?_ GE267.out | refine below_set ?_ GE279.out | refine below_set ?_ GE286.out) | exact HB.out))) : w.heap.size ≤ gb295)); have n10_ := Aside0.mk ((by rw [hg]; exact (below_size (by repeat (first | (with_reducible first | exact HB.out | apply below_alloc | apply pw_below_drewN | apply below_drew1 | refine below_set ?_ GE246.out | refine below_set ?_ GE247.out | refine below_set ?_ GE248.out | refine below_set ?_ GE260.out | refine below_set ?_ GE267.out | refine below_set ?_ GE279.out | refine below_set ?_ GE286.out) | exact HB.out))) : w.heap.size ≤ gb295)); have n11_ := Aside0.mk ((by rw [hg]; exact Nat.ne_of_lt (blk_lt (g := gb246) (o := .cells #[.int .u64 a0_0, .int .u64 a0_1, .int .u64 a0_2, .int .u64 a0_3, .int .i64 a0_4] 40 (0, 0)) (by (with_reducible repeat (first | refine blk_drewN ?_ _ | refine blk_drew ?_ | refine blk_alloc ?_ _)); exact BK246.out)) : gb246 ≠ gb295)); have n12_ := Aside0.mk ((by rw [hg]; exact Nat.ne_of_gt (blk_lt (g := gb246) (o := .cells #[.int .u64 a0_0, .int .u64 a0_1, .int .u64 a0_2, .int .u64 a0_3, .int .i64 a0_4] 40 (0, 0)) (by (with_reducible repeat (first | refine blk_drewN ?_ _ | refine blk_drew ?_ | refine blk_alloc ?_ _)); exact BK246.out)) : gb295 ≠ gb246)); have n13_ := Aside0.mk ((by rw [hg]; exact Nat.ne_of_lt (blk_lt (g := gb247) (o := .cells #[.int .u64 a1_0, .int .u64 a1_1] 24 (0, 0)) (by (with_reducible repeat (first | refine blk_drewN ?_ _ | refine blk_drew ?_ | refine blk_alloc ?_ _)); exact BK247.out)) : gb247 ≠ gb295)); have n14_ := Aside0.mk ((by rw [hg]; exact Nat.ne_of_gt (blk_lt (g := gb247) (o := .cells #[.int .u64 a1_0, .int .u64 a1_1] 24 (0, 0)) (by (with_reducible repeat (first | refine blk_drewN ?_ _ | refine blk_drew ?_ | refine blk_alloc ?_ _)); exact BK247.out)) : gb295 ≠ gb247)); have n15_ := Aside0.mk ((by rw [hg]; exact Nat.ne_of_lt (blk_lt (g := gb248) (o := .cells #[.int .u64 a2_0, .int .u64 a2_1] 24 (0, 0)) (by (with_reducible repeat (first | refine blk_drewN ?_ _ | refine blk_drew ?_ | refine blk_alloc ?_ _)); exact BK248.out)) : gb248 ≠ gb295)); have n16_ := Aside0.mk ((by rw [hg]; exact Nat.ne_of_gt (blk_lt (g := gb248) (o := .cells #[.int .u64 a2_0, .int .u64 a2_1] 24 (0, 0)) (by (with_reducible repeat (first | refine blk_drewN ?_ _ | refine blk_drew ?_ | refine blk_alloc ?_ _)); exact BK248.out)) : gb295 ≠ gb248)); have n17_ := Aside0.mk ((by rw [hg]; exact Nat.ne_of_lt (blk_lt (g := gb260) (o := .cells #[.int .u64 t254, .int .u64 t255, .int .u64 t256, .int .u64 t257, .int .i64 t258] 42 (0, 0)) (by (with_reducible repeat (first | refine blk_drewN ?_ _ | refine blk_drew ?_ | refine blk_alloc ?_ _)); exact BK260.out)) : gb260 ≠ gb295)); have n18_ := Aside0.mk ((by rw [hg]; exact Nat.ne_of_gt (blk_lt (g := gb260) (o := .cells #[.int .u64 t254, .int .u64 t255, .int .u64 t256, .int .u64 t257, .int .i64 t258] 42 (0, 0)) (by (with_reducible repeat (first | refine blk_drewN ?_ _ | refine blk_drew ?_ | refine blk_alloc ?_ _)); exact BK260.out)) : gb295 ≠ gb260)); have n19_ := Aside0.mk ((by rw [hg]; exact Nat.ne_of_lt (blk_lt (g := gb267) (o := .cells #[.int .u64 t261, .int .u64 t262, .int .u64 t263, .int .u64 t264, .int .i64 t265] 42 (0, 0)) (by (with_reducible repeat (first | refine blk_drewN ?_ _ | refine blk_drew ?_ | refine blk_alloc ?_ _)); exact BK267.out)) : gb267 ≠ gb295)); have n20_ := Aside0.mk ((by rw [hg]; exact Nat.ne_of_gt (blk_lt (g := gb267) (o := .cells #[.int .u64 t261, .int .u64 t262, .int .u64 t263, .int .u64 t264, .int .i64 t265] 42 (0, 0)) (by (with_reducible repeat (first | refine blk_drewN ?_ _ | refine blk_drew ?_ | refine blk_alloc ?_ _)); exact BK267.out)) : gb295 ≠ gb267)); have n21_ := Aside0.mk ((by rw [hg]; exact Nat.ne_of_lt (blk_lt (g := gb279) (o := .cells #[.int .u64 t273, .int .u64 t274, .int .u64 t275, .int .u64 t276, .int .i64 t277] 42 (0, 0)) (by (with_reducible repeat (first | refine blk_drewN ?_ _ | refine blk_drew ?_ | refine blk_alloc ?_ _)); exact BK279.out)) : gb279 ≠ gb295)); have n22_ := Aside0.mk ((by rw [hg]; exact Nat.ne_of_gt (blk_lt (g := gb279) (o := .cells #[.int .u64 t273, .int .u64 t274, .int .u64 t275, .int .u64 t276, .int .i64 t277] 42 (0, 0)) (by (with_reducible repeat (first | refine blk_drewN ?_ _ | refine blk_drew ?_ | refine blk_alloc ?_ _)); exact BK279.out)) : gb295 ≠ gb279)); have n23_ := Aside0.mk ((by rw [hg]; exact Nat.ne_of_lt (blk_lt (g := gb286) (o := .cells #[.int .u64 t280, .int .u64 t281, .int .u64 t282, .int .u64 t283, .int .i64 t284] 42 (0, 0)) (by (with_reducible repeat (first | refine blk_drewN ?_ _ | refine blk_drew ?_ | refine blk_alloc ?_ _)); exact BK286.out)) : gb286 ≠ gb295)); have n24_ := Aside0.mk ((by rw [hg]; exact Nat.ne_of_gt (blk_lt (g := gb286) (o := .cells #[.int .u64 t280, .int .u64 t281, .int .u64 t282, .int .u64 t283, .int .i64 t284] 42 (0, 0)) (by (with_reducible repeat (first | refine blk_drewN ?_ _ | refine blk_drew ?_ | refine blk_alloc ?_ _)); exact BK286.out)) : gb295 ≠ gb286)); clear BK246; clear BK247; clear BK248; clear BK260; clear BK267; clear BK279; clear BK286; clear HB; have BK246 := n0_; have BK247 := n1_; have BK248 := n2_; have BK260 := n3_; have BK267 := n4_; have BK279 := n5_; have BK286 := n6_; have HB := n7_; have BK295 := n8_; have GW295 := n9_; have GE295 := n10_; have NB246_295 := n11_; have NB295_246 := n12_; have NB247_295 := n13_; have NB295_247 := n14_; have NB248_295 := n15_; have NB295_248 := n16_; have NB260_295 := n17_; have NB295_260 := n18_; have NB267_295 := n19_; have NB295_267 := n20_; have NB279_295 := n21_; have NB295_279 := n22_; have NB286_295 := n23_; have NB295_286 := n24_; clear n0_ n1_ n2_ n3_ n4_ n5_ n6_ n7_ n8_ n9_ n10_ n11_ n12_ n13_ n14_ n15_ n16_ n17_ n18_ n19_ n20_ n21_ n22_ n23_ n24_; clear hb hbox hg; have hnb162 := NB295_246.out; have hnc162 := NB246_295.out; have hnb163 := NB295_247.out; have hnc163 := NB247_295.out; have hnb164 := NB295_248.out; have hnc164 := NB248_295.out; have hnb165 := NB295_260.out; have hnc165 := NB260_295.out; have hnb166 := NB295_267.out; have hnc166 := NB267_295.out; have hnb167 := NB295_279.out; have hnc167 := NB279_295.out; have hnb168 := NB295_286.out; have hnc168 := NB286_295.out; have hcz169_0 : w161.cell? ⟨gb295, 0, none⟩ = some (.int .u64 0) := (blk_cell BK295.out 0).trans rfl; have hcz169_1 : w161.cell? ⟨gb295, 1, none⟩ = some (.int .u64 0) := (blk_cell BK295.out 1).trans rfl; have hcz169_2 : w161.cell? ⟨gb295, 2, none⟩ = some (.int .u64 0) := (blk_cell BK295.out 2).trans rfl; have hcz169_3 : w161.cell? ⟨gb295, 3, none⟩ = some (.int .u64 0) := (blk_cell BK295.out 3).trans rfl; have hcz169_4 : w161.cell? ⟨gb295, 4, none⟩ = some (.int .i64 0) := (blk_cell BK295.out 4).trans rfl; have hfz169_0 := blk_frozen BK295.out 0; have hfz169_1 := blk_frozen BK295.out 1; have hfz169_2 := blk_frozen BK295.out 2; have hfz169_3 := blk_frozen BK295.out 3; have hfz169_4 := blk_frozen BK295.out 4; have hcz170_0 : w161.cell? ⟨gb260, 0, none⟩ = some (.int .u64 t254) := (blk_cell BK260.out 0).trans rfl; have hcz170_1 : w161.cell? ⟨gb260, 1, none⟩ = some (.int .u64 t255) := (blk_cell BK260.out 1).trans rfl; have hcz170_2 : w161.cell? ⟨gb260, 2, none⟩ = some (.int .u64 t256) := (blk_cell BK260.out 2).trans rfl; have hcz170_3 : w161.cell? ⟨gb260, 3, none⟩ = some (.int .u64 t257) := (blk_cell BK260.out 3).trans rfl; have hcz170_4 : w161.cell? ⟨gb260, 4, none⟩ = some (.int .i64 t258) := (blk_cell BK260.out 4).trans rfl; have hfz170_0 := blk_frozen BK260.out 0; have hfz170_1 := blk_frozen BK260.out 1; have hfz170_2 := blk_frozen BK260.out 2; have hfz170_3 := blk_frozen BK260.out 3; have hfz170_4 := blk_frozen BK260.out 4; have hcz171_0 : w161.cell? ⟨gb248, 0, none⟩ = some (.int .u64 a2_0) := (blk_cell BK248.out 0).trans rfl; have hcz171_1 : w161.cell? ⟨gb248, 1, none⟩ = some (.int .u64 a2_1) := (blk_cell BK248.out 1).trans rfl; have hfz171_0 := blk_frozen BK248.out 0; have hfz171_1 := blk_frozen BK248.out 1) | ((with_reducible refine gate_callee (f := 24) rfl ?_); refine goesL_ (some 90) rfl rfl Try.func24 (by kernel_rfl) rfl #[.agg #[.int .u64 t254, .int .u64 t255, .int .u64 t256, .int .u64 t257, .int .i64 t258], .agg #[.int .u64 a2_0, .int .u64 a2_1], .int .i64 a3] rfl (by (try simp only [List.map_toArray, List.map_cons, List.map_nil]); first | done | rfl | (simp only [List.length_drop, List.length_take]; rfl)) ?_; (with_reducible refine (register_Accept.calls kj121 t254 t255 t256 t257 t258 a2_0 a2_1 a3 t296 t297 t298 t299 t300 false _ A143.out).mono ?_); rintro e w172 ⟨rfl, hb⟩; refine ⟨_, rfl, ?_⟩; have n0_ := Aside0.mk (blk_below (g := gb246) (o := .cells #[.int .u64 a0_0, .int .u64 a0_1, .int .u64 a0_2, .int .u64 a0_3, .int .i64 a0_4] 40 (0, 0)) (by (with_reducible repeat (first | refine blk_drewN ?_ _ | refine blk_drew ?_ | refine blk_alloc ?_ _)); refine blk_far ?_ NB246_295.out _; (with_reducible repeat (first | refine blk_drewN ?_ _ | refine blk_drew ?_ | refine blk_alloc ?_ _)); refine blk_far ?_ NB246_295.out _; (with_reducible repeat (first | refine blk_drewN ?_ _ | refine blk_drew ?_ | refine blk_alloc ?_ _)); refine blk_far ?_ NB246_295.out _; (with_reducible repeat (first | refine blk_drewN ?_ _ | refine blk_drew ?_ | refine blk_alloc ?_ _)); refine blk_far ?_ NB246_295.out _; (with_reducible repeat (first | refine blk_drewN ?_ _ | refine blk_drew ?_ | refine blk_alloc ?_ _)); refine blk_far ?_ NB246_295.out _; (with_reducible repeat (first | refine blk_drewN ?_ _ | refine blk_drew ?_ | refine blk_alloc ?_ _)); exact BK246.out) hb); have n1_ := Aside0.mk (blk_below (g := gb247) (o := .cells #[.int .u64 a1_0, .int .u64 a1_1] 24 (0, 0)) (by (with_reducible repeat (first | refine blk_drewN ?_ _ | refine blk_drew ?_ | refine blk_alloc ?_ _)); refine blk_far ?_ NB247_295.out _; (with_reducible repeat (first | refine blk_drewN ?_ _ | refine blk_drew ?_ | refine blk_alloc ?_ _)); refine blk_far ?_ NB247_295.out _; (with_reducible repeat (first | refine blk_drewN ?_ _ | refine blk_drew ?_ | refine blk_alloc ?_ _)); refine blk_far ?_ NB247_295.out _; (with_reducible repeat (first | refine blk_drewN ?_ _ | refine blk_drew ?_ | refine blk_alloc ?_ _)); refine blk_far ?_ NB247_295.out _; (with_reducible repeat (first | refine blk_drewN ?_ _ | refine blk_drew ?_ | refine blk_alloc ?_ _)); refine blk_far ?_ NB247_295.out _; (with_reducible repeat (first | refine blk_drewN ?_ _ | refine blk_drew ?_ | refine blk_alloc ?_ _)); exact BK247.out) hb); have n2_ := Aside0.mk (blk_below (g := gb248) (o := .cells #[.int .u64 a2_0, .int .u64 a2_1] 24 (0, 0)) (by (with_reducible repeat (first | refine blk_drewN ?_ _ | refine blk_drew ?_ | refine blk_alloc ?_ _)); refine blk_far ?_ NB248_295.out _; (with_reducible repeat (first | refine blk_drewN ?_ _ | refine blk_drew ?_ | refine blk_alloc ?_ _)); refine blk_far ?_ NB248_295.out _; (with_reducible repeat (first | refine blk_drewN ?_ _ | refine blk_drew ?_ | refine blk_alloc ?_ _)); refine blk_far ?_ NB248_295.out _; (with_reducible repeat (first | refine blk_drewN ?_ _ | refine blk_drew ?_ | refine blk_alloc ?_ _)); refine blk_far ?_ NB248_295.out _; (with_reducible repeat (first | refine blk_drewN ?_ _ | refine blk_drew ?_ | refine blk_alloc ?_ _)); refine blk_far ?_ NB248_295.out _; (with_reducible repeat (first | refine blk_drewN ?_ _ | refine blk_drew ?_ | refine blk_alloc ?_ _)); exact BK248.out) hb); have n3_ := Aside0.mk (blk_below (g := gb260) (o := .cells #[.int .u64 t254, .int .u64 t255, .int .u64 t256, .int .u64 t257, .int .i64 t258] 42 (0, 0)) (by (with_reducible repeat (first | refine blk_drewN ?_ _ | refine blk_drew ?_ | refine blk_alloc ?_ _)); refine blk_far ?_ NB260_295.out _; (with_reducible repeat (first | refine blk_drewN ?_ _ | refine blk_drew ?_ | refine blk_alloc ?_ _)); refine blk_far ?_ NB260_295.out _; (with_reducible repeat (first | refine blk_drewN ?_ _ | refine blk_drew ?_ | refine blk_alloc ?_ _)); refine blk_far ?_ NB260_295.out _; (with_reducible repeat (first | refine blk_drewN ?_ _ | refine blk_drew ?_ | refine blk_alloc ?_ _)); refine blk_far ?_ NB260_295.out _; (with_reducible repeat (first | refine blk_drewN ?_ _ | refine blk_drew ?_ | refine blk_alloc ?_ _)); refine blk_far ?_ NB260_295.out _; (with_reducible repeat (first | refine blk_drewN ?_ _ | refine blk_drew ?_ | refine blk_alloc ?_ _)); exact BK260.out) hb); have n4_ := Aside0.mk (blk_below (g := gb267) (o := .cells #[.int .u64 t261, .int .u64 t262, .int .u64 t263, .int .u64 t264, .int .i64 t265] 42 (0, 0)) (by (with_reducible repeat (first | refine blk_drewN ?_ _ | refine blk_drew ?_ | refine blk_alloc ?_ _)); refine blk_far ?_ NB267_295.out _; (with_reducible repeat (first | refine blk_drewN ?_ _ | refine blk_drew ?_ | refine blk_alloc ?_ _)); refine blk_far ?_ NB267_295.out _; (with_reducible repeat (first | refine blk_drewN ?_ _ | refine blk_drew ?_ | refine blk_alloc ?_ _)); refine blk_far ?_ NB267_295.out _; (with_reducible repeat (first | refine blk_drewN ?_ _ | refine blk_drew ?_ | refine blk_alloc ?_ _)); refine blk_far ?_ NB267_295.out _; (with_reducible repeat (first | refine blk_drewN ?_ _ | refine blk_drew ?_ | refine blk_alloc ?_ _)); refine blk_far ?_ NB267_295.out _; (with_reducible repeat (first | refine blk_drewN ?_ _ | refine blk_drew ?_ | refine blk_alloc ?_ _)); exact BK267.out) hb); have n5_ := Aside0.mk (blk_below (g := gb279) (o := .cells #[.int .u64 t273, .int .u64 t274, .int .u64 t275, .int .u64 t276, .int .i64 t277] 42 (0, 0)) (by (with_reducible repeat (first | refine blk_drewN ?_ _ | refine blk_drew ?_ | refine blk_alloc ?_ _)); refine blk_far ?_ NB279_295.out _; (with_reducible repeat (first | refine blk_drewN ?_ _ | refine blk_drew ?_ | refine blk_alloc ?_ _)); refine blk_far ?_ NB279_295.out _; (with_reducible repeat (first | refine blk_drewN ?_ _ | refine blk_drew ?_ | refine blk_alloc ?_ _)); refine blk_far ?_ NB279_295.out _; (with_reducible repeat (first | refine blk_drewN ?_ _ | refine blk_drew ?_ | refine blk_alloc ?_ _)); refine blk_far ?_ NB279_295.out _; (with_reducible repeat (first | refine blk_drewN ?_ _ | refine blk_drew ?_ | refine blk_alloc ?_ _)); refine blk_far ?_ NB279_295.out _; (with_reducible repeat (first | refine blk_drewN ?_ _ | refine blk_drew ?_ | refine blk_alloc ?_ _)); exact BK279.out) hb); have n6_ := Aside0.mk (blk_below (g := gb286) (o := .cells #[.int .u64 t280, .int .u64 t281, .int .u64 t282, .int .u64 t283, .int .i64 t284] 42 (0, 0)) (by (with_reducible repeat (first | refine blk_drewN ?_ _ | refine blk_drew ?_ | refine blk_alloc ?_ _)); refine blk_far ?_ NB286_295.out _; (with_reducible repeat (first | refine blk_drewN ?_ _ | refine blk_drew ?_ | refine blk_alloc ?_ _)); refine blk_far ?_ NB286_295.out _; (with_reducible repeat (first | refine blk_drewN ?_ _ | refine blk_drew ?_ | refine blk_alloc ?_ _)); refine blk_far ?_ NB286_295.out _; (with_reducible repeat (first | refine blk_drewN ?_ _ | refine blk_drew ?_ | refine blk_alloc ?_ _)); refine blk_far ?_ NB286_295.out _; (with_reducible repeat (first | refine blk_drewN ?_ _ | refine blk_drew ?_ | refine blk_alloc ?_ _)); refine blk_far ?_ NB286_295.out _; (with_reducible repeat (first | refine blk_drewN ?_ _ | refine blk_drew ?_ | refine blk_alloc ?_ _)); exact BK286.out) hb); have n7_ := Aside0.mk (blk_below (g := gb295) (o := .cells #[.int .u64 t289, .int .u64 t290, .int .u64 t291, .int .u64 t292, .int .i64 t293] 42 (0, 0)) (by (with_reducible repeat (first | refine blk_drewN ?_ _ | refine blk_drew ?_ | refine blk_alloc ?_ _)); refine blk_put (cs := #[.int .u64 t289, .int .u64 t290, .int .u64 t291, .int .u64 t292, .int .i64 0]) ?_ 4 _ rfl; (with_reducible repeat (first | refine blk_drewN ?_ _ | refine blk_drew ?_ | refine blk_alloc ?_ _)); refine blk_put (cs := #[.int .u64 t289, .int .u64 t290, .int .u64 t291, .int .u64 0, .int .i64 0]) ?_ 3 _ rfl; (with_reducible repeat (first | refine blk_drewN ?_ _ | refine blk_drew ?_ | refine blk_alloc ?_ _)); refine blk_put (cs := #[.int .u64 t289, .int .u64 t290, .int .u64 0, .int .u64 0, .int .i64 0]) ?_ 2 _ rfl; (with_reducible repeat (first | refine blk_drewN ?_ _ | refine blk_drew ?_ | refine blk_alloc ?_ _)); refine blk_put (cs := #[.int .u64 t289, .int .u64 0, .int .u64 0, .int .u64 0, .int .i64 0]) ?_ 1 _ rfl; (with_reducible repeat (first | refine blk_drewN ?_ _ | refine blk_drew ?_ | refine blk_alloc ?_ _)); refine blk_put (cs := #[.int .u64 0, .int .u64 0, .int .u64 0, .int .u64 0, .int .i64 0]) ?_ 0 _ rfl; (with_reducible repeat (first | refine blk_drewN ?_ _ | refine blk_drew ?_ | refine blk_alloc ?_ _)); exact BK295.out) hb); have n8_ := Aside0.mk (below_step (by repeat (first | (with_reducible first | exact HB.out | apply below_alloc | apply pw_below_drewN | apply below_drew1 | refine below_set ?_ GE246.out | refine below_set ?_ GE247.out | refine below_set ?_ GE248.out | refine below_set ?_ GE260.out | refine below_set ?_ GE267.out | refine below_set ?_ GE279.out | refine below_set ?_ GE286.out | refine below_set ?_ GE295.out) | exact HB.out)) hb); clear BK246; clear BK247; clear BK248; clear BK260; clear BK267; clear BK279; clear BK286; clear BK295; clear HB; have BK246 := n0_; have BK247 := n1_; have BK248 := n2_; have BK260 := n3_; have BK267 := n4_; have BK279 := n5_; have BK286 := n6_; have BK295 := n7_; have HB := n8_; clear n0_ n1_ n2_ n3_ n4_ n5_ n6_ n7_ n8_; (try clear hb); (try clear hb2); (try clear hk); (try clear hi)) | ((with_reducible refine gate_dst (N := 19) rfl ?_); refine box_event ?hg (N := 19) ?hd (cs := #[.int .u64 0, .int .u64 0, .int .u64 0, .int .u64 0, .int .i64 0]) (t := 42) ?hr ?_; (case hd => rfl); (case hg => rfl); (case hr => first | (go_simp; done) | (go_simp; rfl)); intro gb302 hg w173 hbox hb; have n0_ := Aside0.mk (blk_below (g := gb246) (o := .cells #[.int .u64 a0_0, .int .u64 a0_1, .int .u64 a0_2, .int .u64 a0_3, .int .i64 a0_4] 40 (0, 0)) (by (with_reducible repeat (first | refine blk_drewN ?_ _ | refine blk_drew ?_ | refine blk_alloc ?_ _)); exact BK246.out) hb); have n1_ := Aside0.mk (blk_below (g := gb247) (o := .cells #[.int .u64 a1_0, .int .u64 a1_1] 24 (0, 0)) (by (with_reducible repeat (first | refine blk_drewN ?_ _ | refine blk_drew ?_ | refine blk_alloc ?_ _)); exact BK247.out) hb); have n2_ := Aside0.mk (blk_below (g := gb248) (o := .cells #[.int .u64 a2_0, .int .u64 a2_1] 24 (0, 0)) (by (with_reducible repeat (first | refine blk_drewN ?_ _ | refine blk_drew ?_ | refine blk_alloc ?_ _)); exact BK248.out) hb); have n3_ := Aside0.mk (blk_below (g := gb260) (o := .cells #[.int .u64 t254, .int .u64 t255, .int .u64 t256, .int .u64 t257, .int .i64 t258] 42 (0, 0)) (by (with_reducible repeat (first | refine blk_drewN ?_ _ | refine blk_drew ?_ | refine blk_alloc ?_ _)); exact BK260.out) hb); have n4_ := Aside0.mk (blk_below (g := gb267) (o := .cells #[.int .u64 t261, .int .u64 t262, .int .u64 t263, .int .u64 t264, .int .i64 t265] 42 (0, 0)) (by (with_reducible repeat (first | refine blk_drewN ?_ _ | refine blk_drew ?_ | refine blk_alloc ?_ _)); exact BK267.out) hb); have n5_ := Aside0.mk (blk_below (g := gb279) (o := .cells #[.int .u64 t273, .int .u64 t274, .int .u64 t275, .int .u64 t276, .int .i64 t277] 42 (0, 0)) (by (with_reducible repeat (first | refine blk_drewN ?_ _ | refine blk_drew ?_ | refine blk_alloc ?_ _)); exact BK279.out) hb); have n6_ := Aside0.mk (blk_below (g := gb286) (o := .cells #[.int .u64 t280, .int .u64 t281, .int .u64 t282, .int .u64 t283, .int .i64 t284] 42 (0, 0)) (by (with_reducible repeat (first | refine blk_drewN ?_ _ | refine blk_drew ?_ | refine blk_alloc ?_ _)); exact BK286.out) hb); have n7_ := Aside0.mk (blk_below (g := gb295) (o := .cells #[.int .u64 t289, .int .u64 t290, .int .u64 t291, .int .u64 t292, .int .i64 t293] 42 (0, 0)) (by (with_reducible repeat (first | refine blk_drewN ?_ _ | refine blk_drew ?_ | refine blk_alloc ?_ _)); exact BK295.out) hb); have n8_ := Aside0.mk (below_step (by repeat (first | (with_reducible first | exact HB.out | apply below_alloc | apply pw_below_drewN | apply below_drew1 | refine below_set ?_ GE246.out | refine below_set ?_ GE247.out | refine below_set ?_ GE248.out | refine below_set ?_ GE260.out | refine below_set ?_ GE267.out | refine below_set ?_ GE279.out | refine below_set ?_ GE286.out | refine below_set ?_ GE295.out) | exact HB.out)) hb); have n9_ := Aside0.mk (hbox); have n10_ := Aside0.mk ((by rw [hg]; exact (below_size (by repeat (first | (with_reducible first | exact HB.out | apply below_alloc | apply pw_below_drewN | apply below_drew1 | refine below_set ?_ GE246.out | refine below_set ?_ GE247.out | refine below_set ?_ GE248.out | refine below_set ?_ GE260.out | refine below_set ?_ GE267.out | refine below_set ?_ GE279.out | refine below_set ?_ GE286.out | refine below_set ?_ GE295.out) | exact HB.out))) : w.heap.size ≤ gb302)); have n11_ := Aside0.mk ((by rw [hg]; exact (below_size (by repeat (first | (with_reducible first | exact HB.out | apply below_alloc | apply pw_below_drewN | apply below_drew1 | refine below_set ?_ GE246.out | refine below_set ?_ GE247.out | refine below_set ?_ GE248.out | refine below_set ?_ GE260.out | refine below_set ?_ GE267.out | refine below_set ?_ GE279.out | refine below_set ?_ GE286.out | refine below_set ?_ GE295.out) | exact HB.out))) : w.heap.size ≤ gb302)); have n12_ := Aside0.mk ((by rw [hg]; exact Nat.ne_of_lt (blk_lt (g := gb246) (o := .cells #[.int .u64 a0_0, .int .u64 a0_1, .int .u64 a0_2, .int .u64 a0_3, .int .i64 a0_4] 40 (0, 0)) (by (with_reducible repeat (first | refine blk_drewN ?_ _ | refine blk_drew ?_ | refine blk_alloc ?_ _)); exact BK246.out)) : gb246 ≠ gb302)); have n13_ := Aside0.mk ((by rw [hg]; exact Nat.ne_of_gt (blk_lt (g := gb246) (o := .cells #[.int .u64 a0_0, .int .u64 a0_1, .int .u64 a0_2, .int .u64 a0_3, .int .i64 a0_4] 40 (0, 0)) (by (with_reducible repeat (first | refine blk_drewN ?_ _ | refine blk_drew ?_ | refine blk_alloc ?_ _)); exact BK246.out)) : gb302 ≠ gb246)); have n14_ := Aside0.mk ((by rw [hg]; exact Nat.ne_of_lt (blk_lt (g := gb247) (o := .cells #[.int .u64 a1_0, .int .u64 a1_1] 24 (0, 0)) (by (with_reducible repeat (first | refine blk_drewN ?_ _ | refine blk_drew ?_ | refine blk_alloc ?_ _)); exact BK247.out)) : gb247 ≠ gb302)); have n15_ := Aside0.mk ((by rw [hg]; exact Nat.ne_of_gt (blk_lt (g := gb247) (o := .cells #[.int .u64 a1_0, .int .u64 a1_1] 24 (0, 0)) (by (with_reducible repeat (first | refine blk_drewN ?_ _ | refine blk_drew ?_ | refine blk_alloc ?_ _)); exact BK247.out)) : gb302 ≠ gb247)); have n16_ := Aside0.mk ((by rw [hg]; exact Nat.ne_of_lt (blk_lt (g := gb248) (o := .cells #[.int .u64 a2_0, .int .u64 a2_1] 24 (0, 0)) (by (with_reducible repeat (first | refine blk_drewN ?_ _ | refine blk_drew ?_ | refine blk_alloc ?_ _)); exact BK248.out)) : gb248 ≠ gb302)); have n17_ := Aside0.mk ((by rw [hg]; exact Nat.ne_of_gt (blk_lt (g := gb248) (o := .cells #[.int .u64 a2_0, .int .u64 a2_1] 24 (0, 0)) (by (with_reducible repeat (first | refine blk_drewN ?_ _ | refine blk_drew ?_ | refine blk_alloc ?_ _)); exact BK248.out)) : gb302 ≠ gb248)); have n18_ := Aside0.mk ((by rw [hg]; exact Nat.ne_of_lt (blk_lt (g := gb260) (o := .cells #[.int .u64 t254, .int .u64 t255, .int .u64 t256, .int .u64 t257, .int .i64 t258] 42 (0, 0)) (by (with_reducible repeat (first | refine blk_drewN ?_ _ | refine blk_drew ?_ | refine blk_alloc ?_ _)); exact BK260.out)) : gb260 ≠ gb302)); have n19_ := Aside0.mk ((by rw [hg]; exact Nat.ne_of_gt (blk_lt (g := gb260) (o := .cells #[.int .u64 t254, .int .u64 t255, .int .u64 t256, .int .u64 t257, .int .i64 t258] 42 (0, 0)) (by (with_reducible repeat (first | refine blk_drewN ?_ _ | refine blk_drew ?_ | refine blk_alloc ?_ _)); exact BK260.out)) : gb302 ≠ gb260)); have n20_ := Aside0.mk ((by rw [hg]; exact Nat.ne_of_lt (blk_lt (g := gb267) (o := .cells #[.int .u64 t261, .int .u64 t262, .int .u64 t263, .int .u64 t264, .int .i64 t265] 42 (0, 0)) (by (with_reducible repeat (first | refine blk_drewN ?_ _ | refine blk_drew ?_ | refine blk_alloc ?_ _)); exact BK267.out)) : gb267 ≠ gb302)); have n21_ := Aside0.mk ((by rw [hg]; exact Nat.ne_of_gt (blk_lt (g := gb267) (o := .cells #[.int .u64 t261, .int .u64 t262, .int .u64 t263, .int .u64 t264, .int .i64 t265] 42 (0, 0)) (by (with_reducible repeat (first | refine blk_drewN ?_ _ | refine blk_drew ?_ | refine blk_alloc ?_ _)); exact BK267.out)) : gb302 ≠ gb267)); have n22_ := Aside0.mk ((by rw [hg]; exact Nat.ne_of_lt (blk_lt (g := gb279) (o := .cells #[.int .u64 t273, .int .u64 t274, .int .u64 t275, .int .u64 t276, .int .i64 t277] 42 (0, 0)) (by (with_reducible repeat (first | refine blk_drewN ?_ _ | refine blk_drew ?_ | refine blk_alloc ?_ _)); exact BK279.out)) : gb279 ≠ gb302)); have n23_ := Aside0.mk ((by rw [hg]; exact Nat.ne_of_gt (blk_lt (g := gb279) (o := .cells #[.int .u64 t273, .int .u64 t274, .int .u64 t275, .int .u64 t276, .int .i64 t277] 42 (0, 0)) (by (with_reducible repeat (first | refine blk_drewN ?_ _ | refine blk_drew ?_ | refine blk_alloc ?_ _)); exact BK279.out)) : gb302 ≠ gb279)); have n24_ := Aside0.mk ((by rw [hg]; exact Nat.ne_of_lt (blk_lt (g := gb286) (o := .cells #[.int .u64 t280, .int .u64 t281, .int .u64 t282, .int .u64 t283, .int .i64 t284] 42 (0, 0)) (by (with_reducible repeat (first | refine blk_drewN ?_ _ | refine blk_drew ?_ | refine blk_alloc ?_ _)); exact BK286.out)) : gb286 ≠ gb302)); have n25_ := Aside0.mk ((by rw [hg]; exact Nat.ne_of_gt (blk_lt (g := gb286) (o := .cells #[.int .u64 t280, .int .u64 t281, .int .u64 t282, .int .u64 t283, .int .i64 t284] 42 (0, 0)) (by (with_reducible repeat (first | refine blk_drewN ?_ _ | refine blk_drew ?_ | refine blk_alloc ?_ _)); exact BK286.out)) : gb302 ≠ gb286)); have n26_ := Aside0.mk ((by rw [hg]; exact Nat.ne_of_lt (blk_lt (g := gb295) (o := .cells #[.int .u64 t289, .int .u64 t290, .int .u64 t291, .int .u64 t292, .int .i64 t293] 42 (0, 0)) (by (with_reducible repeat (first | refine blk_drewN ?_ _ | refine blk_drew ?_ | refine blk_alloc ?_ _)); exact BK295.out)) : gb295 ≠ gb302)); have n27_ := Aside0.mk ((by rw [hg]; exact Nat.ne_of_gt (blk_lt (g := gb295) (o := .cells #[.int .u64 t289, .int .u64 t290, .int .u64 t291, .int .u64 t292, .int .i64 t293] 42 (0, 0)) (by (with_reducible repeat (first | refine blk_drewN ?_ _ | refine blk_drew ?_ | refine blk_alloc ?_ _)); exact BK295.out)) : gb302 ≠ gb295)); clear BK246; clear BK247; clear BK248; clear BK260; clear BK267; clear BK279; clear BK286; clear BK295; clear HB; have BK246 := n0_; have BK247 := n1_; have BK248 := n2_; have BK260 := n3_; have BK267 := n4_; have BK279 := n5_; have BK286 := n6_; have BK295 := n7_; have HB := n8_; have BK302 := n9_; have GW302 := n10_; have GE302 := n11_; have NB246_302 := n12_; have NB302_246 := n13_; have NB247_302 := n14_; have NB302_247 := n15_; have NB248_302 := n16_; have NB302_248 := n17_; have NB260_302 := n18_; have NB302_260 := n19_; have NB267_302 := n20_; have NB302_267 := n21_; have NB279_302 := n22_; have NB302_279 := n23_; have NB286_302 := n24_; have NB302_286 := n25_; have NB295_302 := n26_; have NB302_295 := n27_; clear n0_ n1_ n2_ n3_ n4_ n5_ n6_ n7_ n8_ n9_ n10_ n11_ n12_ n13_ n14_ n15_ n16_ n17_ n18_ n19_ n20_ n21_ n22_ n23_ n24_ n25_ n26_ n27_; clear hb hbox hg; have hnb174 := NB302_246.out; have hnc174 := NB246_302.out; have hnb175 := NB302_247.out; have hnc175 := NB247_302.out; have hnb176 := NB302_248.out; have hnc176 := NB248_302.out; have hnb177 := NB302_260.out; have hnc177 := NB260_302.out; have hnb178 := NB302_267.out; have hnc178 := NB267_302.out; have hnb179 := NB302_279.out; have hnc179 := NB279_302.out; have hnb180 := NB302_286.out; have hnc180 := NB286_302.out; have hnb181 := NB302_295.out; have hnc181 := NB295_302.out; have hcz182_0 : w173.cell? ⟨gb302, 0, none⟩ = some (.int .u64 0) := (blk_cell BK302.out 0).trans rfl; have hcz182_1 : w173.cell? ⟨gb302, 1, none⟩ = some (.int .u64 0) := (blk_cell BK302.out 1).trans rfl; have hcz182_2 : w173.cell? ⟨gb302, 2, none⟩ = some (.int .u64 0) := (blk_cell BK302.out 2).trans rfl; have hcz182_3 : w173.cell? ⟨gb302, 3, none⟩ = some (.int .u64 0) := (blk_cell BK302.out 3).trans rfl; have hcz182_4 : w173.cell? ⟨gb302, 4, none⟩ = some (.int .i64 0) := (blk_cell BK302.out 4).trans rfl; have hfz182_0 := blk_frozen BK302.out 0; have hfz182_1 := blk_frozen BK302.out 1; have hfz182_2 := blk_frozen BK302.out 2; have hfz182_3 := blk_frozen BK302.out 3; have hfz182_4 := blk_frozen BK302.out 4) | (go_at_call 21; (with_reducible refine (winnowlaw12_alive.calls kj121  t303 _ A146.out).mono ?_); rintro e w183 ⟨rfl, hb⟩; have n0_ := Aside0.mk (blk_below (g := gb246) (o := .cells #[.int .u64 a0_0, .int .u64 a0_1, .int .u64 a0_2, .int .u64 a0_3, .int .i64 a0_4] 40 (0, 0)) (by (with_reducible repeat (first | refine blk_drewN ?_ _ | refine blk_drew ?_ | refine blk_alloc ?_ _)); refine blk_far ?_ NB246_302.out _; (with_reducible repeat (first | refine blk_drewN ?_ _ | refine blk_drew ?_ | refine blk_alloc ?_ _)); refine blk_far ?_ NB246_302.out _; (with_reducible repeat (first | refine blk_drewN ?_ _ | refine blk_drew ?_ | refine blk_alloc ?_ _)); refine blk_far ?_ NB246_302.out _; (with_reducible repeat (first | refine blk_drewN ?_ _ | refine blk_drew ?_ | refine blk_alloc ?_ _)); refine blk_far ?_ NB246_302.out _; (with_reducible repeat (first | refine blk_drewN ?_ _ | refine blk_drew ?_ | refine blk_alloc ?_ _)); refine blk_far ?_ NB246_302.out _; (with_reducible repeat (first | refine blk_drewN ?_ _ | refine blk_drew ?_ | refine blk_alloc ?_ _)); exact BK246.out) hb); have n1_ := Aside0.mk (blk_below (g := gb247) (o := .cells #[.int .u64 a1_0, .int .u64 a1_1] 24 (0, 0)) (by (with_reducible repeat (first | refine blk_drewN ?_ _ | refine blk_drew ?_ | refine blk_alloc ?_ _)); refine blk_far ?_ NB247_302.out _; (with_reducible repeat (first | refine blk_drewN ?_ _ | refine blk_drew ?_ | refine blk_alloc ?_ _)); refine blk_far ?_ NB247_302.out _; (with_reducible repeat (first | refine blk_drewN ?_ _ | refine blk_drew ?_ | refine blk_alloc ?_ _)); refine blk_far ?_ NB247_302.out _; (with_reducible repeat (first | refine blk_drewN ?_ _ | refine blk_drew ?_ | refine blk_alloc ?_ _)); refine blk_far ?_ NB247_302.out _; (with_reducible repeat (first | refine blk_drewN ?_ _ | refine blk_drew ?_ | refine blk_alloc ?_ _)); refine blk_far ?_ NB247_302.out _; (with_reducible repeat (first | refine blk_drewN ?_ _ | refine blk_drew ?_ | refine blk_alloc ?_ _)); exact BK247.out) hb); have n2_ := Aside0.mk (blk_below (g := gb248) (o := .cells #[.int .u64 a2_0, .int .u64 a2_1] 24 (0, 0)) (by (with_reducible repeat (first | refine blk_drewN ?_ _ | refine blk_drew ?_ | refine blk_alloc ?_ _)); refine blk_far ?_ NB248_302.out _; (with_reducible repeat (first | refine blk_drewN ?_ _ | refine blk_drew ?_ | refine blk_alloc ?_ _)); refine blk_far ?_ NB248_302.out _; (with_reducible repeat (first | refine blk_drewN ?_ _ | refine blk_drew ?_ | refine blk_alloc ?_ _)); refine blk_far ?_ NB248_302.out _; (with_reducible repeat (first | refine blk_drewN ?_ _ | refine blk_drew ?_ | refine blk_alloc ?_ _)); refine blk_far ?_ NB248_302.out _; (with_reducible repeat (first | refine blk_drewN ?_ _ | refine blk_drew ?_ | refine blk_alloc ?_ _)); refine blk_far ?_ NB248_302.out _; (with_reducible repeat (first | refine blk_drewN ?_ _ | refine blk_drew ?_ | refine blk_alloc ?_ _)); exact BK248.out) hb); have n3_ := Aside0.mk (blk_below (g := gb260) (o := .cells #[.int .u64 t254, .int .u64 t255, .int .u64 t256, .int .u64 t257, .int .i64 t258] 42 (0, 0)) (by (with_reducible repeat (first | refine blk_drewN ?_ _ | refine blk_drew ?_ | refine blk_alloc ?_ _)); refine blk_far ?_ NB260_302.out _; (with_reducible repeat (first | refine blk_drewN ?_ _ | refine blk_drew ?_ | refine blk_alloc ?_ _)); refine blk_far ?_ NB260_302.out _; (with_reducible repeat (first | refine blk_drewN ?_ _ | refine blk_drew ?_ | refine blk_alloc ?_ _)); refine blk_far ?_ NB260_302.out _; (with_reducible repeat (first | refine blk_drewN ?_ _ | refine blk_drew ?_ | refine blk_alloc ?_ _)); refine blk_far ?_ NB260_302.out _; (with_reducible repeat (first | refine blk_drewN ?_ _ | refine blk_drew ?_ | refine blk_alloc ?_ _)); refine blk_far ?_ NB260_302.out _; (with_reducible repeat (first | refine blk_drewN ?_ _ | refine blk_drew ?_ | refine blk_alloc ?_ _)); exact BK260.out) hb); have n4_ := Aside0.mk (blk_below (g := gb267) (o := .cells #[.int .u64 t261, .int .u64 t262, .int .u64 t263, .int .u64 t264, .int .i64 t265] 42 (0, 0)) (by (with_reducible repeat (first | refine blk_drewN ?_ _ | refine blk_drew ?_ | refine blk_alloc ?_ _)); refine blk_far ?_ NB267_302.out _; (with_reducible repeat (first | refine blk_drewN ?_ _ | refine blk_drew ?_ | refine blk_alloc ?_ _)); refine blk_far ?_ NB267_302.out _; (with_reducible repeat (first | refine blk_drewN ?_ _ | refine blk_drew ?_ | refine blk_alloc ?_ _)); refine blk_far ?_ NB267_302.out _; (with_reducible repeat (first | refine blk_drewN ?_ _ | refine blk_drew ?_ | refine blk_alloc ?_ _)); refine blk_far ?_ NB267_302.out _; (with_reducible repeat (first | refine blk_drewN ?_ _ | refine blk_drew ?_ | refine blk_alloc ?_ _)); refine blk_far ?_ NB267_302.out _; (with_reducible repeat (first | refine blk_drewN ?_ _ | refine blk_drew ?_ | refine blk_alloc ?_ _)); exact BK267.out) hb); have n5_ := Aside0.mk (blk_below (g := gb279) (o := .cells #[.int .u64 t273, .int .u64 t274, .int .u64 t275, .int .u64 t276, .int .i64 t277] 42 (0, 0)) (by (with_reducible repeat (first | refine blk_drewN ?_ _ | refine blk_drew ?_ | refine blk_alloc ?_ _)); refine blk_far ?_ NB279_302.out _; (with_reducible repeat (first | refine blk_drewN ?_ _ | refine blk_drew ?_ | refine blk_alloc ?_ _)); refine blk_far ?_ NB279_302.out _; (with_reducible repeat (first | refine blk_drewN ?_ _ | refine blk_drew ?_ | refine blk_alloc ?_ _)); refine blk_far ?_ NB279_302.out _; (with_reducible repeat (first | refine blk_drewN ?_ _ | refine blk_drew ?_ | refine blk_alloc ?_ _)); refine blk_far ?_ NB279_302.out _; (with_reducible repeat (first | refine blk_drewN ?_ _ | refine blk_drew ?_ | refine blk_alloc ?_ _)); refine blk_far ?_ NB279_302.out _; (with_reducible repeat (first | refine blk_drewN ?_ _ | refine blk_drew ?_ | refine blk_alloc ?_ _)); exact BK279.out) hb); have n6_ := Aside0.mk (blk_below (g := gb286) (o := .cells #[.int .u64 t280, .int .u64 t281, .int .u64 t282, .int .u64 t283, .int .i64 t284] 42 (0, 0)) (by (with_reducible repeat (first | refine blk_drewN ?_ _ | refine blk_drew ?_ | refine blk_alloc ?_ _)); refine blk_far ?_ NB286_302.out _; (with_reducible repeat (first | refine blk_drewN ?_ _ | refine blk_drew ?_ | refine blk_alloc ?_ _)); refine blk_far ?_ NB286_302.out _; (with_reducible repeat (first | refine blk_drewN ?_ _ | refine blk_drew ?_ | refine blk_alloc ?_ _)); refine blk_far ?_ NB286_302.out _; (with_reducible repeat (first | refine blk_drewN ?_ _ | refine blk_drew ?_ | refine blk_alloc ?_ _)); refine blk_far ?_ NB286_302.out _; (with_reducible repeat (first | refine blk_drewN ?_ _ | refine blk_drew ?_ | refine blk_alloc ?_ _)); refine blk_far ?_ NB286_302.out _; (with_reducible repeat (first | refine blk_drewN ?_ _ | refine blk_drew ?_ | refine blk_alloc ?_ _)); exact BK286.out) hb); have n7_ := Aside0.mk (blk_below (g := gb295) (o := .cells #[.int .u64 t289, .int .u64 t290, .int .u64 t291, .int .u64 t292, .int .i64 t293] 42 (0, 0)) (by (with_reducible repeat (first | refine blk_drewN ?_ _ | refine blk_drew ?_ | refine blk_alloc ?_ _)); refine blk_far ?_ NB295_302.out _; (with_reducible repeat (first | refine blk_drewN ?_ _ | refine blk_drew ?_ | refine blk_alloc ?_ _)); refine blk_far ?_ NB295_302.out _; (with_reducible repeat (first | refine blk_drewN ?_ _ | refine blk_drew ?_ | refine blk_alloc ?_ _)); refine blk_far ?_ NB295_302.out _; (with_reducible repeat (first | refine blk_drewN ?_ _ | refine blk_drew ?_ | refine blk_alloc ?_ _)); refine blk_far ?_ NB295_302.out _; (with_reducible repeat (first | refine blk_drewN ?_ _ | refine blk_drew ?_ | refine blk_alloc ?_ _)); refine blk_far ?_ NB295_302.out _; (with_reducible repeat (first | refine blk_drewN ?_ _ | refine blk_drew ?_ | refine blk_alloc ?_ _)); exact BK295.out) hb); have n8_ := Aside0.mk (blk_below (g := gb302) (o := .cells #[.int .u64 t296, .int .u64 t297, .int .u64 t298, .int .u64 t299, .int .i64 t300] 42 (0, 0)) (by (with_reducible repeat (first | refine blk_drewN ?_ _ | refine blk_drew ?_ | refine blk_alloc ?_ _)); refine blk_put (cs := #[.int .u64 t296, .int .u64 t297, .int .u64 t298, .int .u64 t299, .int .i64 0]) ?_ 4 _ rfl; (with_reducible repeat (first | refine blk_drewN ?_ _ | refine blk_drew ?_ | refine blk_alloc ?_ _)); refine blk_put (cs := #[.int .u64 t296, .int .u64 t297, .int .u64 t298, .int .u64 0, .int .i64 0]) ?_ 3 _ rfl; (with_reducible repeat (first | refine blk_drewN ?_ _ | refine blk_drew ?_ | refine blk_alloc ?_ _)); refine blk_put (cs := #[.int .u64 t296, .int .u64 t297, .int .u64 0, .int .u64 0, .int .i64 0]) ?_ 2 _ rfl; (with_reducible repeat (first | refine blk_drewN ?_ _ | refine blk_drew ?_ | refine blk_alloc ?_ _)); refine blk_put (cs := #[.int .u64 t296, .int .u64 0, .int .u64 0, .int .u64 0, .int .i64 0]) ?_ 1 _ rfl; (with_reducible repeat (first | refine blk_drewN ?_ _ | refine blk_drew ?_ | refine blk_alloc ?_ _)); refine blk_put (cs := #[.int .u64 0, .int .u64 0, .int .u64 0, .int .u64 0, .int .i64 0]) ?_ 0 _ rfl; (with_reducible repeat (first | refine blk_drewN ?_ _ | refine blk_drew ?_ | refine blk_alloc ?_ _)); exact BK302.out) hb); have n9_ := Aside0.mk (below_step (by repeat (first | (with_reducible first | exact HB.out | apply below_alloc | apply pw_below_drewN | apply below_drew1 | refine below_set ?_ GE246.out | refine below_set ?_ GE247.out | refine below_set ?_ GE248.out | refine below_set ?_ GE260.out | refine below_set ?_ GE267.out | refine below_set ?_ GE279.out | refine below_set ?_ GE286.out | refine below_set ?_ GE295.out | refine below_set ?_ GE302.out) | exact HB.out)) hb); clear BK246; clear BK247; clear BK248; clear BK260; clear BK267; clear BK279; clear BK286; clear BK295; clear BK302; clear HB; have BK246 := n0_; have BK247 := n1_; have BK248 := n2_; have BK260 := n3_; have BK267 := n4_; have BK279 := n5_; have BK286 := n6_; have BK295 := n7_; have BK302 := n8_; have HB := n9_; clear n0_ n1_ n2_ n3_ n4_ n5_ n6_ n7_ n8_ n9_; (try clear hb); (try clear hb2); (try clear hk); (try clear hi)))
                  go_ret
                  exact ⟨by first | rfl | (simp [errW_none, errW_some] <;> rfl) | (simp [*, errW_none, errW_some] <;> rfl), by repeat (first | (with_reducible first | exact HB.out | apply below_alloc | apply pw_below_drewN | apply below_drew1 | refine below_set ?_ GE246.out | refine below_set ?_ GE247.out | refine below_set ?_ GE248.out | refine below_set ?_ GE260.out | refine below_set ?_ GE267.out | refine below_set ?_ GE279.out | refine below_set ?_ GE286.out | refine below_set ?_ GE295.out | refine below_set ?_ GE302.out) | exact HB.out)⟩

end Go.Proofs.Ytjnhmdmcmmffeaa.PAll
