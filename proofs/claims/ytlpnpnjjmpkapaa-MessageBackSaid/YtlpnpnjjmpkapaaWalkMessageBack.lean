/-
  The law MessageBack, called with anything that its parameters' kinds hold, returns true and writes nothing that was there.
  Conditions: none.
-/
import Derived.Test.YtlpnpnjjmpkapaaMsgBackLaw
import Derived.Test.YtlpnpnjjmpkapaaMsgBackPure
import Derived.Test.YtlpnpnjjmpkapaaOpsAll
import Derived.Test.YtlpnpnjjmpkapaaArrOf
import Derived.Test.YtlpnpnjjmpkapaaPAllx10
import Derived.Test.YtlpnpnjjmpkapaaPAllx14
import Derived.Test.YtlpnpnjjmpkapaaPAllx15
import Derived.Test.YtlpnpnjjmpkapaaPAllx4
namespace Go.Proofs.Ytlpnpnjjmpkapaa.PAll
open Go.RowKit Go.Proofs.YtlpnpnjjmpkapaaW.PrintWords Go.Proofs.YtlpnpnjjmpkapaaW.PrintLast Go.Proofs.YtlpnpnjjmpkapaaW.PrintMore
set_option linter.unusedVariables false
theorem wf_r {x : Int} (h : (Lit.int .u64 x).wf = true) : R64 x := by
  have h2 : IntKind.u64.min ≤ x ∧ x ≤ IntKind.u64.max := by simpa [Lit.wf] using h
  have h3 : IntKind.u64.min = 0 := by decide
  have h4 : IntKind.u64.max = 18446744073709551615 := by decide
  unfold R64
  omega
theorem wf_8 {x : Int} (h : (Lit.int .u8 x).wf = true) : 0 ≤ x ∧ x ≤ 255 := by
  have h2 : IntKind.u8.min ≤ x ∧ x ≤ IntKind.u8.max := by simpa [Lit.wf] using h
  have h3 : IntKind.u8.min = 0 := by decide
  have h4 : IntKind.u8.max = 255 := by decide
  omega
theorem wp_of {x : S30} (h : ok30 x) : WP x.f1 x.f2.f0 x.f2.f1 x.f3.f0 x.f3.f1 x.f6 x.f7 x.f8 := by
  obtain ⟨_, o1, o2, o3, _, _, o6, o7, o8⟩ := h
  exact ⟨wf_r o1, wf_r o2.1, wf_r o2.2, wf_r o3.1, wf_r o3.2, fun s hs => ⟨wf_r (o6.2 s hs).1, wf_r (o6.2 s hs).2.1, wf_r (o6.2 s hs).2.2.1, wf_r (o6.2 s hs).2.2.2.1, wf_r (o6.2 s hs).2.2.2.2.1⟩, fun s hs => ⟨wf_r (o7.2 s hs).1, wf_r (o7.2 s hs).2.1⟩, fun n hn => wf_r (o8.2 n hn)⟩
theorem back_all (a0 a1 a2 a3 a4 a5 a6 cut more : Int) (a7 : Bool) (A8 : Option Addr) (c8 : Nat) (l8 : List S76) (A9 : Option Addr) (c9 : Nat) (l9 : List S92) (A10 : Option Addr) (c10 : Nat) (l10 : List Int) (w : World)
    (h8 : Kd.C k76 w A8 l8.length l8) (e8 : l8.length ≤ c8) (h9 : Kd.C k92 w A9 l9.length l9) (e9 : l9.length ≤ c9) (h10 : Kd.C (Kd.int .u64) w A10 l10.length l10) (e10 : l10.length ≤ c10) (wp : WP a1 a2 a3 a4 a5 l8 l9 l10) (hm : 0 ≤ more ∧ more ≤ 255) :
    Calls Try.prog 7 #[.agg #[.int .i64 a0, .int .u64 a1, .int .u64 a2, .int .u64 a3, .int .u64 a4, .int .u64 a5, .int .i64 a6, .bool a7, .slice A8 l8.length c8, .slice A9 l9.length c9, .slice A10 l10.length c10], .int .i64 cut, .int .u8 more] w fun e w' => e = .returned (.bool true) ∧ Below w.heap.size w w' := by
  obtain ⟨b, hb, hl⟩ := light_eq a0 a1 a2 a3 a4 a5 a6 a7 l8 l9 l10 (k := 4000) (by omega)
  have hL : ∀ W, Below w.heap.size w W → _ := fun W hB => winnowlaw05_Light.calls 4000 a0 a1 a2 a3 a4 a5 a6 a7 A8 c8 l8 A9 c9 l9 A10 c10 l10 b W (Kd.C_below h8 hB) e8 (Kd.C_below h9 hB) e9 (Kd.C_below h10 hB) e10 hb
  have hA := fun W => winnowlaw05_alive.calls true W rfl
  cases b
  · exact back_dark a0 a1 a2 a3 a4 a5 a6 cut more a7 A8 c8 l8 A9 c9 l9 A10 c10 l10 w hL hA
  obtain ⟨n8, n9, n10⟩ := hl rfl
  have w8 : ∀ s ∈ l8, 0 ≤ s.f1 ∧ s.f1 < 18446744073709551616 := fun s hs => (wp.2.2.2.2.2.1 s hs).2.1
  obtain ⟨v, hv, hv2⟩ := right_val a0 a1 a2 a3 a4 a5 a6 a7 n8 n9 n10 w8
  rcases hv2 with rfl | rfl
  · have hE := fun W (hB : Below w.heap.size w W) => message_Encode.calls a0 a1 a2 a3 a4 a5 a6 a7 A8 c8 l8 A9 c9 l9 A10 c10 l10 _ _ W (Kd.C_below h8 hB) e8 (Kd.C_below h9 hB) e9 (Kd.C_below h10 hB) e10 (enc_ok a0 a1 a2 a3 a4 a5 a6 a7 n8 n9 n10 w8 hv)
    have hF : (frameL (payL a0 a1 a2 a3 a4 a5 a6 a7 l8 l9 l10)).length ≤ 100000 := by
      have := (pay_small a0 a1 a2 a3 a4 a5 a6 a7 n8 n9 n10 w8 hv).2
      rw [frameL_len]
      omega
    refine back_good a0 a1 a2 a3 a4 a5 a6 cut more a7 A8 c8 l8 A9 c9 l9 A10 c10 l10 w (frameL (payL a0 a1 a2 a3 a4 a5 a6 a7 l8 l9 l10)) hF hL hE (fun A c W hC hc => dec_good a0 a1 a2 a3 a4 a5 a6 a7 n8 n9 n10 wp hv A c W hC hc) (fun A c W hC hc => ?_) (fun m hm A c W hC hc => dec_cut a0 a1 a2 a3 a4 a5 a6 a7 n8 n9 n10 wp hv m hm A c W hC hc)
      (fun W A8x c8x A9x c9x A10x c10x hB q8 d8 q9 d9 q10 d10 => (winnowref05_Same.calls 4000 a0 a1 a2 a3 a4 a5 a6 a7 A8 c8 l8 A9 c9 l9 A10 c10 l10 a0 a1 a2 a3 a4 a5 a6 a7 A8x c8x l8 A9x c9x l9 A10x c10x l10 true W (Kd.C_below h8 hB) e8 (Kd.C_below h9 hB) e9 (Kd.C_below h10 hB) e10 q8 d8 q9 d9 q10 d10 (same_self a0 a1 a2 a3 a4 a5 a6 a7 n8 n9 n10)).mono ?_) hA
    · have hl1 : (frameL (payL a0 a1 a2 a3 a4 a5 a6 a7 l8 l9 l10) ++ [more]).length = (frameL (payL a0 a1 a2 a3 a4 a5 a6 a7 l8 l9 l10)).length + 1 := by simp
      have := dec_more a0 a1 a2 a3 a4 a5 a6 a7 n8 n9 n10 wp hv more hm.1 hm.2 A c W (by rw [hl1]; exact hC) (by rw [hl1]; exact hc)
      rwa [hl1] at this
    · rintro e w' ⟨rfl, hb⟩
      refine ⟨rfl, ?_⟩
      first
        | exact hb
        | (obtain ⟨nd, rfl⟩ := hb; first | exact pw_below_drewN _ _ _ | exact pw_below_drewN (Below.refl _ _) | (apply pw_below_drewN; exact Below.refl _ _))
  · have hR := fun W (hB : Below w.heap.size w W) => message_Right.calls a0 a1 a2 a3 a4 a5 a6 a7 A8 c8 l8 A9 c9 l9 A10 c10 l10 6 W (Kd.C_below h8 hB) e8 (Kd.C_below h9 hB) e9 (Kd.C_below h10 hB) e10 hv
    have hE := fun W (hB : Below w.heap.size w W) => message_Encode.calls a0 a1 a2 a3 a4 a5 a6 a7 A8 c8 l8 A9 c9 l9 A10 c10 l10 _ _ W (Kd.C_below h8 hB) e8 (Kd.C_below h9 hB) e9 (Kd.C_below h10 hB) e10 (enc_bad a0 a1 a2 a3 a4 a5 a6 a7 n8 n9 n10 hv)
    exact back_bad a0 a1 a2 a3 a4 a5 a6 cut more a7 A8 c8 l8 A9 c9 l9 A10 c10 l10 w hL hE hR hA
theorem walk_MessageBack (W : World) (cs0 : Array Value) (x0 : S30) (hK0 : k30.K W x0 cs0.toList) (ok_0 : ok30 x0)
    (b1 : Int) (ok_1 : (Lit.int .i64 b1).wf = true) (b2 : Int) (ok_2 : (Lit.int .u8 b2).wf = true) :
    Calls Try.prog 7 #[.agg cs0, .int .i64 b1, .int .u8 b2] W fun e W' => e = .returned (.bool true) ∧ Below W.heap.size W W' := by
  obtain ⟨A8, c8, A9, c9, A10, c10, hcs, l8, C8, l9, C9, l10, C10⟩ := k30_open hK0
  obtain rfl := arr_of hcs
  exact back_all _ _ _ _ _ _ _ b1 b2 _ A8 c8 _ A9 c9 _ A10 c10 _ W C8 l8 C9 l9 C10 l10 (wp_of ok_0) (wf_8 ok_2)
end Go.Proofs.Ytlpnpnjjmpkapaa.PAll
