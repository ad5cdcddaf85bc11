/-
  policy.Right, strings.Join and strconv.FormatUint as the printed text of policy.Show calls them.
  Conditions: the table of powers of ten as the program lays it.
-/
import Derived.Test.YtemepnpfhoidhaaDoorPolicyHandN
import Derived.Test.YtemepnpfhoidhaaDoorPolicyLaidJ
import Derived.Test.YtemepnpfhoidhaaDoorPAllx1
namespace Go.Proofs.YtemepnpfhoidhaaDoor.PAll
open Go.RowKit Go.Lib Go.Sort Go.Proofs.YtemepnpfhoidhaaDoorW.PrintWords Go.Proofs.YtemepnpfhoidhaaDoorW.PrintLast Go.Proofs.YtemepnpfhoidhaaDoorW.PrintMore
set_option linter.unusedVariables false
set_option linter.unusedSimpArgs false
theorem info9 : (Tryd.prog.info? 9).map (fun i => (i.zero, i.size, i.bytes)) = some (some (.string ⟨#[]⟩), 1, 16) := by kernel_rfl
set_option maxHeartbeats 4000000 in
set_option maxRecDepth 100000 in
theorem contains_nil (A : Option Addr) (c : Nat) (f : Value) (w : World) : Calls Tryd.prog 57 #[.slice A 0 c, f] w fun e w' => e = .returned (.bool false) ∧ Below w.heap.size w w' := by
  go_enter Tryd.func57, Tryd.ntmps57
  go_wp2_with (go_at_call 42; refine (index_nil _ _ _ _).mono ?_; rintro e w' ⟨rfl, hb⟩; have HB := Aside0.mk hb; clear hb)
  go_ret
  exact ⟨rfl, HB.out⟩
set_option maxHeartbeats 4000000 in
set_option maxRecDepth 100000 in
theorem pred_right (w : World) : PredBelow Tryd.prog 58 #[] (fun r => .agg (encR r).toArray) (fun r => !rightB r.f1 r.f2 r.f3) w := fun W r hb => by
  show Calls Tryd.prog 58 #[.agg #[.bool r.f0, .string r.f1, .int .u64 r.f2, .string r.f3]] W _
  have HB := Aside0.mk (hb.alloc hb.size (.cells #[.bool r.f0, .string r.f1, .int .u64 r.f2, .string r.f3] 37))
  have HSZ := Aside0.mk (show w.heap.size ≤ (W.alloc (.cells #[.bool r.f0, .string r.f1, .int .u64 r.f2, .string r.f3] 37)).heap.size by have := hb.size; simp; omega)
  clear hb
  go_enter Tryd.func58, Tryd.ntmps58
  go_wp2_with fail
  refine (right_calls r.f0 r.f1 r.f2 r.f3 _).mono ?_
  rintro e w2 ⟨rfl, hb2⟩
  have HB2 := Aside0.mk (HB.out.trans (hb2.mono HSZ.out))
  clear hb2
  go_wp2
  go_ret
  exact ⟨rfl, HB2.out⟩
/-- Are all rules right? -/
def policy_Right.f (l : List S37) : Option Int := some (if 16 < l.length then 4 else if l.any (fun r => !rightB r.f1 r.f2 r.f3) = true then 7 else 0)
set_option maxHeartbeats 4000000 in
set_option maxRecDepth 100000 in
theorem policy_Right.calls (A0 : Option Addr) (c0 : Nat) (l0 : List S37) (r : Int) (w : World) (hr0 : Kd.C k37 w A0 l0.length l0) (hc0 : l0.length ≤ c0) (h : policy_Right.f l0 = some r) :
    Calls Tryd.prog 44 #[.slice A0 l0.length c0] w fun e w' => e = .returned (.int .i64 r) ∧ Below w.heap.size w w' := by
  have h := Option.some.inj h
  by_cases h16 : 16 < l0.length
  · rw [if_pos h16] at h
    subst h
    have hlt : decide ((16 : Int) < (l0.length : Int)) = true := decide_eq_true (by omega)
    clear hr0
    go_enter Tryd.func44, Tryd.ntmps44
    go_wp2
    go_ret
    exact ⟨rfl, Below.refl _ _⟩
  · rw [if_neg h16] at h
    have hlt : decide ((16 : Int) < (l0.length : Int)) = false := decide_eq_false (by omega)
    have hct : Calls Tryd.prog 57 #[.slice A0 l0.length c0, .func (.func 58) #[] #[]] w fun e w' => e = .returned (.bool (l0.any (fun r => !rightB r.f1 r.f2 r.f3))) ∧ Below w.heap.size w w' := by
      by_cases hr : l0.length = 0
      · have e0 : l0 = [] := List.length_eq_zero_iff.1 hr
        rw [hr]
        subst e0
        exact contains_nil _ _ _ _
      · obtain ⟨b, off, rfl, hb, hcells⟩ := rowR hr0 (by omega)
        have hk := AnyQ.slices_ContainsFunc Tryd.ctRule 4 Tryd.isAgg37 Tryd.sizeOf37 encR (fun _ => rfl) (fun r => !rightB r.f1 r.f2 r.f3) 58 _ (enters_of Tryd.func58 (by kernel_rfl) rfl) b off l0.length c0 l0 w (pred_right w) (Nat.le_refl _) hr0.2.1 hb hcells
        rw [List.take_length] at hk
        exact hk
    obtain ⟨t, ht⟩ : ∃ t, l0.any (fun r => !rightB r.f1 r.f2 r.f3) = t := ⟨_, rfl⟩
    rw [ht] at h hct
    have HC := Aside0.mk hct
    have h16b : (l0.length : Int) ≤ 16 := by omega
    clear hct hr0 ht h16
    cases t with
    | true =>
      rw [if_pos rfl] at h
      subst h
      go_enter Tryd.func44, Tryd.ntmps44
      go_wp2_with (go_at_call 57; refine HC.out.mono ?_; rintro e w' ⟨rfl, hb⟩; have HB := Aside0.mk hb; clear hb)
      go_ret
      exact ⟨rfl, HB.out⟩
    | false =>
      rw [if_neg (by decide)] at h
      subst h
      go_enter Tryd.func44, Tryd.ntmps44
      go_wp2_with (go_at_call 57; refine HC.out.mono ?_; rintro e w' ⟨rfl, hb⟩; have HB := Aside0.mk hb; clear hb)
      go_ret
      exact ⟨rfl, HB.out⟩
/-! ### strings.Join -/
theorem rowT {w : World} {A : Option Addr} {zs : List ByteArray} (h : Kd.C Kd.string w A zs.length zs) (h0 : 0 < zs.length) :
    ∃ b off, A = some ⟨b, off, none⟩ ∧ b < w.heap.size ∧ ∀ j x, zs[j]? = some x → w.cell? ⟨b, off + j, none⟩ = some (.string x) := by
  have hat := fun (i : Int) (h0 : 0 ≤ i) (h1 : i < zs.length) => ReadsOf.at_ (Kd.reads_of_C (enc := Value.string) (d := (⟨#[]⟩ : ByteArray)) (h1 := fun _ => rfl) h) i h0 h1
  obtain ⟨ad, rfl, h00⟩ := hat 0 (by omega) (by omega)
  have hs := World.cell?_spot h00
  have hb := World.block_lt_of_cell? _ _ h00
  obtain ⟨b, off, sp⟩ := ad
  have hsp : sp = none := by simpa [Addr.add] using hs
  subst hsp
  refine ⟨b, off, rfl, by simpa [Go.Lib.add_plain] using hb, fun j x hx => ?_⟩
  obtain ⟨hj, hx⟩ := List.getElem?_eq_some_iff.1 hx
  obtain ⟨ad, had, hc⟩ := hat (j : Int) (by omega) (by omega)
  obtain rfl := Option.some.inj had
  rw [Int.toNat_natCast, Go.Lib.add_plain] at hc
  rw [hc]
  unfold rdOf
  rw [Int.toNat_natCast, List.getD_eq_getElem?_getD, List.getElem?_eq_getElem hj, hx]
  rfl
/-- Texts with another between them. -/
def joinT (l : List ByteArray) (c : ByteArray) : ByteArray := ⟨(Lib.join (l.map (·.data.toList)) c.data.toList).toArray⟩
def strings_Join.f (l0 : List ByteArray) (a1 : ByteArray) : Option ByteArray := if l0.length ≤ 1000000 ∧ (joinT l0 a1).size ≤ 1000000 then some (joinT l0 a1) else none
theorem strings_Join.calls (A0 : Option Addr) (c0 : Nat) (l0 : List ByteArray) (a1 : ByteArray) (r : ByteArray) (w : World) (hr0 : Kd.C Kd.string w A0 l0.length l0) (hc0 : l0.length ≤ c0) (h : strings_Join.f l0 a1 = some r) :
    Calls Tryd.prog 47 #[.slice A0 l0.length c0, .string a1] w fun e w' => e = .returned (.string r) ∧ Below w.heap.size w w' := by
  unfold strings_Join.f at h
  split at h
  · rename_i hh
    obtain rfl := Option.some.inj h
    have hsz : (Lib.join (l0.map (·.data.toList)) a1.data.toList).length ≤ 1000000 := by
      have h2 : (Lib.join (l0.map (·.data.toList)) a1.data.toList).toArray.size ≤ 1000000 := hh.2
      simpa using h2
    by_cases hr : l0.length = 0
    · have e0 : l0 = [] := List.length_eq_zero_iff.1 hr
      subst e0
      refine (Any.strings_Join_none Tryd.lJoin Tryd.lJoinX A0 c0 a1 w).mono ?_
      rintro e w' ⟨rfl, rfl⟩
      exact ⟨rfl, Below.refl _ _⟩
    · obtain ⟨b, off, rfl, hb, hcells⟩ := rowT hr0 (by omega)
      exact Any.strings_Join Tryd.lJoin Tryd.lJoinX b off c0 l0 a1 w hcells hb (by omega) hc0 (by omega)
  · cases h
/-! ### strconv.FormatUint -/
def strconv_FormatUint_46.f (a0 a1 : Int) : Option ByteArray := if a1 = 10 ∧ 0 ≤ a0 ∧ a0 < 18446744073709551616 then some ⟨(decDigits a0.toNat).toArray⟩ else none
theorem strconv_FormatUint_46.calls (a0 a1 : Int) (r : ByteArray) (w : World) (h : strconv_FormatUint_46.f a0 a1 = some r) (hL : Laid w := by (exact HLD.out.below (by repeat (first | (with_reducible first | exact HB.out | apply below_alloc | apply pw_below_drewN | apply below_drew1 | refine below_set ?_ (Aside0.out (by assumption))) | exact HB.out)))) :
    Calls Tryd.prog 46 #[.int .u64 a0, .int .i64 a1] w fun e w' => e = .returned (.string r) ∧ Below w.heap.size w w' := by
  unfold strconv_FormatUint_46.f at h
  split at h
  · rename_i hh
    obtain rfl := Option.some.inj h
    obtain ⟨rfl, h0, h1⟩ := hh
    obtain ⟨u, rfl⟩ := Int.eq_ofNat_of_zero_le h0
    exact fmtUint u (by omega) w hL.1
  · cases h
end Go.Proofs.YtemepnpfhoidhaaDoor.PAll
