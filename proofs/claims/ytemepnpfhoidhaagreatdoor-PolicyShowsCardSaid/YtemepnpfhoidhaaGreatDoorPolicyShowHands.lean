/-
  policy.Right, strings.Join and strconv.FormatUint as the printed text of policy.Show calls them.
  Conditions: the table of powers of ten as the program lays it.
-/
import Derived.Test.YtemepnpfhoidhaaGreatDoorPolicyHandN
import Derived.Test.YtemepnpfhoidhaaGreatDoorPolicyLaidJ
import Derived.Test.YtemepnpfhoidhaaGreatDoorPAllx1m
namespace Go.Proofs.YtemepnpfhoidhaaGreatDoor.PAll
open Go.RowKit Go.Lib Go.Sort Go.Proofs.YtemepnpfhoidhaaGreatDoorW.PrintWords Go.Proofs.YtemepnpfhoidhaaGreatDoorW.PrintLast Go.Proofs.YtemepnpfhoidhaaGreatDoorW.PrintMore
set_option linter.unusedVariables false
set_option linter.unusedSimpArgs false
theorem info9 : (Tryz.prog.info? 9).map (fun i => (i.zero, i.size, i.bytes)) = some (some (.string ⟨#[]⟩), 1, 16) := by kernel_rfl
set_option maxHeartbeats 4000000 in
set_option maxRecDepth 100000 in
theorem contains_nil (A : Option Addr) (c : Nat) (f : Value) (w : World) : Calls Tryz.prog 18 #[.slice A 0 c, f] w fun e w' => e = .returned (.bool false) ∧ Below w.heap.size w w' := by
  go_enter Tryz.func18, Tryz.ntmps18
  go_wp2_with (go_at_call 25; refine (index_nil _ _ _ _).mono ?_; rintro e w' ⟨rfl, hb⟩; have HB := Aside0.mk hb; clear hb)
  go_ret
  exact ⟨rfl, HB.out⟩
set_option maxHeartbeats 4000000 in
set_option maxRecDepth 100000 in
theorem pred_right (w : World) : PredBelow Tryz.prog 19 #[] (fun r => .agg (encR r).toArray) (fun r => !rightB r.f1 r.f2 r.f3) w := fun W r hb => by
  show Calls Tryz.prog 19 #[.agg #[.bool r.f0, .string r.f1, .int .u64 r.f2, .string r.f3]] W _
  have HB := Aside0.mk (hb.alloc hb.size (.cells #[.bool r.f0, .string r.f1, .int .u64 r.f2, .string r.f3] 46))
  have HSZ := Aside0.mk (show w.heap.size ≤ (W.alloc (.cells #[.bool r.f0, .string r.f1, .int .u64 r.f2, .string r.f3] 46)).heap.size by have := hb.size; simp; omega)
  clear hb
  go_enter Tryz.func19, Tryz.ntmps19
  go_wp2_with fail
  refine (right_calls r.f0 r.f1 r.f2 r.f3 _).mono ?_
  rintro e w2 ⟨rfl, hb2⟩
  have HB2 := Aside0.mk (HB.out.trans (hb2.mono HSZ.out))
  clear hb2
  go_wp2
  go_ret
  exact ⟨rfl, HB2.out⟩
/-- Are all rules right? -/
def policy_Right.f (l : List S46) : Option Int := some (if 16 < l.length then 4 else if l.any (fun r => !rightB r.f1 r.f2 r.f3) = true then 7 else 0)
set_option maxHeartbeats 4000000 in
set_option maxRecDepth 100000 in
theorem policy_Right.calls (A0 : Option Addr) (c0 : Nat) (l0 : List S46) (r : Int) (w : World) (hr0 : Kd.C k46 w A0 l0.length l0) (hc0 : l0.length ≤ c0) (h : policy_Right.f l0 = some r) :
    Calls Tryz.prog 9 #[.slice A0 l0.length c0] w fun e w' => e = .returned (.int .i64 r) ∧ Below w.heap.size w w' := by
  have h := Option.some.inj h
  by_cases h16 : 16 < l0.length
  · rw [if_pos h16] at h
    subst h
    have hlt : decide ((16 : Int) < (l0.length : Int)) = true := decide_eq_true (by omega)
    clear hr0
    go_enter Tryz.func9, Tryz.ntmps9
    go_wp2
    go_ret
    exact ⟨rfl, Below.refl _ _⟩
  · rw [if_neg h16] at h
    have hlt : decide ((16 : Int) < (l0.length : Int)) = false := decide_eq_false (by omega)
    have hct : Calls Tryz.prog 18 #[.slice A0 l0.length c0, .func (.func 19) #[] #[]] w fun e w' => e = .returned (.bool (l0.any (fun r => !rightB r.f1 r.f2 r.f3))) ∧ Below w.heap.size w w' := by
      by_cases hr : l0.length = 0
      · have e0 : l0 = [] := List.length_eq_zero_iff.1 hr
        rw [hr]
        subst e0
        exact contains_nil _ _ _ _
      · obtain ⟨b, off, rfl, hb, hcells⟩ := rowR hr0 (by omega)
        have hk := AnyQ.slices_ContainsFunc Tryz.ctRule 4 Tryz.isAgg46 Tryz.sizeOf46 encR (fun _ => rfl) (fun r => !rightB r.f1 r.f2 r.f3) 19 _ (enters_of Tryz.func19 (by kernel_rfl) rfl) b off l0.length c0 l0 w (pred_right w) (Nat.le_refl _) hr0.2.1 hb hcells
        rw [List.take_length] at hk
        exact hk
    obtain ⟨t, ht⟩ : ∃ t, l0.any (fun r => !rightB r.f1 r.f2 r.f3) = t := ⟨_, rfl⟩
    rw [ht] at h hct
    have HC := Aside0.mk hct
    have h16b : (l0.length : Int) ≤ 16 := by omega
    clear hct hr0 ht h16
    cases t with
    | true =>
      rw [if_pos rfl] at h
      subst h
      go_enter Tryz.func9, Tryz.ntmps9
      go_wp2_with (go_at_call 18; refine HC.out.mono ?_; rintro e w' ⟨rfl, hb⟩; have HB := Aside0.mk hb; clear hb)
      go_ret
      exact ⟨rfl, HB.out⟩
    | false =>
      rw [if_neg (by decide)] at h
      subst h
      go_enter Tryz.func9, Tryz.ntmps9
      go_wp2_with (go_at_call 18; refine HC.out.mono ?_; rintro e w' ⟨rfl, hb⟩; have HB := Aside0.mk hb; clear hb)
      go_ret
      exact ⟨rfl, HB.out⟩
/-! ### strings.Join -/
theorem rowT {w : World} {A : Option Addr} {zs : List ByteArray} (h : Kd.C Kd.string w A zs.length zs) (h0 : 0 < zs.length) :
    ∃ b off, A = some ⟨b, off, none⟩ ∧ b < w.heap.size ∧ ∀ j x, zs[j]? = some x → w.cell? ⟨b, off + j, none⟩ = some (.string x) := by
  have hat := fun (i : Int) (h0 : 0 ≤ i) (h1 : i < zs.length) => ReadsOf.at_ (Kd.reads_of_C (enc := Value.string) (d := (⟨#[]⟩ : ByteArray)) (h1 := fun _ => rfl) h) i h0 h1
  obtain ⟨ad, rfl, h00⟩ := hat 0 (by omega) (by omega)
  have hs := World.cell?_spot h00
  have hb := World.block_lt_of_cell? _ _ h00
  obtain ⟨b, off, sp⟩ := ad
  have hsp : sp = none := by simpa [Addr.add] using hs
  subst hsp
  refine ⟨b, off, rfl, by simpa [Go.Lib.add_plain] using hb, fun j x hx => ?_⟩
  obtain ⟨hj, hx⟩ := List.getElem?_eq_some_iff.1 hx
  obtain ⟨ad, had, hc⟩ := hat (j : Int) (by omega) (by omega)
  obtain rfl := Option.some.inj had
  rw [Int.toNat_natCast, Go.Lib.add_plain] at hc
  rw [hc]
  unfold rdOf
  rw [Int.toNat_natCast, List.getD_eq_getElem?_getD, List.getElem?_eq_getElem hj, hx]
  rfl
/-- Texts with another between them. -/
def joinT (l : List ByteArray) (c : ByteArray) : ByteArray := ⟨(Lib.join (l.map (·.data.toList)) c.data.toList).toArray⟩
def strings_Join.f (l0 : List ByteArray) (a1 : ByteArray) : Option ByteArray := if l0.length ≤ 1000000 ∧ (joinT l0 a1).size ≤ 1000000 then some (joinT l0 a1) else none
theorem strings_Join.calls (A0 : Option Addr) (c0 : Nat) (l0 : List ByteArray) (a1 : ByteArray) (r : ByteArray) (w : World) (hr0 : Kd.C Kd.string w A0 l0.length l0) (hc0 : l0.length ≤ c0) (h : strings_Join.f l0 a1 = some r) :
    Calls Tryz.prog 16 #[.slice A0 l0.length c0, .string a1] w fun e w' => e = .returned (.string r) ∧ Below w.heap.size w w' := by
  unfold strings_Join.f at h
  split at h
  · rename_i hh
    obtain rfl := Option.some.inj h
    have hsz : (Lib.join (l0.map (·.data.toList)) a1.data.toList).length ≤ 1000000 := by
      have h2 : (Lib.join (l0.map (·.data.toList)) a1.data.toList).toArray.size ≤ 1000000 := hh.2
      simpa using h2
    by_cases hr : l0.length = 0
    · have e0 : l0 = [] := List.length_eq_zero_iff.1 hr
      subst e0
      refine (Any.strings_Join_none Tryz.lJoin Tryz.lJoinX A0 c0 a1 w).mono ?_
      rintro e w' ⟨rfl, rfl⟩
      exact ⟨rfl, Below.refl _ _⟩
    · obtain ⟨b, off, rfl, hb, hcells⟩ := rowT hr0 (by omega)
      exact Any.strings_Join Tryz.lJoin Tryz.lJoinX b off c0 l0 a1 w hcells hb (by omega) hc0 (by omega)
  · cases h
/-! ### strconv.FormatUint -/
def strconv_FormatUint_15.f (a0 a1 : Int) : Option ByteArray := if a1 = 10 ∧ 0 ≤ a0 ∧ a0 < 18446744073709551616 then some ⟨(decDigits a0.toNat).toArray⟩ else none
theorem strconv_FormatUint_15.calls (a0 a1 : Int) (r : ByteArray) (w : World) (h : strconv_FormatUint_15.f a0 a1 = some r) (hL : Laid w := by (exact HLD.out.below (by repeat (first | (with_reducible first | exact HB.out | apply below_alloc | apply pw_below_drewN | apply below_drew1 | refine below_set ?_ (Aside0.out (by assumption))) | exact HB.out)))) :
    Calls Tryz.prog 15 #[.int .u64 a0, .int .i64 a1] w fun e w' => e = .returned (.string r) ∧ Below w.heap.size w w' := by
  unfold strconv_FormatUint_15.f at h
  split at h
  · rename_i hh
    obtain rfl := Option.some.inj h
    obtain ⟨rfl, h0, h1⟩ := hh
    obtain ⟨u, rfl⟩ := Int.eq_ofNat_of_zero_le h0
    exact fmtUint u (by omega) w hL.1
  · cases h
end Go.Proofs.YtemepnpfhoidhaaGreatDoor.PAll
