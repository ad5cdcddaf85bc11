/-
  policy.Eval, for any rules and spans.
  Conditions: what policy.Match tells is a premise.
-/
import Derived.Test.YtemepnpfhoidhaaGreatDoorPolicyHolds
namespace Go.Proofs.YtemepnpfhoidhaaGreatDoor.PAll
open Go.RowKit Go.Lib Go.Sort Go.Proofs.YtemepnpfhoidhaaGreatDoorW.PrintWords Go.Proofs.YtemepnpfhoidhaaGreatDoorW.PrintLast Go.Proofs.YtemepnpfhoidhaaGreatDoorW.PrintMore
set_option linter.unusedVariables false
set_option linter.unusedSimpArgs false
theorem idx_find {α : Type} [Inhabited α] (p : α → Bool) : ∀ (zs : List α) (i : Nat), (idxByFrom (fun _ y => p y) default zs i = -1 ∧ zs.find? p = none) ∨ ∃ j x, idxByFrom (fun _ y => p y) default zs i = ((i + j : Nat) : Int) ∧ zs[j]? = some x ∧ zs.find? p = some x
  | [], i => .inl ⟨rfl, rfl⟩
  | z :: zs, i => by
    by_cases h : p z = true
    · right
      refine ⟨0, z, ?_, rfl, by rw [List.find?_cons, h]⟩
      rw [idxByFrom, if_pos h]
      rfl
    · have hf : p z = false := by simpa using h
      rcases idx_find p zs (i + 1) with ⟨h1, h2⟩ | ⟨j, x, h1, h2, h3⟩
      · left
        rw [idxByFrom, if_neg h, List.find?_cons, hf]
        exact ⟨h1, h2⟩
      · right
        refine ⟨j + 1, x, ?_, h2, ?_⟩
        · rw [idxByFrom, if_neg h, h1]
          congr 1
          omega
        · rw [List.find?_cons, hf]
          exact h3
set_option maxHeartbeats 4000000 in
set_option maxRecDepth 100000 in
theorem index_nil (A : Option Addr) (c : Nat) (f : Value) (w : World) : Calls Tryz.prog 25 #[.slice A 0 c, f] w fun e w' => e = .returned (.int .i64 (-1)) ∧ Below w.heap.size w w' := by
  go_enter Tryz.func25, Tryz.ntmps25
  go_wp2
  go_loopw [8] (fun i wr => i = .int .i64 0 ∧ wr = w) (fun _ _ => 0)
  case atStart => exact ⟨rfl, rfl⟩
  case round =>
    obtain ⟨rfl, rfl⟩ := hrel
    go_wp2
    go_ret
    exact ⟨rfl, Below.refl _ _⟩
/-- A box with a slice of spans. -/
def SBox (B : Nat) (A : Option Addr) (n c : Nat) (w : World) : Prop := w.heap[B]? = some (.cells #[.slice A n c] 34 (0, 0))
theorem SBox.below {B : Nat} {A : Option Addr} {n c : Nat} {w w' : World} (h : SBox B A n c w) (hb : Below w.heap.size w w') : SBox B A n c w' := blk_below h hb
set_option maxHeartbeats 4000000 in
set_option maxRecDepth 100000 in
theorem pred_eval (L : World → Prop) (hL : ∀ W W' : World, L W → Below W.heap.size W W' → L W') (MB : ByteArray → ByteArray → Bool) (hM : MatchTells L MB) (B : Nat) (A : Option Addr) (c : Nat) (l : List S39) (hsm : ∀ x ∈ l, x.f6.size ≤ 1000) (w : World) (hw : L w) (hC : Kd.C k39 w A l.length l) (hB : SBox B A l.length c w) :
    PredBelow Tryz.prog 26 #[.pointer (some ⟨B, 0, none⟩)] (fun r => .agg (encR r).toArray) (fun r => holdsB MB r l) w := fun W r hb => by
  show Calls Tryz.prog 26 #[.agg #[.bool r.f0, .string r.f1, .int .u64 r.f2, .string r.f3], .pointer (some ⟨B, 0, none⟩)] W _
  have hBW := hB.below hb
  have hb2 := below_alloc (Below.refl W.heap.size W) (.cells #[.bool r.f0, .string r.f1, .int .u64 r.f2, .string r.f3] 46)
  have HLW := Aside0.mk (hL _ _ (hL _ _ hw hb) hb2)
  have HB := Aside0.mk (hb.alloc hb.size (.cells #[.bool r.f0, .string r.f1, .int .u64 r.f2, .string r.f3] 46))
  have HCW := Aside0.mk (Kd.C_below (Kd.C_below hC hb) hb2)
  have hc : (W.alloc (.cells #[.bool r.f0, .string r.f1, .int .u64 r.f2, .string r.f3] 46)).cell? ⟨B, 0, none⟩ = some (.slice A l.length c) := (blk_cell (blk_alloc hBW _) 0).trans rfl
  have HSZ := Aside0.mk (show w.heap.size ≤ (W.alloc (.cells #[.bool r.f0, .string r.f1, .int .u64 r.f2, .string r.f3] 46)).heap.size by have := hb.size; simp; omega)
  have HM := Aside0.mk hM
  have HL := Aside0.mk hL
  have HSM := Aside0.mk hsm
  clear hsm hb hb2 hBW hB hL hM hw hC
  go_enter Tryz.func26, Tryz.ntmps26
  go_wp2_with fail
  refine (holds_calls L HL.out MB HM.out r A c l HSM.out _ HLW.out HCW.out).mono ?_
  rintro e w2 ⟨rfl, hb2⟩
  have HB2 := Aside0.mk (HB.out.trans (hb2.mono HSZ.out))
  clear hb2 hc
  go_wp2
  go_ret
  exact ⟨rfl, HB2.out⟩
/-- What a policy says of spans. -/
def evalB (MB : ByteArray → ByteArray → Bool) (rs : List S46) (l : List S39) : Int :=
  if l.length = 0 then 0 else match rs.find? (fun r => holdsB MB r l) with
    | some r => if r.f0 = true then 1 else 2
    | none => 2
set_option maxHeartbeats 8000000 in
set_option maxRecDepth 100000 in
theorem eval_calls (L : World → Prop) (hL : ∀ W W' : World, L W → Below W.heap.size W W' → L W') (MB : ByteArray → ByteArray → Bool) (hM : MatchTells L MB) (A0 : Option Addr) (c0 : Nat) (rs : List S46) (A : Option Addr) (c : Nat) (l : List S39) (hsm : ∀ x ∈ l, x.f6.size ≤ 1000) (w : World) (hw : L w) (hC0 : Kd.C k46 w A0 rs.length rs) (hC : Kd.C k39 w A l.length l) :
    Calls Tryz.prog 12 #[.slice A0 rs.length c0, .slice A l.length c] w fun e w' => e = .returned (.int .i64 (evalB MB rs l)) ∧ Below w.heap.size w w' := by
  obtain ⟨a, ha⟩ : ∃ a, evalB MB rs l = a := ⟨_, rfl⟩
  rw [ha]
  unfold evalB at ha
  have hb1 := below_alloc (Below.refl w.heap.size w) (.cells #[.slice A l.length c] 34)
  have BS := Aside0.mk (show SBox w.heap.size A l.length c (w.alloc (.cells #[.slice A l.length c] 34)) from heap_alloc_new w _)
  by_cases h0 : l.length = 0
  · rw [if_pos h0] at ha
    subst ha
    have h0b : ((l.length : Int) == 0) = true := by simp [h0]
    have HB1 := Aside0.mk hb1
    clear hL hM hw hC hC0 hb1 h0 hsm
    go_enter Tryz.func12, Tryz.ntmps12
    go_wp2
    go_ret
    exact ⟨rfl, HB1.out⟩
  · rw [if_neg h0] at ha
    have h0b : ((l.length : Int) == 0) = false := by simpa using h0
    have hp := pred_eval L hL MB hM w.heap.size A c l hsm _ (hL _ _ hw hb1) (Kd.C_below hC hb1) BS.out
    have hidx : Calls Tryz.prog 25 #[.slice A0 rs.length c0, .func (.func 26) #[] #[.pointer (some ⟨w.heap.size, 0, none⟩)]] (w.alloc (.cells #[.slice A l.length c] 34)) fun e w' => e = .returned (.int .i64 (idxBy (fun _ y => holdsB MB y l) rs default)) ∧ Below (w.alloc (.cells #[.slice A l.length c] 34)).heap.size (w.alloc (.cells #[.slice A l.length c] 34)) w' := by
      by_cases hr0 : rs.length = 0
      · have e0 : rs = [] := List.length_eq_zero_iff.1 hr0
        rw [hr0]
        subst e0
        exact index_nil _ _ _ _
      · obtain ⟨b, off, rfl, hb, hcells⟩ := rowR (Kd.C_below hC0 hb1) (by omega)
        have hk := AnyQ.slices_IndexFunc Tryz.ixRule 4 Tryz.isAgg46 Tryz.sizeOf46 encR (fun _ => rfl) (fun r => holdsB MB r l) 26 _ (enters_of Tryz.func26 (by kernel_rfl) rfl) b off rs.length c0 rs _ hp (Nat.le_refl _) hC0.2.1 hb hcells
        rw [List.take_length] at hk
        exact hk
    have HC0 := Aside0.mk (Kd.C_below hC0 hb1)
    have HI := Aside0.mk hidx
    have HA := Aside0.mk ha
    have HB1 := Aside0.mk hb1
    have hlr : (rs.length : Int) ≤ 9223372036854775807 := by have := hC0.2.1; omega
    clear hL hM hw hC hC0 hb1 hp hidx ha hsm
    go_enter Tryz.func12, Tryz.ntmps12
    go_wp2_with fail
    refine HI.out.mono ?_
    rintro e w2 ⟨rfl, hb2⟩
    have HB2 := Aside0.mk (below_step HB1.out hb2)
    have HC2 := Aside0.mk (Kd.C_below HC0.out hb2)
    clear hb2 HI
    rcases idx_find (fun r => holdsB MB r l) rs 0 with ⟨h1, h2⟩ | ⟨j, x, h1, h2, h3⟩
    · have ha := HA.out
      rw [h2] at ha
      subst ha
      rw [show idxBy (fun _ y => holdsB MB y l) rs default = -1 from h1]
      go_wp2
      go_ret
      exact ⟨rfl, HB2.out⟩
    · have ha := HA.out
      rw [h3] at ha
      obtain ⟨hlt, hx⟩ := List.getElem?_eq_some_iff.1 h2
      rw [show idxBy (fun _ y => holdsB MB y l) rs default = (j : Int) from by rw [show idxBy (fun _ y => holdsB MB y l) rs default = _ from h1, Nat.zero_add]]
      obtain ⟨ad, rfl, hx0, _⟩ := at_T46 HC2.out (j : Int) (by omega) (by omega)
      have hrd : rd_T46 rs (j : Int) = x := by
        unfold rd_T46
        rw [Int.toNat_natCast, List.getD_eq_getElem?_getD, h2]
        rfl
      rw [hrd, Int.toNat_natCast] at hx0
      have p0 : (0 : Int) ≤ (j : Int) := by omega
      have p1 : (j : Int) < (rs.length : Int) := by omega
      have HA2 := Aside0.mk ha
      clear h1 h2 h3 hx hrd ha
      cases hk : x.f0 with
      | true =>
        rw [hk] at hx0
        have ha : (if x.f0 = true then (1 : Int) else 2) = a := HA2.out
        rw [if_pos hk] at ha
        subst ha
        clear hk
        go_wp2
        go_ret
        exact ⟨rfl, HB2.out⟩
      | false =>
        rw [hk] at hx0
        have ha : (if x.f0 = true then (1 : Int) else 2) = a := HA2.out
        rw [hk, if_neg (by decide)] at ha
        subst ha
        clear hk
        go_wp2
        go_ret
        exact ⟨rfl, HB2.out⟩
end Go.Proofs.YtemepnpfhoidhaaGreatDoor.PAll
