/-
  policy.Holds and policy.Eval, for any rules and spans.
  Conditions: what policy.Match tells is a premise.
-/
import Derived.Test.YtemepnpfhoidhaaGreatDoorPolicyRule
import Derived.Shelf.SlicesQ.IndexFunc
import Derived.Test.YtemepnpfhoidhaaGreatDoorPAllx1m
namespace Go.Proofs.YtemepnpfhoidhaaGreatDoor.PAll
open Go.RowKit Go.Lib Go.Sort Go.Proofs.YtemepnpfhoidhaaGreatDoorW.PrintWords Go.Proofs.YtemepnpfhoidhaaGreatDoorW.PrintLast Go.Proofs.YtemepnpfhoidhaaGreatDoorW.PrintMore
set_option linter.unusedVariables false
set_option linter.unusedSimpArgs false
instance : Inhabited S39 := ⟨z39⟩
instance : Inhabited S46 := ⟨z46⟩
/-- Spans whose names are short. -/
abbrev Sp := { x : S39 // x.f6.size ≤ 1000 }
instance : Inhabited Sp := ⟨⟨z39, by decide⟩⟩
def encS (x : S39) : List Value := [.int .u64 x.f0, .int .u64 x.f1, .int .u64 x.f2, .int .u64 x.f3, .int .u64 x.f4, .string x.f5, .string x.f6, .bool x.f7]
def encR (x : S46) : List Value := [.bool x.f0, .string x.f1, .int .u64 x.f2, .string x.f3]
/-- The rows' cells as the shelf asks for them. -/
theorem rowS {w : World} {A : Option Addr} {zs : List S39} (h : Kd.C k39 w A zs.length zs) (h0 : 0 < zs.length) :
    ∃ b off, A = some ⟨b, off, none⟩ ∧ b < w.heap.size ∧ ∀ j, j < zs.length → ∀ i v, (encS zs[j]!)[i]? = some v → w.cell? ⟨b, off + j * 8 + i, none⟩ = some v := by
  obtain ⟨_, _, h2⟩ := h
  obtain ⟨ad, rfl, hc⟩ := h2 h0
  have hp := List.getElem?_eq_getElem h0
  obtain ⟨c, hl, hK, hcell⟩ := hc 0 _ hp
  obtain rfl := k39_open hK
  have h00 := hcell 0 _ rfl
  have hs := World.cell?_spot h00
  have hb := World.block_lt_of_cell? _ _ h00
  obtain ⟨b, off, sp⟩ := ad
  have hsp : sp = none := by simpa [Addr.add] using hs
  subst hsp
  refine ⟨b, off, rfl, by simpa [Go.Lib.add_plain] using hb, fun j hj i v hv => ?_⟩
  have hpj := List.getElem?_eq_getElem hj
  obtain ⟨c2, hl2, hK2, hcell2⟩ := hc j _ hpj
  obtain rfl := k39_open hK2
  have e : zs[j]! = zs[j] := getElem!_pos zs j hj
  rw [e] at hv
  have := hcell2 i v hv
  rw [Go.Lib.add_plain] at this
  rw [show off + j * 8 + i = off + (j * 8 + i) by omega]
  exact this
theorem rowR {w : World} {A : Option Addr} {zs : List S46} (h : Kd.C k46 w A zs.length zs) (h0 : 0 < zs.length) :
    ∃ b off, A = some ⟨b, off, none⟩ ∧ b < w.heap.size ∧ ∀ j, j < zs.length → ∀ i v, (encR zs[j]!)[i]? = some v → w.cell? ⟨b, off + j * 4 + i, none⟩ = some v := by
  obtain ⟨_, _, h2⟩ := h
  obtain ⟨ad, rfl, hc⟩ := h2 h0
  have hp := List.getElem?_eq_getElem h0
  obtain ⟨c, hl, hK, hcell⟩ := hc 0 _ hp
  obtain rfl := k46_open hK
  have h00 := hcell 0 _ rfl
  have hs := World.cell?_spot h00
  have hb := World.block_lt_of_cell? _ _ h00
  obtain ⟨b, off, sp⟩ := ad
  have hsp : sp = none := by simpa [Addr.add] using hs
  subst hsp
  refine ⟨b, off, rfl, by simpa [Go.Lib.add_plain] using hb, fun j hj i v hv => ?_⟩
  have hpj := List.getElem?_eq_getElem hj
  obtain ⟨c2, hl2, hK2, hcell2⟩ := hc j _ hpj
  obtain rfl := k46_open hK2
  have e : zs[j]! = zs[j] := getElem!_pos zs j hj
  rw [e] at hv
  have := hcell2 i v hv
  rw [Go.Lib.add_plain] at this
  rw [show off + j * 4 + i = off + (j * 4 + i) by omega]
  exact this
theorem C_len {w : World} {A : Option Addr} {zs : List S39} (h : Kd.C k39 w A zs.length zs) : zs.length ≤ 9223372036854775807 := h.2.1
set_option maxHeartbeats 8000000 in
set_option maxRecDepth 100000 in
/-- Does a predicate hold of some span? -/
theorem some_calls (g : Nat) (lb : Array Value) (p : Sp → Bool) (eg : ∀ args w, (callFunc g args).run Tryz.prog w = .ok (.enter g args) w) (B : Nat) (A : Option Addr) (c : Nat) (zs : List Sp) (l : List S39) (hz : zs.map (·.1) = l) (w : World) (h0 : 0 < l.length) (hC : Kd.C k39 w A l.length l)
    (hB : w.cell? ⟨B, 0, none⟩ = some (.slice A l.length c)) (hp : PredBelow Tryz.prog g lb (fun x : Sp => .agg (encS x.1).toArray) p w) :
    Calls Tryz.prog 43 #[.func (.func g) #[] lb, .pointer (some ⟨B, 0, none⟩)] w fun e w' => e = .returned (.bool (zs.any p)) ∧ Below w.heap.size w w' := by
  obtain ⟨b, off, rfl, hb, hcells⟩ := rowS hC h0
  have hlen : l.length = zs.length := by rw [← hz, List.length_map]
  have hcl : ∀ j, j < zs.length → ∀ i v, (encS zs[j]!.1)[i]? = some v → w.cell? ⟨b, off + j * 8 + i, none⟩ = some v := fun j hj i v hv => by
    refine hcells j (by omega) i v ?_
    rw [getElem!_pos zs j hj] at hv
    rw [getElem!_pos l j (by omega)]
    subst hz
    rw [List.getElem_map]
    exact hv
  have hk := AnyQ.slices_ContainsFunc Tryz.ctSpan 8 Tryz.isAgg39 Tryz.sizeOf39 (fun x : Sp => encS x.1) (fun _ => rfl) p g lb eg b off l.length c zs w hp (by omega) (C_len hC) hb hcl
  rw [hlen, List.take_length, ← hlen] at hk
  have K := Aside0.mk (show Calls Tryz.prog 44 _ _ _ from hk)
  clear hk hcells hC hp hcl hlen hz
  go_enter Tryz.func43, Tryz.ntmps43
  go_wp2_with (go_at_call 44; refine K.out.mono ?_; rintro e w' ⟨rfl, hb⟩; have HB := Aside0.mk hb; clear hb)
  go_ret
  exact ⟨rfl, HB.out⟩
/-! ### the seven closures -/
theorem pred_fail (w : World) : PredBelow Tryz.prog 45 #[] (fun x : Sp => .agg (encS x.1).toArray) (fun x : Sp => x.1.f7) w := fun W ⟨x, hx⟩ hb => by
  show Calls Tryz.prog 45 #[.agg #[.int .u64 x.f0, .int .u64 x.f1, .int .u64 x.f2, .int .u64 x.f3, .int .u64 x.f4, .string x.f5, .string x.f6, .bool x.f7]] W _
  go_enter Tryz.func45, Tryz.ntmps45
  go_wp2
  go_ret
  exact ⟨rfl, hb.alloc hb.size _⟩
theorem pred_root (w : World) : PredBelow Tryz.prog 46 #[] (fun x : Sp => .agg (encS x.1).toArray) (fun x : Sp => x.1.f2 == 0) w := fun W ⟨x, hx⟩ hb => by
  show Calls Tryz.prog 46 #[.agg #[.int .u64 x.f0, .int .u64 x.f1, .int .u64 x.f2, .int .u64 x.f3, .int .u64 x.f4, .string x.f5, .string x.f6, .bool x.f7]] W _
  go_enter Tryz.func46, Tryz.ntmps46
  go_wp2
  go_ret
  exact ⟨rfl, hb.alloc hb.size _⟩
/-- A rule's box. -/
def RBox (B : Nat) (r : S46) (w : World) : Prop := w.heap[B]? = some (.cells #[.bool r.f0, .string r.f1, .int .u64 r.f2, .string r.f3] 46 (0, 0))
theorem RBox.below {B : Nat} {r : S46} {w w' : World} (h : RBox B r w) (hb : Below w.heap.size w w') : RBox B r w' := blk_below h hb
theorem pred_slow (B : Nat) (r : S46) (w : World) (hB : RBox B r w) : PredBelow Tryz.prog 47 #[.pointer (some ⟨B, 0, none⟩)] (fun x : Sp => .agg (encS x.1).toArray) (fun x : Sp => decide (r.f2 ≤ x.1.f4)) w := fun W ⟨x, hx⟩ hb => by
  show Calls Tryz.prog 47 #[.agg #[.int .u64 x.f0, .int .u64 x.f1, .int .u64 x.f2, .int .u64 x.f3, .int .u64 x.f4, .string x.f5, .string x.f6, .bool x.f7], .pointer (some ⟨B, 0, none⟩)] W _
  have hBW := hB.below hb
  have hc : (W.alloc (.cells #[.int .u64 x.f0, .int .u64 x.f1, .int .u64 x.f2, .int .u64 x.f3, .int .u64 x.f4, .string x.f5, .string x.f6, .bool x.f7] 39)).cell? ⟨B, 2, none⟩ = some (.int .u64 r.f2) := (blk_cell (blk_alloc hBW _) 2).trans rfl
  have HB := Aside0.mk hb
  clear hb hBW hB
  go_enter Tryz.func47, Tryz.ntmps47
  go_wp2
  go_ret
  exact ⟨rfl, HB.out.alloc HB.out.size _⟩
theorem pred_service (B : Nat) (r : S46) (w : World) (hB : RBox B r w) : PredBelow Tryz.prog 48 #[.pointer (some ⟨B, 0, none⟩)] (fun x : Sp => .agg (encS x.1).toArray) (fun x : Sp => x.1.f5.toList == r.f3.toList) w := fun W ⟨x, hx⟩ hb => by
  show Calls Tryz.prog 48 #[.agg #[.int .u64 x.f0, .int .u64 x.f1, .int .u64 x.f2, .int .u64 x.f3, .int .u64 x.f4, .string x.f5, .string x.f6, .bool x.f7], .pointer (some ⟨B, 0, none⟩)] W _
  have hBW := hB.below hb
  have hc : (W.alloc (.cells #[.int .u64 x.f0, .int .u64 x.f1, .int .u64 x.f2, .int .u64 x.f3, .int .u64 x.f4, .string x.f5, .string x.f6, .bool x.f7] 39)).cell? ⟨B, 3, none⟩ = some (.string r.f3) := (blk_cell (blk_alloc hBW _) 3).trans rfl
  have HB := Aside0.mk hb
  clear hb hBW hB
  go_enter Tryz.func48, Tryz.ntmps48
  go_wp2
  go_ret
  exact ⟨rfl, HB.out.alloc HB.out.size _⟩
/-- A mix is a number of 64 bits. -/
def mixI (n : Int) : Int := (policy_Mix.f n).getD 0
theorem mix_some (n : Int) : policy_Mix.f n = some (mixI n) := rfl
theorem bits_range (o : BinOp) (a b : Int) : 0 ≤ Go.bits o .u64 a b ∧ Go.bits o .u64 a b < 18446744073709551616 := by
  unfold Go.bits
  rw [IntKind.wrap_u64]
  omega
theorem mix_range (n : Int) : 0 ≤ mixI n ∧ mixI n < 18446744073709551616 := by
  unfold mixI policy_Mix.f
  rw [Option.getD_some]
  exact bits_range _ _ _
set_option maxHeartbeats 4000000 in
theorem pred_hash (B : Nat) (r : S46) (w : World) (hB : RBox B r w) : PredBelow Tryz.prog 51 #[.pointer (some ⟨B, 0, none⟩)] (fun x : Sp => .agg (encS x.1).toArray) (fun x : Sp => decide (mixI x.1.f0 % 1000 < r.f2)) w := fun W ⟨x, hx⟩ hb => by
  show Calls Tryz.prog 51 #[.agg #[.int .u64 x.f0, .int .u64 x.f1, .int .u64 x.f2, .int .u64 x.f3, .int .u64 x.f4, .string x.f5, .string x.f6, .bool x.f7], .pointer (some ⟨B, 0, none⟩)] W _
  have hBW := hB.below hb
  have BX := Aside0.mk (blk_alloc hBW (.cells #[.int .u64 x.f0, .int .u64 x.f1, .int .u64 x.f2, .int .u64 x.f3, .int .u64 x.f4, .string x.f5, .string x.f6, .bool x.f7] 39))
  have HB := Aside0.mk (hb.alloc hb.size (.cells #[.int .u64 x.f0, .int .u64 x.f1, .int .u64 x.f2, .int .u64 x.f3, .int .u64 x.f4, .string x.f5, .string x.f6, .bool x.f7] 39))
  have hc : (W.alloc (.cells #[.int .u64 x.f0, .int .u64 x.f1, .int .u64 x.f2, .int .u64 x.f3, .int .u64 x.f4, .string x.f5, .string x.f6, .bool x.f7] 39)).cell? ⟨B, 2, none⟩ = some (.int .u64 r.f2) := (blk_cell BX.out 2).trans rfl
  have hm0 := (mix_range x.f0).1
  have hm1 := (mix_range x.f0).2
  clear hb hBW hB
  go_enter Tryz.func51, Tryz.ntmps51
  go_wp2_with fail
  go_quiet ((go_at_call 13; exact Calls.quiet_of ((policy_Mix.calls x.f0 (mixI x.f0) _ (mix_some x.f0)).mono fun e w' h => ⟨h.1, h.2.out⟩)))
  go_wp2
  go_ret
  exact ⟨rfl, pw_below_drewN HB.out _⟩
/-- What Match tells: a premise of what follows. -/
def MatchTells (L : World → Prop) (MB : ByteArray → ByteArray → Bool) : Prop := ∀ (p n : ByteArray) (W : World), p.size ≤ 1000 → n.size ≤ 1000 → L W → Calls Tryz.prog 50 #[.string p, .string n] W fun e w' => e = .returned (.bool (MB p n)) ∧ Below W.heap.size W w'
set_option maxHeartbeats 4000000 in
theorem pred_name (L : World → Prop) (hL : ∀ W W' : World, L W → Below W.heap.size W W' → L W') (MB : ByteArray → ByteArray → Bool) (hM : MatchTells L MB) (B : Nat) (r : S46) (h3 : r.f3.size ≤ 1000) (w : World) (hw : L w) (hB : RBox B r w) : PredBelow Tryz.prog 49 #[.pointer (some ⟨B, 0, none⟩)] (fun x : Sp => .agg (encS x.1).toArray) (fun x : Sp => MB r.f3 x.1.f6) w := fun W ⟨x, hx⟩ hb => by
  show Calls Tryz.prog 49 #[.agg #[.int .u64 x.f0, .int .u64 x.f1, .int .u64 x.f2, .int .u64 x.f3, .int .u64 x.f4, .string x.f5, .string x.f6, .bool x.f7], .pointer (some ⟨B, 0, none⟩)] W _
  have hBW := hB.below hb
  have HLW := Aside0.mk (hL _ _ (hL _ _ hw hb) (below_alloc (Below.refl W.heap.size W) (.cells #[.int .u64 x.f0, .int .u64 x.f1, .int .u64 x.f2, .int .u64 x.f3, .int .u64 x.f4, .string x.f5, .string x.f6, .bool x.f7] 39)))
  have HB := Aside0.mk (hb.alloc hb.size (.cells #[.int .u64 x.f0, .int .u64 x.f1, .int .u64 x.f2, .int .u64 x.f3, .int .u64 x.f4, .string x.f5, .string x.f6, .bool x.f7] 39))
  have hc : (W.alloc (.cells #[.int .u64 x.f0, .int .u64 x.f1, .int .u64 x.f2, .int .u64 x.f3, .int .u64 x.f4, .string x.f5, .string x.f6, .bool x.f7] 39)).cell? ⟨B, 3, none⟩ = some (.string r.f3) := (blk_cell (blk_alloc hBW _) 3).trans rfl
  have HM := Aside0.mk hM
  have hsz : w.heap.size ≤ (W.alloc (.cells #[.int .u64 x.f0, .int .u64 x.f1, .int .u64 x.f2, .int .u64 x.f3, .int .u64 x.f4, .string x.f5, .string x.f6, .bool x.f7] 39)).heap.size := by
    have := hb.size
    simp
    omega
  have HSZ := Aside0.mk hsz
  clear hb hBW hB hL hM hw hsz
  go_enter Tryz.func49, Tryz.ntmps49
  go_wp2_with fail
  refine (HM.out r.f3 x.f6 _ h3 hx HLW.out).mono ?_
  rintro e w2 ⟨rfl, hb2⟩
  have HB2 := Aside0.mk (HB.out.trans (hb2.mono HSZ.out))
  clear hb2 hc
  go_wp2
  go_ret
  exact ⟨rfl, HB2.out⟩
theorem right_named {what : ByteArray} {num : Int} {text : ByteArray} (hn : what.toList = [110, 97, 109, 101]) (h : rightB what num text = true) : text.size ≤ 32 := by
  have hf : policy_form.f 1 what = some (3, 0, 0) := by
    simp only [policy_form.f, policy_form.j0, hn]
    rfl
  unfold rightB at h
  rw [hf] at h
  simp only [if_true, Bool.and_eq_true, decide_eq_true_eq] at h
  have h2 := h.1.2
  unfold span_Name.f at h2
  by_cases hc : text.toList = [] ∨ 32 < text.size
  · rw [if_pos hc] at h2
    cases h2
  · omega
/-- Does a rule hold of one span? -/
def oneB (MB : ByteArray → ByteArray → Bool) (r : S46) (x : S39) : Bool :=
  if r.f1.toList = [102, 97, 105, 108] then x.f7
  else if r.f1.toList = [114, 111, 111, 116] then x.f2 == 0
  else if r.f1.toList = [115, 108, 111, 119] then decide (r.f2 ≤ x.f4)
  else if r.f1.toList = [115, 101, 114, 118, 105, 99, 101] then x.f5.toList == r.f3.toList
  else if r.f1.toList = [110, 97, 109, 101] then MB r.f3 x.f6
  else if r.f1.toList = [104, 97, 115, 104] then decide (mixI x.f0 % 1000 < r.f2)
  else true
/-- Does a rule hold of spans? -/
def holdsB (MB : ByteArray → ByteArray → Bool) (r : S46) (l : List S39) : Bool :=
  if rightB r.f1 r.f2 r.f3 = true then
    if l.length = 0 then false
    else if r.f1.toList = [109, 97, 110, 121] then decide (r.f2 ≤ l.length)
    else l.any (oneB MB r)
  else false
set_option maxHeartbeats 16000000 in
set_option maxRecDepth 100000 in
theorem holds_calls (L : World → Prop) (hL : ∀ W W' : World, L W → Below W.heap.size W W' → L W') (MB : ByteArray → ByteArray → Bool) (hM : MatchTells L MB) (r : S46) (A : Option Addr) (c : Nat) (l : List S39) (hsm : ∀ x ∈ l, x.f6.size ≤ 1000) (w : World) (hw : L w) (hC : Kd.C k39 w A l.length l) :
    Calls Tryz.prog 27 #[.agg #[.bool r.f0, .string r.f1, .int .u64 r.f2, .string r.f3], .slice A l.length c] w fun e w' => e = .returned (.bool (holdsB MB r l)) ∧ Below w.heap.size w w' := by
  obtain ⟨a, ha⟩ : ∃ a, holdsB MB r l = a := ⟨_, rfl⟩
  rw [ha]
  unfold holdsB at ha
  obtain ⟨zs, hzs⟩ : ∃ zs : List Sp, zs.map (·.1) = l := ⟨l.attach.map (fun x => ⟨x.1, hsm x.1 x.2⟩), by simp⟩
  have HZ := Aside0.mk hzs
  clear hzs hsm
  have HA := Aside0.mk ha
  have HL := Aside0.mk hL
  have HM := Aside0.mk hM
  have HW := Aside0.mk hw
  have HC := Aside0.mk hC
  clear ha hL hM hw hC
  go_enter Tryz.func27, Tryz.ntmps27
  go_wp2_with fail
  refine (right_calls r.f0 r.f1 r.f2 r.f3 _).mono ?_
  rintro e w1 ⟨rfl, hb⟩
  have BR := Aside0.mk (show RBox w.heap.size r w1 from blk_below (blk_alloc (heap_alloc_new w _) _) hb)
  have BS := Aside0.mk (show w1.heap[w.heap.size + 1]? = some (.cells #[.slice A l.length c] 34 (0, 0)) from blk_below (by have := heap_alloc_new (w.alloc (.cells #[.bool r.f0, .string r.f1, .int .u64 r.f2, .string r.f3] 46)) (.cells #[.slice A l.length c] 34); rw [World.size_alloc] at this; exact this) hb)
  have hb1 : Below w.heap.size w w1 := below_step (below_alloc (below_alloc (Below.refl _ _) _) _) hb
  have HB1 := Aside0.mk hb1
  have HW1 := Aside0.mk (HL.out _ _ HW.out hb1)
  have HC1 := Aside0.mk (Kd.C_below HC.out hb1)
  clear hb hb1
  have hcr_1 : w1.cell? ⟨w.heap.size, 1, none⟩ = some (.string r.f1) := (blk_cell BR.out 1).trans rfl
  have hcr_2 : w1.cell? ⟨w.heap.size, 2, none⟩ = some (.int .u64 r.f2) := (blk_cell BR.out 2).trans rfl
  have hcs : w1.cell? ⟨w.heap.size + 1, 0, none⟩ = some (.slice A l.length c) := (blk_cell BS.out 0).trans rfl
  by_cases hr : rightB r.f1 r.f2 r.f3 = true
  · rw [hr]
    have ha := HA.out
    rw [if_pos hr] at ha
    by_cases h0 : l.length = 0
    · have h0b : ((l.length : Int) == 0) = true := by simp [h0]
      rw [if_pos h0] at ha
      subst ha
      go_wp2
      go_ret
      exact ⟨rfl, HB1.out⟩
    · have h0b : ((l.length : Int) == 0) = false := by simpa using h0
      rw [if_neg h0] at ha
      have HPOS := Aside0.mk (show 0 < l.length by omega)
      by_cases c_fail : r.f1.toList = ([102, 97, 105, 108] : List UInt8)
      · have b_fail : (r.f1.toList == ([102, 97, 105, 108] : List UInt8)) = true := by rw [c_fail]; rfl
        rw [if_neg (show ¬ r.f1.toList = ([109, 97, 110, 121] : List UInt8) by rw [c_fail]; decide), show oneB MB r = (fun x => x.f7) from funext fun x => by unfold oneB; rw [if_pos c_fail], ← HZ.out, List.any_map] at ha
        have hk := some_calls 45 #[] (fun x : Sp => x.1.f7) (enters_of Tryz.func45 (by kernel_rfl) rfl) (w.heap.size + 1) A c zs l HZ.out w1 HPOS.out HC1.out hcs (pred_fail _)
        rw [show zs.any (fun x : Sp => x.1.f7) = a from ha] at hk
        have HK := Aside0.mk hk
        clear hk c_fail ha
        go_wp2_with fail
        refine HK.out.mono ?_
        rintro e w2 ⟨rfl, hb2⟩
        have HB2 := Aside0.mk (below_step HB1.out hb2)
        clear hb2
        go_wp2
        go_ret
        exact ⟨rfl, HB2.out⟩
      have b_fail : (r.f1.toList == ([102, 97, 105, 108] : List UInt8)) = false := by simpa using c_fail
      by_cases c_root : r.f1.toList = ([114, 111, 111, 116] : List UInt8)
      · have b_root : (r.f1.toList == ([114, 111, 111, 116] : List UInt8)) = true := by rw [c_root]; rfl
        rw [if_neg (show ¬ r.f1.toList = ([109, 97, 110, 121] : List UInt8) by rw [c_root]; decide), show oneB MB r = (fun x => x.f2 == 0) from funext fun x => by unfold oneB; rw [if_neg c_fail, if_pos c_root], ← HZ.out, List.any_map] at ha
        have hk := some_calls 46 #[] (fun x : Sp => x.1.f2 == 0) (enters_of Tryz.func46 (by kernel_rfl) rfl) (w.heap.size + 1) A c zs l HZ.out w1 HPOS.out HC1.out hcs (pred_root _)
        rw [show zs.any (fun x : Sp => x.1.f2 == 0) = a from ha] at hk
        have HK := Aside0.mk hk
        clear hk c_fail c_root ha
        go_wp2_with fail
        refine HK.out.mono ?_
        rintro e w2 ⟨rfl, hb2⟩
        have HB2 := Aside0.mk (below_step HB1.out hb2)
        clear hb2
        go_wp2
        go_ret
        exact ⟨rfl, HB2.out⟩
      have b_root : (r.f1.toList == ([114, 111, 111, 116] : List UInt8)) = false := by simpa using c_root
      by_cases c_slow : r.f1.toList = ([115, 108, 111, 119] : List UInt8)
      · have b_slow : (r.f1.toList == ([115, 108, 111, 119] : List UInt8)) = true := by rw [c_slow]; rfl
        rw [if_neg (show ¬ r.f1.toList = ([109, 97, 110, 121] : List UInt8) by rw [c_slow]; decide), show oneB MB r = (fun x => decide (r.f2 ≤ x.f4)) from funext fun x => by unfold oneB; rw [if_neg c_fail, if_neg c_root, if_pos c_slow], ← HZ.out, List.any_map] at ha
        have hk := some_calls 47 #[.pointer (some ⟨w.heap.size, 0, none⟩)] (fun x : Sp => decide (r.f2 ≤ x.1.f4)) (enters_of Tryz.func47 (by kernel_rfl) rfl) (w.heap.size + 1) A c zs l HZ.out w1 HPOS.out HC1.out hcs (pred_slow _ r _ BR.out)
        rw [show zs.any (fun x : Sp => decide (r.f2 ≤ x.1.f4)) = a from ha] at hk
        have HK := Aside0.mk hk
        clear hk c_fail c_root c_slow ha
        go_wp2_with fail
        refine HK.out.mono ?_
        rintro e w2 ⟨rfl, hb2⟩
        have HB2 := Aside0.mk (below_step HB1.out hb2)
        clear hb2
        go_wp2
        go_ret
        exact ⟨rfl, HB2.out⟩
      have b_slow : (r.f1.toList == ([115, 108, 111, 119] : List UInt8)) = false := by simpa using c_slow
      by_cases c_service : r.f1.toList = ([115, 101, 114, 118, 105, 99, 101] : List UInt8)
      · have b_service : (r.f1.toList == ([115, 101, 114, 118, 105, 99, 101] : List UInt8)) = true := by rw [c_service]; rfl
        rw [if_neg (show ¬ r.f1.toList = ([109, 97, 110, 121] : List UInt8) by rw [c_service]; decide), show oneB MB r = (fun x => x.f5.toList == r.f3.toList) from funext fun x => by unfold oneB; rw [if_neg c_fail, if_neg c_root, if_neg c_slow, if_pos c_service], ← HZ.out, List.any_map] at ha
        have hk := some_calls 48 #[.pointer (some ⟨w.heap.size, 0, none⟩)] (fun x : Sp => x.1.f5.toList == r.f3.toList) (enters_of Tryz.func48 (by kernel_rfl) rfl) (w.heap.size + 1) A c zs l HZ.out w1 HPOS.out HC1.out hcs (pred_service _ r _ BR.out)
        rw [show zs.any (fun x : Sp => x.1.f5.toList == r.f3.toList) = a from ha] at hk
        have HK := Aside0.mk hk
        clear hk c_fail c_root c_slow c_service ha
        go_wp2_with fail
        refine HK.out.mono ?_
        rintro e w2 ⟨rfl, hb2⟩
        have HB2 := Aside0.mk (below_step HB1.out hb2)
        clear hb2
        go_wp2
        go_ret
        exact ⟨rfl, HB2.out⟩
      have b_service : (r.f1.toList == ([115, 101, 114, 118, 105, 99, 101] : List UInt8)) = false := by simpa using c_service
      by_cases c_name : r.f1.toList = ([110, 97, 109, 101] : List UInt8)
      · have b_name : (r.f1.toList == ([110, 97, 109, 101] : List UInt8)) = true := by rw [c_name]; rfl
        rw [if_neg (show ¬ r.f1.toList = ([109, 97, 110, 121] : List UInt8) by rw [c_name]; decide), show oneB MB r = (fun x => MB r.f3 x.f6) from funext fun x => by unfold oneB; rw [if_neg c_fail, if_neg c_root, if_neg c_slow, if_neg c_service, if_pos c_name], ← HZ.out, List.any_map] at ha
        have h3s : r.f3.size ≤ 1000 := by have := right_named c_name hr; omega
        have hk := some_calls 49 #[.pointer (some ⟨w.heap.size, 0, none⟩)] (fun x : Sp => MB r.f3 x.1.f6) (enters_of Tryz.func49 (by kernel_rfl) rfl) (w.heap.size + 1) A c zs l HZ.out w1 HPOS.out HC1.out hcs (pred_name L HL.out MB HM.out _ r h3s _ HW1.out BR.out)
        rw [show zs.any (fun x : Sp => MB r.f3 x.1.f6) = a from ha] at hk
        have HK := Aside0.mk hk
        clear hk c_fail c_root c_slow c_service c_name ha
        go_wp2_with fail
        refine HK.out.mono ?_
        rintro e w2 ⟨rfl, hb2⟩
        have HB2 := Aside0.mk (below_step HB1.out hb2)
        clear hb2
        go_wp2
        go_ret
        exact ⟨rfl, HB2.out⟩
      have b_name : (r.f1.toList == ([110, 97, 109, 101] : List UInt8)) = false := by simpa using c_name
      by_cases c_many : r.f1.toList = ([109, 97, 110, 121] : List UInt8)
      · have b_many : (r.f1.toList == ([109, 97, 110, 121] : List UInt8)) = true := by rw [c_many]; rfl
        rw [if_pos c_many] at ha
        have HAA := Aside0.mk ha
        have hln : (l.length : Int) ≤ 9223372036854775807 := by have := C_len HC1.out; omega
        clear c_fail c_root c_slow c_service c_name c_many ha
        go_wp2
        go_ret
        exact ⟨by rw [← HAA.out]; rfl, HB1.out⟩
      have b_many : (r.f1.toList == ([109, 97, 110, 121] : List UInt8)) = false := by simpa using c_many
      by_cases c_hash : r.f1.toList = ([104, 97, 115, 104] : List UInt8)
      · have b_hash : (r.f1.toList == ([104, 97, 115, 104] : List UInt8)) = true := by rw [c_hash]; rfl
        rw [if_neg (show ¬ r.f1.toList = ([109, 97, 110, 121] : List UInt8) by rw [c_hash]; decide), show oneB MB r = (fun x => decide (mixI x.f0 % 1000 < r.f2)) from funext fun x => by unfold oneB; rw [if_neg c_fail, if_neg c_root, if_neg c_slow, if_neg c_service, if_neg c_name, if_pos c_hash], ← HZ.out, List.any_map] at ha
        have hk := some_calls 51 #[.pointer (some ⟨w.heap.size, 0, none⟩)] (fun x : Sp => decide (mixI x.1.f0 % 1000 < r.f2)) (enters_of Tryz.func51 (by kernel_rfl) rfl) (w.heap.size + 1) A c zs l HZ.out w1 HPOS.out HC1.out hcs (pred_hash _ r _ BR.out)
        rw [show zs.any (fun x : Sp => decide (mixI x.1.f0 % 1000 < r.f2)) = a from ha] at hk
        have HK := Aside0.mk hk
        clear hk c_fail c_root c_slow c_service c_name c_many c_hash ha
        go_wp2_with fail
        refine HK.out.mono ?_
        rintro e w2 ⟨rfl, hb2⟩
        have HB2 := Aside0.mk (below_step HB1.out hb2)
        clear hb2
        go_wp2
        go_ret
        exact ⟨rfl, HB2.out⟩
      have b_hash : (r.f1.toList == ([104, 97, 115, 104] : List UInt8)) = false := by simpa using c_hash
      rw [if_neg c_many, show oneB MB r = (fun _ => true) from funext fun x => by unfold oneB; rw [if_neg c_fail, if_neg c_root, if_neg c_slow, if_neg c_service, if_neg c_name, if_neg c_hash]] at ha
      have hany : l.any (fun _ => true) = true := by cases l with | nil => exact absurd rfl h0 | cons x t => rfl
      have HAA := Aside0.mk (hany.symm.trans ha)
      clear c_fail c_root c_slow c_service c_name c_many c_hash ha hany
      go_wp2
      go_ret
      exact ⟨by rw [← HAA.out]; rfl, HB1.out⟩
  · have hrf : rightB r.f1 r.f2 r.f3 = false := by simpa using hr
    rw [hrf]
    have ha := HA.out
    rw [if_neg hr] at ha
    subst ha
    go_wp2
    go_ret
    exact ⟨rfl, HB1.out⟩
end Go.Proofs.YtemepnpfhoidhaaGreatDoor.PAll
