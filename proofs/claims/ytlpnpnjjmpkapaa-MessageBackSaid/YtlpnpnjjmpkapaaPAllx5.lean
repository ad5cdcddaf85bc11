import Derived.Test.YtlpnpnjjmpkapaaPAllx0
import Derived.Test.YtlpnpnjjmpkapaaPAllx4
namespace Go.Proofs.Ytlpnpnjjmpkapaa.PAll
open Go.RowKit Go.Proofs.YtlpnpnjjmpkapaaW.PrintWords Go.Proofs.YtlpnpnjjmpkapaaW.PrintLast Go.Proofs.YtlpnpnjjmpkapaaW.PrintMore
attribute [local go_sem] max2_int min2_int max_two min_two max_three min_three max_four min_four   -- for this text's walks alone
set_option linter.unusedVariables false
set_option linter.unusedSimpArgs false

/-- span.Name: is the rune at a place one that no name has? -/
def span_Name.bad (s : ByteArray) (pos : Nat) : Bool :=
 decide ((Utf8.decode s pos).1 < 32) || (decide (127 ≤ (Utf8.decode s pos).1) && decide ((Utf8.decode s pos).1 ≤ 159)) || (decide ((Utf8.decode s pos).1 = 65533) && !(decide (strings_HasPrefix.f (s.extract pos s.size) ⟨#[239, 191, 189]⟩ = some true)))
def span_Name.l (s : ByteArray) : Nat → Nat → Int
 | 0, _ => 0
 | b + 1, pos => if pos < s.size then (if span_Name.bad s pos = true then 5 else span_Name.l s b (pos + (Utf8.decode s pos).2)) else 0
def span_Name.f (a0 : ByteArray) : Option Int := some (if a0.toList = [] ∨ 32 < a0.size then 5 else span_Name.l a0 a0.size 0)
theorem span_Name.width (s : ByteArray) (pos : Nat) (h : pos < s.size) : 1 ≤ (Utf8.decode s pos).2 := by
 by_cases ha : (s[pos]'h).toNat < 128
 ·rw [decode_ascii s pos h ha]
  exact Nat.le_refl _
 exact (decode_high s pos h (by omega)).2
theorem span_Name.pre (a b : ByteArray) : ∃ r, strings_HasPrefix.f a b = some r := by
 unfold strings_HasPrefix.f stringslite_HasPrefix.f
 by_cases h : (a.size : Int) ≥ (b.size : Int)
 ·rw [if_pos h, if_pos (by omega), if_pos (by omega)]; exact ⟨_, rfl⟩
 rw [if_neg h]; exact ⟨_, rfl⟩
set_option maxHeartbeats 4000000 in
set_option maxRecDepth 100000 in
theorem span_Name.calls (a0 : ByteArray) (r : Int) (w : World) (h : span_Name.f a0 = some r) :
  Calls Try.prog 103 #[.string a0] w fun e w' => e = .returned (.int .i64 r) ∧ Below w.heap.size w w' := by
 obtain rfl := Option.some.inj h
 clear h
 by_cases c0 : a0.toList = []
 ·rw [if_pos (.inl c0)]
  have hem : a0.toList.isEmpty = true := by simpa using c0
  go_enter Try.func103, Try.ntmps103
  go_wp2
  go_ret
  exact ⟨rfl, Below.refl _ _⟩
 have hem : a0.toList.isEmpty = false := by simpa using c0
 by_cases c1 : 32 < a0.size
 ·rw [if_pos (.inr c1)]
  have c1b : decide (32 < (a0.size : Int)) = true := decide_eq_true (by omega)
  go_enter Try.func103, Try.ntmps103
  go_wp2
  go_ret
  exact ⟨rfl, Below.refl _ _⟩
 rw [if_neg (fun hh => hh.elim c0 c1)]
 have c1b : decide (32 < (a0.size : Int)) = false := decide_eq_false (by omega)
 have c1c : ¬ (32 < (a0.size : Int)) := by omega
 go_enter Try.func103, Try.ntmps103
 go_wp2
 go_loopw [] (fun w' => ∃ (pos b : Nat), w'.heap[w.heap.size]? = some (.stringIter a0 pos) ∧ Below w.heap.size w w' ∧ span_Name.l a0 b pos = span_Name.l a0 a0.size 0 ∧ a0.size ≤ pos + b) (fun w' => a0.size - w'.iterPos w.heap.size)
 case atStart => exact ⟨0, a0.size, World.iter_heap _ _ _, below_alloc (Below.refl _ _) _, rfl, by omega⟩
 case round =>
  obtain ⟨pos, b, hk, hB, hl, hb⟩ := hrel
  by_cases hp : pos < a0.size
  ·have hnx := fun ty => Go.Lib.run_next_any_at (P := Try.prog) wr w.heap.size a0 pos ty hk hp
   have hwd := span_Name.width a0 pos hp
   obtain ⟨b, rfl⟩ : ∃ j, b = j + 1 := ⟨b - 1, by omega⟩
   have h5 : span_Name.bad a0 pos = true → span_Name.l a0 a0.size 0 = 5 := fun g => by rw [← hl]; simp [span_Name.l, hp, g]
   have h0 : span_Name.bad a0 pos = false → span_Name.l a0 b (pos + (Utf8.decode a0 pos).2) = span_Name.l a0 a0.size 0 := fun g => by rw [← hl]; simp [span_Name.l, hp, g]
   have hB2 := Go.Lib.below_iterAt hB (Nat.le_refl _) a0 (pos + (Utf8.decode a0 pos).2); have hk2 := Go.Lib.iterAt_heap wr w.heap.size a0 pos (pos + (Utf8.decode a0 pos).2) hk; have H5 := Aside0.mk h5; have H0 := Aside0.mk h0; have HB2 := Aside0.mk hB2; have HK2 := Aside0.mk hk2; have HWD := Aside0.mk hwd; have HL := Aside0.mk hl; have HB := Aside0.mk hB; have HK := Aside0.mk hk; clear h5 h0 hB2 hk2 hwd hl hB hk
   by_cases d0 : ((Utf8.decode a0 pos).1 : Int) < 32
   ·go_wp2
    go_ret
    have g : (Utf8.decode a0 pos).1 < 32 := by omega
    exact ⟨by rw [H5.out (by simp [span_Name.bad, g])]; rfl, HB2.out⟩
   ·have d0b : decide (((Utf8.decode a0 pos).1 : Int) < 32) = false := decide_eq_false d0
    have g0 : ¬ (Utf8.decode a0 pos).1 < 32 := by omega
    by_cases d1 : (127 : Int) ≤ ((Utf8.decode a0 pos).1 : Int)
    ·have d1b : decide ((127 : Int) ≤ ((Utf8.decode a0 pos).1 : Int)) = true := decide_eq_true d1
     have g1 : 127 ≤ (Utf8.decode a0 pos).1 := by omega
     by_cases d2 : ((Utf8.decode a0 pos).1 : Int) ≤ 159
     ·have d2b : decide (((Utf8.decode a0 pos).1 : Int) ≤ 159) = true := decide_eq_true d2
      have g2 : (Utf8.decode a0 pos).1 ≤ 159 := by omega
      go_wp2
      go_ret
      exact ⟨by rw [H5.out (by simp [span_Name.bad, g1, g2])]; rfl, HB2.out⟩
     ·have d2b : decide (((Utf8.decode a0 pos).1 : Int) ≤ 159) = false := decide_eq_false d2
      have g2 : ¬ (Utf8.decode a0 pos).1 ≤ 159 := by omega
      by_cases d3 : ((Utf8.decode a0 pos).1 : Int) = 65533
      ·have d3b : decide (((Utf8.decode a0 pos).1 : Int) = 65533) = true := decide_eq_true d3
       obtain ⟨t, ht⟩ := span_Name.pre (a0.extract pos a0.size) ⟨#[239, 191, 189]⟩
       have HT := Aside0.mk ht; clear ht
       cases t with
       | false =>
        go_wp2_with (go_at_call 109; refine (strings_HasPrefix.calls _ _ false _ HT.out).mono ?_; rintro e w1 ⟨rfl, hD⟩; have HD := Aside0.mk hD; clear hD)
        go_ret
        have g3 : (Utf8.decode a0 pos).1 = 65533 := by omega
        exact ⟨by rw [H5.out (by simp [span_Name.bad, g3, HT.out])]; rfl, below_step HB2.out (Drawn0.below HD.out)⟩
       | true =>
        go_wp2_with (go_at_call 109; refine (strings_HasPrefix.calls _ _ true _ HT.out).mono ?_; rintro e w1 ⟨rfl, hD⟩; have HD := Aside0.mk hD; clear hD)
        go_roundw
        case rel => exact ⟨_, b, blk_below HK2.out (Drawn0.below HD.out), below_step HB2.out (Drawn0.below HD.out), H0.out (by simp [span_Name.bad, g0, g2, HT.out]), by have := HWD.out; omega⟩
        case measure =>
         have := HWD.out
         have e2 : w1.heap[w.heap.size]? = some (.stringIter a0 (pos + (Utf8.decode a0 pos).2)) := blk_below HK2.out (Drawn0.below HD.out)
         simp only [World.iterPos, e2, HK.out]
         omega
      ·have d3b : decide (((Utf8.decode a0 pos).1 : Int) = 65533) = false := decide_eq_false d3
       have g3 : ¬ (Utf8.decode a0 pos).1 = 65533 := by omega
       go_wp2
       go_roundw
       case rel => exact ⟨_, b, HK2.out, HB2.out, H0.out (by simp [span_Name.bad, g0, g2, g3]), by have := HWD.out; omega⟩
       case measure =>
        have := HWD.out
        simp only [World.iterPos, HK2.out, HK.out]
        omega
    ·have d1b : decide ((127 : Int) ≤ ((Utf8.decode a0 pos).1 : Int)) = false := decide_eq_false d1
     have g1 : ¬ 127 ≤ (Utf8.decode a0 pos).1 := by omega
     have d3b : decide (((Utf8.decode a0 pos).1 : Int) = 65533) = false := decide_eq_false (by omega)
     have d3 : ¬ ((Utf8.decode a0 pos).1 : Int) = 65533 := by omega
     have g3 : ¬ (Utf8.decode a0 pos).1 = 65533 := by omega
     go_wp2
     go_roundw
     case rel => exact ⟨_, b, HK2.out, HB2.out, H0.out (by simp [span_Name.bad, g0, g1, g3]), by have := HWD.out; omega⟩
     case measure =>
      have := HWD.out
      simp only [World.iterPos, HK2.out, HK.out]
      omega
  ·have hnx := fun ty => Go.Lib.run_next_end_at (P := Try.prog) wr w.heap.size a0 pos ty hk hp
   have he : span_Name.l a0 a0.size 0 = 0 := by
    rw [← hl]
    cases b with
    | zero => rfl
    | succ b => simp [span_Name.l, hp]
   go_wp2
   go_ret
   exact ⟨by rw [he]; rfl, hB⟩


def span_Right.j0 : Nat → Bool → Int → Int → Int → Int → Int → ByteArray → ByteArray → Bool → Option (Int)
 | 0, _, _, _, _, _, _, _, _, _ => none
 | k + 1, x18, x107000, x107001, x107002, x107003, x107004, x107005, x107006, x107007 => if x18 = true then (some 1) else ((span_Name.f x107005).bind fun t107 => ((span_Name.f x107006).bind fun t108 => ((api_Kind.f k (([t107, t108] : List Int))).bind fun t112 => (some t112))))
def span_Right.f (k : Nat) (a0_0 : Int) (a0_1 : Int) (a0_2 : Int) (a0_3 : Int) (a0_4 : Int) (a0_5 : ByteArray) (a0_6 : ByteArray) (a0_7 : Bool) : Option (Int) := if a0_0 = 0 then (span_Right.j0 k true a0_0 a0_1 a0_2 a0_3 a0_4 a0_5 a0_6 a0_7) else (if a0_1 = 0 then (span_Right.j0 k true a0_0 a0_1 a0_2 a0_3 a0_4 a0_5 a0_6 a0_7) else (span_Right.j0 k (decide ((mx a0_3 a0_4) > 1099511627776)) a0_0 a0_1 a0_2 a0_3 a0_4 a0_5 a0_6 a0_7))
def span_Right.T3 : Bool × List (List Nat × List Nat) := (true, [([], []), ([0], [0]), ([1], [1]), ([], []), ([3], [3]), ([4, 2], [4]), ([2, 5], [2, 5]), ([6, 5], [6]), ([7, 7, 0, 1, 2, 3, 4, 5, 6, 7], [7])])
def span_Right.B3 : List Nat := [0, 1, 3, 0, 8, 31, 63, 127, 255]
theorem span_Right.tab3 : rtab .any (opsOf Try.f94 3) = span_Right.T3 := by kernel_rfl
theorem span_Right.bits3 : waitsOk span_Right.T3.2 span_Right.B3 = true := by kernel_rfl
set_option maxHeartbeats 40000000 in
set_option maxRecDepth 100000 in
theorem span_Right.calls (k : Nat) (a0_0 : Int) (a0_1 : Int) (a0_2 : Int) (a0_3 : Int) (a0_4 : Int) (a0_5 : ByteArray) (a0_6 : ByteArray) (a0_7 : Bool) (r : Int) (w : World) (h : span_Right.f k a0_0 a0_1 a0_2 a0_3 a0_4 a0_5 a0_6 a0_7 = some r) :
  Calls Try.prog 94 #[.agg #[.int .u64 a0_0, .int .u64 a0_1, .int .u64 a0_2, .int .u64 a0_3, .int .u64 a0_4, .string a0_5, .string a0_6, .bool a0_7]] w fun e w' => e = .returned (.int .i64 r) ∧ Below w.heap.size w w' := by
 have hu76 := Try.underlying76; have HB := Aside0.mk (Below.refl w.heap.size w); have H : (if a0_0 = 0 then (span_Right.j0 k true a0_0 a0_1 a0_2 a0_3 a0_4 a0_5 a0_6 a0_7) else (if a0_1 = 0 then (span_Right.j0 k true a0_0 a0_1 a0_2 a0_3 a0_4 a0_5 a0_6 a0_7) else (span_Right.j0 k (decide ((mx a0_3 a0_4) > 1099511627776)) a0_0 a0_1 a0_2 a0_3 a0_4 a0_5 a0_6 a0_7))) = some r := h; clear h; have HC2 := Aside0.mk H; clear H
 go_enter Try.func94, Try.ntmps94
 go_upto_region 1 with ((with_reducible refine gate_dst (N := 1) rfl ?_); (try (refine gate_guard (by rfl) ?_; dsimp only)); refine box_event ?hg (N := 1) ?hd (cs := #[.int .u64 a0_0, .int .u64 a0_1, .int .u64 a0_2, .int .u64 a0_3, .int .u64 a0_4, .string a0_5, .string a0_6, .bool a0_7]) (t := 76) ?hr ?_; (case hd => rfl); (case hg => rfl); (case hr => (go_simp; done)); intro gb106 hg w3 hbox hb; have n0_ := Aside0.mk (below_step (by repeat (with_reducible (exact HB.out))) hb); have n1_ := Aside0.mk (hbox); have n2_ := Aside0.mk ((by rw [hg]; exact (below_size (by repeat (with_reducible (exact HB.out)))) : w.heap.size ≤ gb106)); have n3_ := n2_; clear HB; have HB := n0_; have BK106 := n1_; have GW106 := n2_; have GE106 := n3_; clear n0_ n1_ n2_ n3_; clear hb hbox hg)
 go_cut [18] (fun v18 wc => ∃ (kq : Nat) (x18_1 : Bool), v18 = .bool x18_1 ∧ Aside0 (span_Right.j0 kq x18_1 a0_0 a0_1 a0_2 a0_3 a0_4 a0_5 a0_6 a0_7 = some r) ∧ Aside0 (kq ≤ k) ∧ Aside0 (wc.heap[gb106]? = some (.cells #[.int .u64 a0_0, .int .u64 a0_1, .int .u64 a0_2, .int .u64 a0_3, .int .u64 a0_4, .string a0_5, .string a0_6, .bool a0_7] 76 (0, 0))) ∧ Aside0 (Below w.heap.size w wc))
 case first =>
  have H := HC2.out; clear HC2
  by_cases c4 : a0_0 = 0
  ·rw [if_pos c4] at H
   obtain ⟨c4b0, c4b1⟩ := Hand.Cz.eqT c4; clear c4
   (skip)
   have H' := Aside0.mk H
   clear H
   obtain ⟨z5_0, z5_1, z5_2, z5_3, z5_4, z5_5, z5_6, z5_7⟩ := Hand.Cz.c8 BK106.out
   obtain ⟨y5_0, y5_1, y5_2, y5_3, y5_4, y5_5, y5_6, y5_7⟩ := Hand.Cz.f8 BK106.out
   go_wp2
   go_meet
   case rel => exact ⟨_, (true), (by (rfl)), H', ⟨by (omega)⟩, ⟨by (with_reducible skip); exact BK106.out⟩, ⟨by repeat (with_reducible (exact HB.out))⟩⟩
  ·rw [if_neg c4] at H
   obtain ⟨c4b0, c4b1⟩ := Hand.Cz.eqF c4
   (skip)
   by_cases c6 : a0_1 = 0
   ·rw [if_pos c6] at H
    obtain ⟨c6b0, c6b1⟩ := Hand.Cz.eqT c6; clear c6
    have H' := Aside0.mk H
    clear H
    obtain ⟨z7_0, z7_1, z7_2, z7_3, z7_4, z7_5, z7_6, z7_7⟩ := Hand.Cz.c8 BK106.out
    obtain ⟨y7_0, y7_1, y7_2, y7_3, y7_4, y7_5, y7_6, y7_7⟩ := Hand.Cz.f8 BK106.out
    go_wp2
    go_meet
    case rel => exact ⟨_, (true), (by (rfl)), H', ⟨by (omega)⟩, ⟨by (with_reducible skip); exact BK106.out⟩, ⟨by repeat (with_reducible (exact HB.out))⟩⟩
   ·rw [if_neg c6] at H
    obtain ⟨c6b0, c6b1⟩ := Hand.Cz.eqF c6
    obtain ⟨ji8, hji8⟩ : ∃ j_ : Int, (mx a0_3 a0_4) = j_ := ⟨_, rfl⟩
    replace H : (span_Right.j0 k (decide ((ji8) > 1099511627776)) a0_0 a0_1 a0_2 a0_3 a0_4 a0_5 a0_6 a0_7) = some r := by (rw [hji8] at H; exact H)
    have hji8_ : (if a0_3 < a0_4 then a0_4 else a0_3) = ji8 := hji8
    have H' := Aside0.mk H
    clear H
    obtain ⟨z9_0, z9_1, z9_2, z9_3, z9_4, z9_5, z9_6, z9_7⟩ := Hand.Cz.c8 BK106.out
    obtain ⟨y9_0, y9_1, y9_2, y9_3, y9_4, y9_5, y9_6, y9_7⟩ := Hand.Cz.f8 BK106.out
    go_wp2
    go_meet
    case rel => exact ⟨_, (decide ((ji8) > 1099511627776)), (by (rfl)), H', ⟨by (omega)⟩, ⟨by (with_reducible skip); exact BK106.out⟩, ⟨by repeat (with_reducible (exact HB.out))⟩⟩
 case rest =>
  clear HC2
  obtain ⟨kq, x18_1, rfl, HA, HJ1, BK106, HB⟩ := hcut
  cases kq with
  | zero => exact absurd HA.out (by simp [span_Right.j0])
  | succ kj1 =>
   have H := HA.out; clear HA
   simp only [span_Right.j0] at H
   by_cases c10 : x18_1 = true
   ·subst c10
    rw [if_pos rfl] at H
    obtain rfl := Option.some.inj H
    go_wp2
    go_ret
    exact ⟨by (rfl), by repeat (with_reducible (exact HB.out))⟩
   ·replace c10 := Bool.eq_false_iff.mpr c10
    subst c10
    rw [if_neg (show ¬ (false = true) by decide)] at H
    replace H := Option.bind_eq_some_iff.mp H
    obtain ⟨t107, A110, H⟩ := H
    (try dsimp only at H)
    have A11 := Aside0.mk A110; clear A110
    replace H := Option.bind_eq_some_iff.mp H
    obtain ⟨t108, A120, H⟩ := H
    (try dsimp only at H)
    have A12 := Aside0.mk A120; clear A120
    obtain ⟨y109, hy109⟩ : ∃ y_ : List Int, y_ = (([t107, t108] : List Int)) := ⟨_, rfl⟩
    replace H : ((api_Kind.f kj1 y109).bind fun t112 => (some t112)) = some r := by (rw [hy109]; with_reducible exact H)
    have Ny109 := Aside0.mk hy109; clear hy109
    replace H := Option.bind_eq_some_iff.mp H
    obtain ⟨t112, A130, H⟩ := H
    replace H : (some t112) = some r := H
    have A13 := Aside0.mk A130; clear A130
    obtain rfl := Option.some.inj H
    try go_wp2
    have n0_ := Aside0.mk (blk_drew BK106.out); have n1_ := Aside0.mk (below_drew1 HB.out); clear BK106; clear HB; have BK106 := n0_; have HB := n1_; clear n0_ n1_
    refine start_ (n := 9) (S := fun w' => w'.cell? ⟨gb106, 0, none⟩ = some (.int .u64 a0_0) ∧ w'.cell? ⟨gb106, 1, none⟩ = some (.int .u64 a0_1) ∧ w'.cell? ⟨gb106, 2, none⟩ = some (.int .u64 a0_2) ∧ w'.cell? ⟨gb106, 3, none⟩ = some (.int .u64 a0_3) ∧ w'.cell? ⟨gb106, 4, none⟩ = some (.int .u64 a0_4) ∧ w'.cell? ⟨gb106, 5, none⟩ = some (.string a0_5) ∧ w'.cell? ⟨gb106, 6, none⟩ = some (.string a0_6) ∧ w'.cell? ⟨gb106, 7, none⟩ = some (.bool a0_7)) (ds := []) #[false, false, false, false, false, false, false, false, false] (by kernel_rfl) rfl rfl ⟨(blk_cell BK106.out 0).trans rfl, (blk_cell BK106.out 1).trans rfl, (blk_cell BK106.out 2).trans rfl, (blk_cell BK106.out 3).trans rfl, (blk_cell BK106.out 4).trans rfl, (blk_cell BK106.out 5).trans rfl, (blk_cell BK106.out 6).trans rfl, (blk_cell BK106.out 7).trans rfl⟩ (fun hHeld => ?_); refine with_tabW span_Right.tab3 span_Right.bits3 (fun HT_ HW_ => ?_)
    generalize wc.drew = w14 at BK106 HB hHeld ⊢
    refine pure_ (i := 0) (N := some 19) (v := ?_) (a' := ?_) #[true, false, false, false, false, false, false, false, false] rfl rfl (any_of HT_.out (by kernel_rfl)) (fun _ _ _ h => h) (Or.inl ⟨by rfl, ?_⟩) ?_ ?_
    rotate_left
    ·intro w'; go_simp; with_reducible rfl
    rotate_left
    ·simp only [Act.put, List.setIfInBounds_toArray, List.set_cons_zero, List.set_cons_succ, i64_w, i32_w]; rfl
    refine pure_ (i := 3) (N := some 22) (v := ?_) (a' := ?_) #[true, false, false, true, false, false, false, false, false] rfl rfl (any_of HT_.out (by kernel_rfl)) (fun _ _ _ h => h) (Or.inl ⟨by rfl, ?_⟩) ?_ ?_
    rotate_left
    ·intro w'; go_simp; with_reducible rfl
    rotate_left
    ·simp only [Act.put, List.setIfInBounds_toArray, List.set_cons_zero, List.set_cons_succ, i64_w, i32_w]; rfl
    refine take_ (i := 1) (N := some 20) (v := ?_) (a' := ?_) #[true, true, false, true, false, false, false, false, false] rfl rfl (take_ofW HT_.out HW_.out (by kernel_rfl)) (fun _ _ _ h => h) (Or.inl ⟨by rfl, ?_⟩) hHeld ?_ ?_
    rotate_left
    ·rintro w' ⟨s0, s1, s2, s3, s4, s5, s6, s7⟩; go_simp; with_reducible rfl
    rotate_left
    ·simp only [Act.put, List.setIfInBounds_toArray, List.set_cons_zero, List.set_cons_succ, i64_w, i32_w]; rfl
    refine take_ (i := 4) (N := some 23) (v := ?_) (a' := ?_) #[true, true, false, true, true, false, false, false, false] rfl rfl (take_ofW HT_.out HW_.out (by kernel_rfl)) (fun _ _ _ h => h) (Or.inl ⟨by rfl, ?_⟩) hHeld ?_ ?_
    rotate_left
    ·rintro w' ⟨s0, s1, s2, s3, s4, s5, s6, s7⟩; go_simp; with_reducible rfl
    rotate_left
    ·simp only [Act.put, List.setIfInBounds_toArray, List.set_cons_zero, List.set_cons_succ, i64_w, i32_w]; rfl
    refine one_ (i := 2) (N := some 21) #[true, true, true, true, true, false, false, false, false] rfl rfl (one_of HT_.out (by kernel_rfl)) (by decide) (fun K hK => ?_)
    refine goes_ Try.func103 (by kernel_rfl) rfl #[.string a0_5] (by rfl) rfl rfl (by (try simp only [List.map_toArray, List.map_cons, List.map_nil]); (rfl)) ?_
    with_reducible refine (span_Name.calls a0_5 t107 _ A11.out).mono ?_
    rintro e w15 ⟨rfl, hb⟩
    refine ⟨_, rfl, ?_⟩
    have n0_ := Aside0.mk (blk_below (g := gb106) (o := .cells #[.int .u64 a0_0, .int .u64 a0_1, .int .u64 a0_2, .int .u64 a0_3, .int .u64 a0_4, .string a0_5, .string a0_6, .bool a0_7] 76 (0, 0)) (by (with_reducible skip); exact BK106.out) hb); have n1_ := Aside0.mk (below_step (by repeat (with_reducible (exact HB.out))) hb); clear BK106; clear HB; have BK106 := n0_; have HB := n1_; clear n0_ n1_; (try clear hb)
    refine hK.out _ _ ⟨(blk_cell BK106.out 0).trans rfl, (blk_cell BK106.out 1).trans rfl, (blk_cell BK106.out 2).trans rfl, (blk_cell BK106.out 3).trans rfl, (blk_cell BK106.out 4).trans rfl, (blk_cell BK106.out 5).trans rfl, (blk_cell BK106.out 6).trans rfl, (blk_cell BK106.out 7).trans rfl⟩ (fun hHeld => ?_)
    clear hK K
    refine norm_ (a' := ?_) ?_ ?_
    rotate_left
    ·show Act.put _ (some 21) _ = _; simp only [Act.put, List.setIfInBounds_toArray, List.set_cons_zero, List.set_cons_succ, i64_w, i32_w]; rfl
    refine one_ (i := 5) (N := some 24) #[true, true, true, true, true, true, false, false, false] rfl rfl (one_of HT_.out (by kernel_rfl)) (by decide) (fun K hK => ?_)
    refine goes_ Try.func103 (by kernel_rfl) rfl #[.string a0_6] (by rfl) rfl rfl (by (try simp only [List.map_toArray, List.map_cons, List.map_nil]); (rfl)) ?_
    with_reducible refine (span_Name.calls a0_6 t108 _ A12.out).mono ?_
    rintro e w16 ⟨rfl, hb⟩
    refine ⟨_, rfl, ?_⟩
    have n0_ := Aside0.mk (blk_below (g := gb106) (o := .cells #[.int .u64 a0_0, .int .u64 a0_1, .int .u64 a0_2, .int .u64 a0_3, .int .u64 a0_4, .string a0_5, .string a0_6, .bool a0_7] 76 (0, 0)) (by (with_reducible skip); exact BK106.out) hb); have n1_ := Aside0.mk (below_step (by repeat (with_reducible (exact HB.out))) hb); clear BK106; clear HB; have BK106 := n0_; have HB := n1_; clear n0_ n1_; (try clear hb)
    refine hK.out _ _ ⟨(blk_cell BK106.out 0).trans rfl, (blk_cell BK106.out 1).trans rfl, (blk_cell BK106.out 2).trans rfl, (blk_cell BK106.out 3).trans rfl, (blk_cell BK106.out 4).trans rfl, (blk_cell BK106.out 5).trans rfl, (blk_cell BK106.out 6).trans rfl, (blk_cell BK106.out 7).trans rfl⟩ (fun hHeld => ?_)
    clear hK K
    refine norm_ (a' := ?_) ?_ ?_
    rotate_left
    ·show Act.put _ (some 24) _ = _; simp only [Act.put, List.setIfInBounds_toArray, List.set_cons_zero, List.set_cons_succ, i64_w, i32_w]; rfl
    refine one_ (i := 6) (N := some 25) #[true, true, true, true, true, true, true, false, false] rfl rfl (one_of HT_.out (by kernel_rfl)) (by decide) (fun K hK => ?_)
    refine Kd.R_lit_step (Kd.int .i64) _ 32 ?hg (N := 25) ?hd (xs := ([t107, t108] : List Int)) (inner := [.int .i64 t107, .int .i64 t108]) (ok := fun _ => True) (okp := fun _ => True) ?hr ?hp (fun _ hk => hk) trivial (Below.refl _ _) (Nat.le_refl _) (by simp) ?_; (case hd => rfl); (case hg => rfl); (case hr => (go_simp; done)); (case hp => exact (Reps.one (show Kd.M (Kd.int .i64) _ _ _ t107 [.int .i64 t107] from rfl) (Reps.one (show Kd.M (Kd.int .i64) _ _ _ t108 [.int .i64 t108] from rfl) (Reps.none _ _))))
    intro v110 w17 ho18 hb hg_ hnew_
    clear hg_ hnew_
    (rw [← Ny109.out] at ho18)
    have n0_ := Aside0.mk (Kd.R_lower ho18 (below_size (by repeat (with_reducible (exact HB.out))))); have n1_ := Aside0.mk (blk_below (g := gb106) (o := .cells #[.int .u64 a0_0, .int .u64 a0_1, .int .u64 a0_2, .int .u64 a0_3, .int .u64 a0_4, .string a0_5, .string a0_6, .bool a0_7] 76 (0, 0)) (by (with_reducible skip); exact BK106.out) hb); have n2_ := Aside0.mk (below_step (by repeat (with_reducible (exact HB.out))) hb); clear BK106; clear HB; have HO111 := n0_; have BK106 := n1_; have HB := n2_; clear n0_ n1_ n2_; clear hb ho18
    obtain ⟨Ao19, co19, eo19⟩ := Kd.R_slice HO111.out
    (subst eo19)
    refine hK.out _ _ ⟨(blk_cell BK106.out 0).trans rfl, (blk_cell BK106.out 1).trans rfl, (blk_cell BK106.out 2).trans rfl, (blk_cell BK106.out 3).trans rfl, (blk_cell BK106.out 4).trans rfl, (blk_cell BK106.out 5).trans rfl, (blk_cell BK106.out 6).trans rfl, (blk_cell BK106.out 7).trans rfl⟩ (fun hHeld => ?_)
    clear hK K
    refine norm_ (a' := ?_) ?_ ?_
    rotate_left
    ·show Act.put _ (some 25) _ = _; simp only [Act.put, List.setIfInBounds_toArray, List.set_cons_zero, List.set_cons_succ, i64_w, i32_w]; rfl
    refine one_ (i := 7) (N := some 26) #[true, true, true, true, true, true, true, true, false] rfl rfl (one_of HT_.out (by kernel_rfl)) (by decide) (fun K hK => ?_)
    refine goes_ Try.func102 (by kernel_rfl) rfl #[.slice Ao19 y109.length co19] (by rfl) rfl rfl (by (try simp only [List.map_toArray, List.map_cons, List.map_nil]); (rfl)) ?_
    with_reducible refine (api_Kind.calls kj1 _ _ y109 t112 _ ?side1 ?side2 A13.out).mono ?_
    (case side1 => repeat (exact (Kd.R_reads' HO111.out).2.2))
    (case side2 => exact (Kd.R_reads' HO111.out).2.1)
    rintro e w' ⟨rfl, ⟨nd, rfl⟩⟩
    refine ⟨_, rfl, ?_⟩
    refine hK.out _ _ ⟨(blk_cell BK106.out 0).trans rfl, (blk_cell BK106.out 1).trans rfl, (blk_cell BK106.out 2).trans rfl, (blk_cell BK106.out 3).trans rfl, (blk_cell BK106.out 4).trans rfl, (blk_cell BK106.out 5).trans rfl, (blk_cell BK106.out 6).trans rfl, (blk_cell BK106.out 7).trans rfl⟩ (fun hHeld => ?_)
    clear hK K
    refine norm_ (a' := ?_) ?_ ?_
    rotate_left
    ·show Act.put _ (some 26) _ = _; simp only [Act.put, List.setIfInBounds_toArray, List.set_cons_zero, List.set_cons_succ, i64_w, i32_w]; rfl
    refine pure_ (i := 8) (N := some 2) (v := ?_) (a' := ?_) #[true, true, true, true, true, true, true, true, true] rfl rfl (any_of HT_.out (by kernel_rfl)) (fun _ _ _ h => h) (Or.inl ⟨by rfl, ?_⟩) ?_ ?_
    rotate_left
    ·intro w'; go_simp; with_reducible rfl
    rotate_left
    ·simp only [Act.put, List.setIfInBounds_toArray, List.set_cons_zero, List.set_cons_succ, i64_w, i32_w]; rfl
    refine done_ (done_of HT_.out (by kernel_rfl)) ?_
    try go_wp2
    go_ret
    exact ⟨by (rfl), by repeat (with_reducible first | exact HB.out | apply pw_below_drewN)⟩

/-- Are spans right, of one trace, of different ids? -/
def message_spans.go (tr : Int) : List Int → List S76 → Option Bool
 | _, [] => some true
 | met, s :: t => (span_Right.f 1000 s.f0 s.f1 s.f2 s.f3 s.f4 s.f5 s.f6 s.f7).bind fun k => if k = 0 then (if s.f0 = tr then (if s.f1 ∈ met then some false else message_spans.go tr (met ++ [s.f1]) t) else some false) else some false
def message_spans.f (a0 : Int) (l1 : List S76) : Option Bool :=
 if l1.length ≤ 1000 ∧ ∀ s ∈ l1, 0 ≤ s.f1 ∧ s.f1 < 18446744073709551616 then (message_spans.go a0 [] l1).bind fun b => some (b && (decide (0 < l1.length) && decide (l1.length ≤ 16))) else none
theorem message_spans.drop_ (l : List S76) {k : Nat} (h : k < l.length) : l.drop k = l.getD k z76 :: l.drop (k + 1) := by
 rw [List.drop_eq_getElem_cons h]
 simp [List.getD_eq_getElem?_getD, List.getElem?_eq_getElem h]
theorem message_spans.take_ (l : List S76) {k : Nat} (h : k < l.length) : (l.take (k + 1)).map (·.f1) = (l.take k).map (·.f1) ++ [(l.getD k z76).f1] := by
 rw [List.take_succ_eq_append_getElem h, List.map_append]
 simp only [List.map_cons, List.map_nil, List.getD_eq_getElem?_getD, List.getElem?_eq_getElem h, Option.getD_some]
theorem message_spans.wf_ {l : List S76} (h : ∀ s ∈ l, 0 ≤ s.f1 ∧ s.f1 < 18446744073709551616) {k : Nat} (hk : k < l.length) : (Lit.int .u64 (l.getD k z76).f1).wf = true := by
 have hm : l.getD k z76 ∈ l := by
  rw [List.getD_eq_getElem?_getD, List.getElem?_eq_getElem hk, Option.getD_some]
  exact List.getElem_mem _
 have := h _ hm
 have h3 : IntKind.u64.min = 0 := by decide
 have h4 : IntKind.u64.max = 18446744073709551615 := by decide
 simp only [Lit.wf, h3, h4, Bool.and_eq_true, decide_eq_true_eq]
 omega
theorem message_spans.zb (W : World) : (zeroValue 4).run Try.prog W = .ok (.bool false) W := by kernel_rfl
set_option maxHeartbeats 8000000 in
set_option maxRecDepth 100000 in
theorem message_spans.calls (a0 : Int) (A1 : Option Addr) (c1 : Nat) (l1 : List S76) (r : Bool) (w : World) (hr1 : Kd.C k76 w A1 l1.length l1) (hc1 : l1.length ≤ c1) (h : message_spans.f a0 l1 = some r) :
  Calls Try.prog 60 #[.int .u64 a0, .slice A1 l1.length c1] w fun e w' => e = .returned (.bool r) ∧ Below w.heap.size w w' := by
 unfold message_spans.f at h
 split at h
 ·rename_i hl
  obtain ⟨hl, hw⟩ := hl
  obtain ⟨b, hgo, h⟩ := Option.bind_eq_some_iff.1 h
  have HR := Aside0.mk (Option.some.inj h); have HC := Aside0.mk hr1; have HW := Aside0.mk hw; have HGO := Aside0.mk hgo; have hmm := @run_makeMap Try.prog; have hu76 := Try.underlying76; clear hr1 hw hgo h
  go_enter Try.func60, Try.ntmps60
  go_wp2
  go_loopw [11] (fun i wr => ∃ k : Nat, k ≤ l1.length ∧ i = .int .i64 k ∧ Aside0 (message_spans.go a0 ((l1.take k).map (·.f1)) (l1.drop k) = some b) ∧ Aside0 (Below w.heap.size w wr) ∧ Aside0 (∃ D : DataW Unit, wr.ownsMap Try.prog 22 (plainElem Try.prog 4) w.heap.size k D ∧ MapBool.Is .u64 D ((l1.take k).map (·.f1)))) (fun i _ => l1.length - (intOf i).toNat)
  case atStart => exact ⟨0, Nat.zero_le _, rfl, HGO, ⟨below_alloc (Below.refl _ _) _⟩, ⟨_, World.ownsMap_made w _ _ _, MapBool.Is.nil _⟩⟩
  case round =>
   clear HGO
   obtain ⟨k, hk, rfl, HGO, HB, HM⟩ := hrel
   by_cases hlt : k < l1.length
   ·have hgo := HGO.out
    rw [message_spans.drop_ l1 hlt, message_spans.go] at hgo
    obtain ⟨kd, hkd, hgo2⟩ := Option.bind_eq_some_iff.1 hgo
    obtain ⟨ad, rfl, hx0, hx1, hx2, hx3, hx4, hx5, hx6, hx7⟩ := at_T76 (Kd.C_below HC.out HB.out) (k : Int) (by omega) (by omega)
    have hrd : rd_T76 l1 (k : Int) = l1.getD k z76 := rfl; have hwf := message_spans.wf_ HW.out hlt; have HT := Aside0.mk (message_spans.take_ l1 hlt)
    rw [hrd, Int.toNat_natCast] at hx0 hx1 hx2 hx3 hx4 hx5 hx6 hx7
    generalize l1.getD k z76 = s at *
    obtain ⟨s0, s1, s2, s3, s4, s5, s6, s7⟩ := s
    have HKD := Aside0.mk hkd; have HGO2 := Aside0.mk hgo2; have HWF := Aside0.mk hwf; clear HGO hgo hgo2 hkd hwf hrd
    simp only at HKD HGO2 HWF HT hx0 hx1 hx2 hx3 hx4 hx5 hx6 hx7
    have hltb : decide ((k : Int) < (l1.length : Int)) = true := decide_eq_true (by omega); have p0 : (0 ≤ (k : Int)) = True := eq_true (by omega); have p1 : ((k : Int) < (l1.length : Int)) = True := eq_true (by omega)
    go_wp2_with ((with_reducible refine gate_dst (N := 7) rfl ?_); refine box_event ?hg (N := 7) ?hd (cs := #[.int .u64 0, .int .u64 0, .int .u64 0, .int .u64 0, .int .u64 0, .string ⟨#[]⟩, .string ⟨#[]⟩, .bool false]) (t := 76) ?hr ?_; (case hd => rfl); (case hg => rfl); (case hr => (go_simp; done)); intro gb hg w9 hbox hb; have HG := Aside0.mk (show wr.heap.size = gb from hg.symm); have BK := Aside0.mk hbox; have HB9 := Aside0.mk hb; clear hb hbox hg; have hcz_0 : w9.cell? ⟨gb, 0, none⟩ = some (.int .u64 0) := (blk_cell BK.out 0).trans rfl; have hcz_1 : w9.cell? ⟨gb, 1, none⟩ = some (.int .u64 0) := (blk_cell BK.out 1).trans rfl; have hcz_2 : w9.cell? ⟨gb, 2, none⟩ = some (.int .u64 0) := (blk_cell BK.out 2).trans rfl; have hcz_3 : w9.cell? ⟨gb, 3, none⟩ = some (.int .u64 0) := (blk_cell BK.out 3).trans rfl; have hcz_4 : w9.cell? ⟨gb, 4, none⟩ = some (.int .u64 0) := (blk_cell BK.out 4).trans rfl; have hcz_5 : w9.cell? ⟨gb, 5, none⟩ = some (.string ⟨#[]⟩) := (blk_cell BK.out 5).trans rfl; have hcz_6 : w9.cell? ⟨gb, 6, none⟩ = some (.string ⟨#[]⟩) := (blk_cell BK.out 6).trans rfl; have hcz_7 : w9.cell? ⟨gb, 7, none⟩ = some (.bool false) := (blk_cell BK.out 7).trans rfl; have hfz_0 := blk_frozen BK.out 0; have hfz_1 := blk_frozen BK.out 1; have hfz_2 := blk_frozen BK.out 2; have hfz_3 := blk_frozen BK.out 3; have hfz_4 := blk_frozen BK.out 4; have hfz_5 := blk_frozen BK.out 5; have hfz_6 := blk_frozen BK.out 6; have hfz_7 := blk_frozen BK.out 7)
    go_wp2_with fail
    refine (span_Right.calls 1000 s0 s1 s2 s3 s4 s5 s6 s7 kd _ HKD.out).mono ?_
    rintro e w11 ⟨rfl, hb⟩
    have hch := blk_set (blk_set (blk_set (blk_set (blk_set (blk_set (blk_set (blk_set BK.out 0 (.int .u64 s0)) 1 (.int .u64 s1)) 2 (.int .u64 s2)) 3 (.int .u64 s3)) 4 (.int .u64 s4)) 5 (.string s5)) 6 (.string s6)) 7 (.bool s7)
    simp only [List.setIfInBounds_toArray, List.set_cons_zero, List.set_cons_succ] at hch
    have BS := Aside0.mk (blk_below hch hb)
    have HNE := Aside0.mk (show w.heap.size ≠ gb from by obtain ⟨D, hM, _⟩ := HM.out; have := hM.lt; have := HG.out; omega)
    have HM2 : Aside0 (∃ D : DataW Unit, w11.ownsMap Try.prog 22 (plainElem Try.prog 4) w.heap.size k D ∧ MapBool.Is .u64 D ((l1.take k).map (·.f1))) := by
     obtain ⟨D, hM, hI⟩ := HM.out
     refine ⟨D, MapBool.below ?_ hb, hI⟩
     (repeat refine World.ownsMap.setCell ?_ HNE.out _)
     exact MapBool.below hM HB9.out
    have HGE := Aside0.mk (show w.heap.size ≤ gb from by have := HB.out.size; have := HG.out; omega)
    have HB2 := Aside0.mk (show Below w.heap.size w w11 from by
     refine below_step ?_ hb
     (repeat refine below_set ?_ HGE.out)
     exact below_step HB.out HB9.out)
    clear hb hch BK HB HB9 HM hx0 hx1 hx2 hx3 hx4 hx5 hx6 hx7 hcz_0 hcz_1 hcz_2 hcz_3 hcz_4 hcz_5 hcz_6 hcz_7 hfz_0 hfz_1 hfz_2 hfz_3 hfz_4 hfz_5 hfz_6 hfz_7; have hcz_0 : w11.cell? ⟨gb, 0, none⟩ = some (.int .u64 s0) := (blk_cell BS.out 0).trans rfl; have hcz_1 : w11.cell? ⟨gb, 1, none⟩ = some (.int .u64 s1) := (blk_cell BS.out 1).trans rfl
    obtain ⟨D, hM, hI⟩ := HM2.out
    obtain ⟨c, hrun, hat⟩ := MapBool.lookup_bool hM (Go.Maps.int_keyed Try.underlying22) Try.underlying144 Try.underlying4 (message_spans.zb w11) (Go.Maps.keyOf_int_mk Try.underlying22 HWF.out)
    have hc : c = decide (s1 ∈ (l1.take k).map (·.f1)) := by
     have := hI.2 s1 HWF.out
     rw [hat] at this
     simpa using this
    have HI := Aside0.mk hI; have HMD := Aside0.mk hM; clear hI hM hat HM2
    have hbad : b = false → r = false := fun e => by have := HR.out; rw [e] at this; simpa using this.symm
    have HBAD := Aside0.mk hbad; clear hbad; have h2 := HGO2.out
    by_cases hk0 : kd = 0
    ·subst hk0
     rw [if_pos rfl] at h2
     by_cases hs0 : s0 = a0
     ·subst hs0
      rw [if_pos rfl] at h2
      have hsb : (s0 != s0) = false := by simp
      by_cases hin : s1 ∈ (l1.take k).map (·.f1)
      ·rw [if_pos hin] at h2
       rw [decide_eq_true hin] at hc
       subst hc
       obtain rfl := HBAD.out (Option.some.inj h2).symm
       clear h2 hin
       go_wp2
       go_ret
       exact ⟨rfl, HB2.out⟩
      ·rw [if_neg hin] at h2
       rw [decide_eq_false hin] at hc
       subst hc; have H2 := Aside0.mk h2; clear h2 hin
       go_wp2_with (at_mapUpdate; refine wpList_mapUpdate_own _ rfl _ _ _ 144 rfl 22 4 (Go.Maps.int_keyed Try.underlying22) Try.underlying144 _ w.heap.size k D rfl HMD.out (by unfold maxLen; omega) _ _ (.int .u64 s1) rfl rfl (Go.Maps.keyOf_int_mk Try.underlying22 HWF.out) (.lit (.bool true)) [] (plainElem_bool Try.underlying4 true) ?_; intro w12 hM12 hg12; have HM12 := Aside0.mk hM12; have HG12 := Aside0.mk hg12; clear hM12 hg12)
       go_roundw
       case rel =>
        refine ⟨k + 1, by omega, by go_num, ⟨by rw [HT.out]; exact H2.out⟩, ⟨?_⟩, ⟨_, HM12.out, by rw [HT.out]; exact HI.out.put s1⟩⟩
        exact HB2.out.grown HG12.out HB2.out.size (fun q hq => by cases hq; exact Nat.le_refl _)
       case measure => simp [intOf]; omega
     ·rw [if_neg hs0] at h2
      have hsb : (s0 != a0) = true := bne_iff_ne.mpr hs0
      obtain rfl := HBAD.out (Option.some.inj h2).symm
      clear h2
      go_wp2
      go_ret
      exact ⟨rfl, HB2.out⟩
    ·rw [if_neg hk0] at h2
     have hkb : (kd != 0) = true := bne_iff_ne.mpr hk0
     obtain rfl := HBAD.out (Option.some.inj h2).symm
     clear h2
     go_wp2
     go_ret
     exact ⟨rfl, HB2.out⟩
   ·obtain rfl : k = l1.length := by omega
    have hgo := HGO.out
    rw [List.drop_of_length_le (Nat.le_refl _), message_spans.go] at hgo
    obtain rfl := Option.some.inj hgo
    have hr := HR.out
    rw [Bool.true_and] at hr
    clear HGO hgo HR; have hltb : decide ((l1.length : Int) < (l1.length : Int)) = false := decide_eq_false (by omega)
    by_cases h0 : 0 < l1.length
    ·rw [decide_eq_true h0, Bool.true_and] at hr
     have h0b : decide ((0 : Int) < (l1.length : Int)) = true := decide_eq_true (by omega)
     by_cases h1 : l1.length ≤ 16
     ·rw [decide_eq_true h1] at hr
      have h1b : decide ((l1.length : Int) ≤ 16) = true := decide_eq_true (by omega); subst hr
      go_wp2
      go_ret
      exact ⟨rfl, HB.out⟩
     ·rw [decide_eq_false h1] at hr
      have h1b : decide ((l1.length : Int) ≤ 16) = false := decide_eq_false (by omega); subst hr
      go_wp2
      go_ret
      exact ⟨rfl, HB.out⟩
    ·rw [decide_eq_false h0, Bool.false_and] at hr
     have h0b : decide ((0 : Int) < (l1.length : Int)) = false := decide_eq_false (by omega); subst hr
     go_wp2
     go_ret
     exact ⟨rfl, HB.out⟩
 exact absurd h (by simp)


def message_right_1.f (a0_0 : Int) (a0_1 : Int) (a0_2 : Int) : Option (Bool) := if a0_1 = 0 then (some true) else (if a0_2 < 0 then (some true) else (some (decide (a0_2 > 2))))
set_option maxHeartbeats 40000000 in
set_option maxRecDepth 100000 in
theorem message_right_1.calls (a0_0 : Int) (a0_1 : Int) (a0_2 : Int) (r : Bool) (w : World) (h : message_right_1.f a0_0 a0_1 a0_2 = some r) :
  Calls Try.prog 61 #[.agg #[.int .u64 a0_0, .int .u64 a0_1, .int .i64 a0_2]] w fun e w' => e = .returned (.bool r) ∧ Below w.heap.size w w' := by
 have hu92 := Try.underlying92; have HB := Aside0.mk (Below.refl w.heap.size w); have H : (if a0_1 = 0 then (some true) else (if a0_2 < 0 then (some true) else (some (decide (a0_2 > 2))))) = some r := h; clear h
 by_cases c2 : a0_1 = 0
 ·rw [if_pos c2] at H
  obtain ⟨c2b0, c2b1⟩ := Hand.Cz.eqT c2; clear c2
  obtain rfl := Option.some.inj H
  go_enter Try.func61, Try.ntmps61
  go_wp2_with ((with_reducible refine gate_dst (N := 1) rfl ?_); refine box_event ?hg (N := 1) ?hd (cs := #[.int .u64 a0_0, .int .u64 a0_1, .int .i64 a0_2]) (t := 92) ?hr ?_; (case hd => rfl); (case hg => rfl); (case hr => (go_simp; done)); intro gb113 hg w3 hbox hb; have n0_ := Aside0.mk (below_step (by repeat (with_reducible (exact HB.out))) hb); have n1_ := Aside0.mk (hbox); have n2_ := Aside0.mk ((by rw [hg]; exact (below_size (by repeat (with_reducible (exact HB.out)))) : w.heap.size ≤ gb113)); have n3_ := n2_; clear HB; have HB := n0_; have BK113 := n1_; have GW113 := n2_; have GE113 := n3_; clear n0_ n1_ n2_ n3_; clear hb hbox hg; obtain ⟨z4_0, z4_1, z4_2⟩ := Hand.Cz.c3 BK113.out; obtain ⟨y4_0, y4_1, y4_2⟩ := Hand.Cz.f3 BK113.out)
  go_ret
  exact ⟨by (rfl), by repeat (with_reducible (exact HB.out))⟩
 rw [if_neg c2] at H
 obtain ⟨c2b0, c2b1⟩ := Hand.Cz.eqF c2
 by_cases c5 : a0_2 < 0
 ·rw [if_pos c5] at H
  have c5b0 : decide (a0_2 < 0) = true := decide_eq_true c5; clear c5
  obtain rfl := Option.some.inj H
  go_enter Try.func61, Try.ntmps61
  go_wp2_with ((with_reducible refine gate_dst (N := 1) rfl ?_); refine box_event ?hg (N := 1) ?hd (cs := #[.int .u64 a0_0, .int .u64 a0_1, .int .i64 a0_2]) (t := 92) ?hr ?_; (case hd => rfl); (case hg => rfl); (case hr => (go_simp; done)); intro gb113 hg w6 hbox hb; have n0_ := Aside0.mk (below_step (by repeat (with_reducible (exact HB.out))) hb); have n1_ := Aside0.mk (hbox); have n2_ := Aside0.mk ((by rw [hg]; exact (below_size (by repeat (with_reducible (exact HB.out)))) : w.heap.size ≤ gb113)); have n3_ := n2_; clear HB; have HB := n0_; have BK113 := n1_; have GW113 := n2_; have GE113 := n3_; clear n0_ n1_ n2_ n3_; clear hb hbox hg; obtain ⟨z7_0, z7_1, z7_2⟩ := Hand.Cz.c3 BK113.out; obtain ⟨y7_0, y7_1, y7_2⟩ := Hand.Cz.f3 BK113.out)
  go_ret
  exact ⟨by (rfl), by repeat (with_reducible (exact HB.out))⟩
 rw [if_neg c5] at H
 have c5b0 : decide (a0_2 < 0) = false := decide_eq_false c5; clear c5
 obtain rfl := Option.some.inj H
 go_enter Try.func61, Try.ntmps61
 go_wp2_with ((with_reducible refine gate_dst (N := 1) rfl ?_); refine box_event ?hg (N := 1) ?hd (cs := #[.int .u64 a0_0, .int .u64 a0_1, .int .i64 a0_2]) (t := 92) ?hr ?_; (case hd => rfl); (case hg => rfl); (case hr => (go_simp; done)); intro gb113 hg w8 hbox hb; have n0_ := Aside0.mk (below_step (by repeat (with_reducible (exact HB.out))) hb); have n1_ := Aside0.mk (hbox); have n2_ := Aside0.mk ((by rw [hg]; exact (below_size (by repeat (with_reducible (exact HB.out)))) : w.heap.size ≤ gb113)); have n3_ := n2_; clear HB; have HB := n0_; have BK113 := n1_; have GW113 := n2_; have GE113 := n3_; clear n0_ n1_ n2_ n3_; clear hb hbox hg; obtain ⟨z9_0, z9_1, z9_2⟩ := Hand.Cz.c3 BK113.out; obtain ⟨y9_0, y9_1, y9_2⟩ := Hand.Cz.f3 BK113.out)
 go_ret
 exact ⟨by (rfl), by repeat (with_reducible (exact HB.out))⟩

def message_right_2.f (a0_0 : Int) (a0_1 : Int) (a0_2 : Int) : Option (Int) := some a0_0
set_option maxHeartbeats 40000000 in
set_option maxRecDepth 100000 in
theorem message_right_2.calls (a0_0 : Int) (a0_1 : Int) (a0_2 : Int) (r : Int) (w : World) (h : message_right_2.f a0_0 a0_1 a0_2 = some r) :
  Calls Try.prog 63 #[.agg #[.int .u64 a0_0, .int .u64 a0_1, .int .i64 a0_2]] w fun e w' => e = .returned (.int .u64 r) ∧ Below w.heap.size w w' := by
 have hu92 := Try.underlying92; have HB := Aside0.mk (Below.refl w.heap.size w); have H : (some a0_0) = some r := h; clear h
 obtain rfl := Option.some.inj H
 go_enter Try.func63, Try.ntmps63
 go_wp2_with ((with_reducible refine gate_dst (N := 1) rfl ?_); refine box_event ?hg (N := 1) ?hd (cs := #[.int .u64 a0_0, .int .u64 a0_1, .int .i64 a0_2]) (t := 92) ?hr ?_; (case hd => rfl); (case hg => rfl); (case hr => (go_simp; done)); intro gb114 hg w2 hbox hb; have n0_ := Aside0.mk (below_step (by repeat (with_reducible (exact HB.out))) hb); have n1_ := Aside0.mk (hbox); have n2_ := Aside0.mk ((by rw [hg]; exact (below_size (by repeat (with_reducible (exact HB.out)))) : w.heap.size ≤ gb114)); have n3_ := n2_; clear HB; have HB := n0_; have BK114 := n1_; have GW114 := n2_; have GE114 := n3_; clear n0_ n1_ n2_ n3_; clear hb hbox hg; obtain ⟨z3_0, z3_1, z3_2⟩ := Hand.Cz.c3 BK114.out; obtain ⟨y3_0, y3_1, y3_2⟩ := Hand.Cz.f3 BK114.out)
 go_ret
 exact ⟨by (rfl), by repeat (with_reducible (exact HB.out))⟩

def message_right_3.f (a0 : Int) : Option (Int) := some a0
set_option maxHeartbeats 40000000 in
set_option maxRecDepth 100000 in
theorem message_right_3.calls (a0 : Int) (r : Int) (w : World) (h : message_right_3.f a0 = some r) :
  Calls Try.prog 67 #[.int .u64 a0] w fun e w' => e = .returned (.int .u64 r) ∧ Drawn0 w w' := by
 have H : (some a0) = some r := h; clear h
 obtain rfl := Option.some.inj H
 go_enter Try.func67, Try.ntmps67
 go_wp2
 go_ret
 exact ⟨by (rfl), by repeat (exact Drawn0.refl _)⟩

def api_Member_62.l0 : Nat → List (S92) → Int → Int → List (S92) → Int → Int → Option (Bool)
 | 0, _, _, _, _, _, _ => none
 | k + 1, x0, x1, x7, x10, x11, x12 => if x12 < x11 then (if 0 ≤ x12 then (if x12 < (x10.length : Int) then ((message_right_2.f ((rd_T92 x10 x12).f0) ((rd_T92 x10 x12).f1) ((rd_T92 x10 x12).f2)).bind fun t117 => (if t117 ≤ x7 then (some false) else ((message_right_2.f ((rd_T92 x10 x12).f0) ((rd_T92 x10 x12).f1) ((rd_T92 x10 x12).f2)).bind fun t118 => (api_Member_62.l0 k x0 x1 t118 x10 x11 (wrap64 (x12 + 1)))))) else (none)) else (none)) else (if (x0.length : Int) > 0 then (some (decide ((x0.length : Int) ≤ x1))) else (some false))
def api_Member_62.f (k : Nat) (l0 : List (S92)) (a1 : Int)  : Option (Bool) := api_Member_62.l0 k l0 a1 0 l0 (l0.length : Int) 0
set_option maxHeartbeats 40000000 in
set_option maxRecDepth 100000 in
theorem api_Member_62.calls (k : Nat) (A0 : Option Addr) (c0 : Nat) (l0 : List (S92)) (a1 : Int)  (r : Bool) (w : World) (hr0 : Kd.C k92 w A0 l0.length l0) (hc0 : l0.length ≤ c0) (h : api_Member_62.f k l0 a1 = some r) :
  Calls Try.prog 62 #[.slice A0 l0.length c0, .int .i64 a1, .func (.func 63) #[] #[]] w fun e w' => e = .returned (.bool r) ∧ Below w.heap.size w w' := by
 have hu92 := Try.underlying92; have HR0 := Aside0.mk hr0; have HC0 := Aside0.mk hc0; clear hr0 hc0; have HB := Aside0.mk (Below.refl w.heap.size w); have H : (api_Member_62.l0 k l0 a1 0 l0 (l0.length : Int) 0) = some r := h; clear h
 have H' := Aside0.mk H
 clear H
 go_enter Try.func62, Try.ntmps62
 go_wp2
 go_loopg [7, 12] k (fun kq v7 v12 w' => ∃ (x7_1 : Int) (x12_1 : Int), v7 = .int .u64 x7_1 ∧ v12 = .int .i64 x12_1 ∧ Aside0 (api_Member_62.l0 kq l0 a1 x7_1 l0 (l0.length : Int) x12_1 = some r) ∧ Aside0 (kq ≤ k) ∧ Aside0 (Below w.heap.size w w'))
 case atStart => exact ⟨(0), (0), (by (rfl)), (by (rfl)), H', ⟨Nat.le_refl _⟩, ⟨by repeat (with_reducible (exact HB.out))⟩⟩
 case round =>
  clear H'
  obtain ⟨x7_1, x12_1, rfl, rfl, HA, HK1, HB⟩ := hrel
  cases gk with
  | zero => exact absurd HA.out (by simp [api_Member_62.l0])
  | succ k1 =>
   have H := HA.out; clear HA
   simp only [api_Member_62.l0] at H
   by_cases c4 : x12_1 < (l0.length : Int)
   ·rw [if_pos c4] at H
    have c4b0 : decide (x12_1 < (l0.length : Int)) = true := decide_eq_true c4; clear c4
    by_cases c5 : 0 ≤ x12_1
    ·rw [if_pos c5] at H
     have c5b0 : decide (0 ≤ x12_1) = true := decide_eq_true c5; clear c5
     by_cases c6 : x12_1 < (l0.length : Int)
     ·rw [if_pos c6] at H
      have c6b0 : decide (x12_1 < (l0.length : Int)) = true := decide_eq_true c6; clear c6
      replace H := Option.bind_eq_some_iff.mp H
      obtain ⟨t117, A70, H⟩ := H
      (try dsimp only at H)
      have A7 := Aside0.mk A70; clear A70
      by_cases c8 : t117 ≤ x7_1
      ·rw [if_pos c8] at H
       have c8b0 : decide (t117 ≤ x7_1) = true := decide_eq_true c8; clear c8
       obtain rfl := Option.some.inj H
       have p115 : 0 ≤ (x12_1 : Int) := of_decide_eq_true (by (with_reducible assumption)); have q115 : x12_1 < (l0.length : Int) := of_decide_eq_true (by (with_reducible assumption))
       obtain ⟨ad115, e115, hx115_0, hx115_1, hx115_2⟩ := at_T92 HR0.out x12_1 p115 q115
       cases e115
       replace hx115_0 := Hand.Cz.ov HB.out hx115_0
       replace hx115_1 := Hand.Cz.ov HB.out hx115_1
       replace hx115_2 := Hand.Cz.ov HB.out hx115_2
       replace p115 := eq_true p115
       replace q115 := eq_true q115
       go_wp2_with (first | ((with_reducible refine gate_dst (N := 9) rfl ?_); (try (refine gate_guard (by rfl) ?_; dsimp only)); refine box_event ?hg (N := 9) ?hd (cs := #[.int .u64 0, .int .u64 0, .int .i64 0]) (t := 92) ?hr ?_; (case hd => rfl); (case hg => rfl); (case hr => (go_simp; done)); intro gb116 hg w9 hbox hb; have n0_ := Aside0.mk (below_step (by repeat (with_reducible (exact HB.out))) hb); have n1_ := Aside0.mk (hbox); have n2_ := Aside0.mk ((by rw [hg]; exact (below_size (by repeat (with_reducible (exact HB.out)))) : w.heap.size ≤ gb116)); have n3_ := n2_; clear HB; have HB := n0_; have BK116 := n1_; have GW116 := n2_; have GE116 := n3_; clear n0_ n1_ n2_ n3_; clear hb hbox hg; obtain ⟨z10_0, z10_1, z10_2⟩ := Hand.Cz.c3 BK116.out; obtain ⟨y10_0, y10_1, y10_2⟩ := Hand.Cz.f3 BK116.out) | ((refine Hand.gate_calleeV (f := 63) rfl (by rfl) ?_); refine Hand.goesLV_ (some 18) rfl rfl Try.func63 (by kernel_rfl) rfl #[.agg #[.int .u64 ((rd_T92 l0 x12_1).f0), .int .u64 ((rd_T92 l0 x12_1).f1), .int .i64 ((rd_T92 l0 x12_1).f2)]] rfl (by rfl) (by (try simp only [List.map_toArray, List.map_cons, List.map_nil]); (rfl)) ?_; (with_reducible refine (message_right_2.calls ((rd_T92 l0 x12_1).f0) ((rd_T92 l0 x12_1).f1) ((rd_T92 l0 x12_1).f2) t117 _ A7.out).mono ?_); rintro e w11 ⟨rfl, hb⟩; refine ⟨_, rfl, ?_⟩; have n0_ := Aside0.mk (blk_below (g := gb116) (o := .cells #[.int .u64 ((rd_T92 l0 x12_1).f0), .int .u64 ((rd_T92 l0 x12_1).f1), .int .i64 ((rd_T92 l0 x12_1).f2)] 92 (0, 0)) (by (with_reducible skip); refine blk_put (cs := #[.int .u64 ((rd_T92 l0 x12_1).f0), .int .u64 ((rd_T92 l0 x12_1).f1), .int .i64 0]) ?_ 2 _ rfl; (with_reducible skip); refine blk_put (cs := #[.int .u64 ((rd_T92 l0 x12_1).f0), .int .u64 0, .int .i64 0]) ?_ 1 _ rfl; (with_reducible skip); refine blk_put (cs := #[.int .u64 0, .int .u64 0, .int .i64 0]) ?_ 0 _ rfl; (with_reducible skip); exact BK116.out) hb); have n1_ := Aside0.mk (below_step (by repeat (with_reducible first | exact HB.out | refine below_set ?_ GE116.out)) hb); clear BK116; clear HB; have BK116 := n0_; have HB := n1_; clear n0_ n1_; (try clear hb)))
       go_ret
       exact ⟨by (rfl), by repeat (with_reducible (exact HB.out))⟩
      ·rw [if_neg c8] at H
       have c8b0 : decide (t117 ≤ x7_1) = false := decide_eq_false c8; clear c8
       replace H := Option.bind_eq_some_iff.mp H
       obtain ⟨t118, A120, H⟩ := H
       (try dsimp only at H)
       have A12 := Aside0.mk A120; clear A120
       have H' := Aside0.mk H
       clear H; have p115 : 0 ≤ (x12_1 : Int) := of_decide_eq_true (by (with_reducible assumption)); have q115 : x12_1 < (l0.length : Int) := of_decide_eq_true (by (with_reducible assumption))
       obtain ⟨ad115, e115, hx115_0, hx115_1, hx115_2⟩ := at_T92 HR0.out x12_1 p115 q115
       cases e115
       replace hx115_0 := Hand.Cz.ov HB.out hx115_0
       replace hx115_1 := Hand.Cz.ov HB.out hx115_1
       replace hx115_2 := Hand.Cz.ov HB.out hx115_2
       replace p115 := eq_true p115
       replace q115 := eq_true q115
       go_wp2_with (first | ((with_reducible refine gate_dst (N := 9) rfl ?_); (try (refine gate_guard (by rfl) ?_; dsimp only)); refine box_event ?hg (N := 9) ?hd (cs := #[.int .u64 0, .int .u64 0, .int .i64 0]) (t := 92) ?hr ?_; (case hd => rfl); (case hg => rfl); (case hr => (go_simp; done)); intro gb116 hg w13 hbox hb; have n0_ := Aside0.mk (below_step (by repeat (with_reducible (exact HB.out))) hb); have n1_ := Aside0.mk (hbox); have n2_ := Aside0.mk ((by rw [hg]; exact (below_size (by repeat (with_reducible (exact HB.out)))) : w.heap.size ≤ gb116)); have n3_ := n2_; clear HB; have HB := n0_; have BK116 := n1_; have GW116 := n2_; have GE116 := n3_; clear n0_ n1_ n2_ n3_; clear hb hbox hg; obtain ⟨z14_0, z14_1, z14_2⟩ := Hand.Cz.c3 BK116.out; obtain ⟨y14_0, y14_1, y14_2⟩ := Hand.Cz.f3 BK116.out) | ((refine Hand.gate_calleeV (f := 63) rfl (by rfl) ?_); refine Hand.goesLV_ (some 18) rfl rfl Try.func63 (by kernel_rfl) rfl #[.agg #[.int .u64 ((rd_T92 l0 x12_1).f0), .int .u64 ((rd_T92 l0 x12_1).f1), .int .i64 ((rd_T92 l0 x12_1).f2)]] rfl (by rfl) (by (try simp only [List.map_toArray, List.map_cons, List.map_nil]); (rfl)) ?_; (with_reducible refine (message_right_2.calls ((rd_T92 l0 x12_1).f0) ((rd_T92 l0 x12_1).f1) ((rd_T92 l0 x12_1).f2) t117 _ A7.out).mono ?_); rintro e w15 ⟨rfl, hb⟩; refine ⟨_, rfl, ?_⟩; have n0_ := Aside0.mk (blk_below (g := gb116) (o := .cells #[.int .u64 ((rd_T92 l0 x12_1).f0), .int .u64 ((rd_T92 l0 x12_1).f1), .int .i64 ((rd_T92 l0 x12_1).f2)] 92 (0, 0)) (by (with_reducible skip); refine blk_put (cs := #[.int .u64 ((rd_T92 l0 x12_1).f0), .int .u64 ((rd_T92 l0 x12_1).f1), .int .i64 0]) ?_ 2 _ rfl; (with_reducible skip); refine blk_put (cs := #[.int .u64 ((rd_T92 l0 x12_1).f0), .int .u64 0, .int .i64 0]) ?_ 1 _ rfl; (with_reducible skip); refine blk_put (cs := #[.int .u64 0, .int .u64 0, .int .i64 0]) ?_ 0 _ rfl; (with_reducible skip); exact BK116.out) hb); have n1_ := Aside0.mk (below_step (by repeat (with_reducible first | exact HB.out | refine below_set ?_ GE116.out)) hb); clear BK116; clear HB; have BK116 := n0_; have HB := n1_; clear n0_ n1_; (try clear hb); obtain ⟨z16_0, z16_1, z16_2⟩ := Hand.Cz.c3 BK116.out; obtain ⟨y16_0, y16_1, y16_2⟩ := Hand.Cz.f3 BK116.out) | ((refine Hand.gate_calleeV (f := 63) rfl (by rfl) ?_); refine Hand.goesLV_ (some 23) rfl rfl Try.func63 (by kernel_rfl) rfl #[.agg #[.int .u64 ((rd_T92 l0 x12_1).f0), .int .u64 ((rd_T92 l0 x12_1).f1), .int .i64 ((rd_T92 l0 x12_1).f2)]] rfl (by rfl) (by (try simp only [List.map_toArray, List.map_cons, List.map_nil]); (rfl)) ?_; (with_reducible refine (message_right_2.calls ((rd_T92 l0 x12_1).f0) ((rd_T92 l0 x12_1).f1) ((rd_T92 l0 x12_1).f2) t118 _ A12.out).mono ?_); rintro e w17 ⟨rfl, hb⟩; refine ⟨_, rfl, ?_⟩; have n0_ := Aside0.mk (blk_below (g := gb116) (o := .cells #[.int .u64 ((rd_T92 l0 x12_1).f0), .int .u64 ((rd_T92 l0 x12_1).f1), .int .i64 ((rd_T92 l0 x12_1).f2)] 92 (0, 0)) (by (with_reducible skip); exact BK116.out) hb); have n1_ := Aside0.mk (below_step (by repeat (with_reducible (exact HB.out))) hb); clear BK116; clear HB; have BK116 := n0_; have HB := n1_; clear n0_ n1_; (try clear hb)))
       go_roundg k1
       case measure => have := HK1.out; omega
       case rel => exact ⟨(t118), (wrap64 (x12_1 + 1)), (by (rfl)), (by (rfl)), H', ⟨by have := HK1.out; omega⟩, ⟨by repeat (with_reducible (exact HB.out))⟩⟩
     ·rw [if_neg c6] at H
      exact absurd H (by simp)
    ·rw [if_neg c5] at H
     exact absurd H (by simp)
   ·rw [if_neg c4] at H
    have c4b0 : decide (x12_1 < (l0.length : Int)) = false := decide_eq_false c4; clear c4
    by_cases c18 : (l0.length : Int) > 0
    ·rw [if_pos c18] at H
     have c18b0 : decide (0 < (l0.length : Int)) = true := decide_eq_true c18; have c18b1 : decide (0 < l0.length) = true := decide_eq_true (by omega); clear c18
     obtain rfl := Option.some.inj H
     go_wp2
     go_ret
     exact ⟨by (rfl), by repeat (with_reducible (exact HB.out))⟩
    ·rw [if_neg c18] at H
     have c18b0 : decide (0 < (l0.length : Int)) = false := decide_eq_false c18; have c18b1 : decide (0 < l0.length) = false := decide_eq_false (by omega); clear c18
     obtain rfl := Option.some.inj H
     go_wp2
     go_ret
     exact ⟨by (rfl), by repeat (with_reducible (exact HB.out))⟩

end Go.Proofs.Ytlpnpnjjmpkapaa.PAll
