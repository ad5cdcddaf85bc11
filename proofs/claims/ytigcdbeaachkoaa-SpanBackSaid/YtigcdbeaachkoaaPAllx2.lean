-- Laid by the kit's print.py, called for several functions at once (our call).
import Derived.Test.YtigcdbeaachkoaaPAllx0
namespace Go.Proofs.Ytigcdbeaachkoaa.PAll
open Go.RowKit Go.Proofs.YtigcdbeaachkoaaW.PrintWords Go.Proofs.YtigcdbeaachkoaaW.PrintLast Go.Proofs.YtigcdbeaachkoaaW.PrintMore
attribute [local go_sem] max2_int min2_int max_two min_two max_three min_three max_four min_four   -- for this text's walks alone
set_option linter.unusedVariables false
set_option linter.unusedSimpArgs false

/-! ### stringslite_HasPrefix: function 43 -/
def stringslite_HasPrefix.f (a0 : ByteArray) (a1 : ByteArray) : Option (Bool) := if (a0.size : Int) ≥ (a1.size : Int) then (if 0 ≤ (a1.size : Int) then (if (a1.size : Int) ≤ (a0.size : Int) then (some ((a0.extract 0 ((a1.size : Int) : Int).toNat).toList == a1.toList)) else (none)) else (none)) else (some false)
set_option maxHeartbeats 40000000 in
set_option maxRecDepth 100000 in
theorem stringslite_HasPrefix.calls (a0 : ByteArray) (a1 : ByteArray) (r : Bool) (w : World) (h : stringslite_HasPrefix.f a0 a1 = some r) :
    Calls Try.prog 43 #[.string a0, .string a1] w fun e w' => e = .returned (.bool r) ∧ Drawn0 w w' := by
  have H : (if (a0.size : Int) ≥ (a1.size : Int) then (if 0 ≤ (a1.size : Int) then (if (a1.size : Int) ≤ (a0.size : Int) then (some ((a0.extract 0 ((a1.size : Int) : Int).toNat).toList == a1.toList)) else (none)) else (none)) else (some false)) = some r := h
  clear h
  by_cases c3 : (a0.size : Int) ≥ (a1.size : Int)
  · rw [if_pos c3] at H
    have c3b0 : decide ((a1.size : Int) ≤ (a0.size : Int)) = true := decide_eq_true c3
    have c3b1 : decide (a1.size ≤ a0.size) = true := decide_eq_true (Int.ofNat_le.mp c3)
    clear c3
    by_cases c4 : 0 ≤ (a1.size : Int)
    · rw [if_pos c4] at H
      have c4b0 := eq_true c4
      have c4b1 : decide (0 ≤ (a1.size : Int)) = true := decide_eq_true c4
      clear c4
      by_cases c5 : (a1.size : Int) ≤ (a0.size : Int)
      · rw [if_pos c5] at H
        have c5b0 := eq_true c5
        have c5b1 : decide ((a1.size : Int) ≤ (a0.size : Int)) = true := decide_eq_true c5
        clear c5
        obtain rfl := Option.some.inj H
        go_enter Try.func43, Try.ntmps43
        go_wp2
        go_ret
        exact ⟨by first | rfl | (simp; done) | (simp [*]; done), by repeat (first | exact Drawn0.refl _ | apply Drawn0.step)⟩
      · rw [if_neg c5] at H
        exact absurd H (by simp)
    · rw [if_neg c4] at H
      exact absurd H (by simp)
  · rw [if_neg c3] at H
    have c3b0 : decide ((a1.size : Int) ≤ (a0.size : Int)) = false := decide_eq_false c3
    have c3b1 : decide (a1.size ≤ a0.size) = false := decide_eq_false (fun h => c3 (Int.ofNat_le.mpr h))
    clear c3
    obtain rfl := Option.some.inj H
    go_enter Try.func43, Try.ntmps43
    go_wp2
    go_ret
    exact ⟨by first | rfl | (simp; done) | (simp [*]; done), by repeat (first | exact Drawn0.refl _ | apply Drawn0.step)⟩

/-! ### strings_HasPrefix: function 28 -/
def strings_HasPrefix.f (a0 : ByteArray) (a1 : ByteArray) : Option (Bool) := (stringslite_HasPrefix.f a0 a1).bind fun t101 => (some t101)
set_option maxHeartbeats 40000000 in
set_option maxRecDepth 100000 in
theorem strings_HasPrefix.calls (a0 : ByteArray) (a1 : ByteArray) (r : Bool) (w : World) (h : strings_HasPrefix.f a0 a1 = some r) :
    Calls Try.prog 28 #[.string a0, .string a1] w fun e w' => e = .returned (.bool r) ∧ Drawn0 w w' := by
  have H : ((stringslite_HasPrefix.f a0 a1).bind fun t101 => (some t101)) = some r := h
  clear h
  replace H := Option.bind_eq_some_iff.mp H
  obtain ⟨t101, A30, H⟩ := H
  replace H : (some t101) = some r := H
  have A3 := Aside0.mk A30
  clear A30
  obtain rfl := Option.some.inj H
  go_enter Try.func28, Try.ntmps28
  go_wp2_with (first | ((with_reducible refine gate_callee (f := 43) rfl ?_); refine goesL_ (some 7) rfl rfl Try.func43 (by kernel_rfl) rfl #[.string a0, .string a1] rfl (by (try simp only [List.map_toArray, List.map_cons, List.map_nil]); first | done | rfl | (simp only [List.length_drop, List.length_take]; rfl)) ?_; (with_reducible refine (stringslite_HasPrefix.calls a0 a1 t101 _ A3.out).mono ?_); rintro e w' ⟨rfl, ⟨nd, rfl⟩⟩; refine ⟨_, rfl, ?_⟩))
  go_ret
  exact ⟨by first | rfl | (simp; done) | (simp [*]; done), by repeat (first | exact Drawn0.refl _ | apply Drawn0.step)⟩

/-! ### span_Name: function 12 -/
/-- span.Name: is the rune at a place one that no name has? -/
def span_Name.bad (s : ByteArray) (pos : Nat) : Bool :=
  decide ((Utf8.decode s pos).1 < 32) || (decide (127 ≤ (Utf8.decode s pos).1) && decide ((Utf8.decode s pos).1 ≤ 159)) || (decide ((Utf8.decode s pos).1 = 65533) && !(decide (strings_HasPrefix.f (s.extract pos s.size) ⟨#[239, 191, 189]⟩ = some true)))
def span_Name.l (s : ByteArray) : Nat → Nat → Int
  | 0, _ => 0
  | b + 1, pos => if pos < s.size then (if span_Name.bad s pos = true then 5 else span_Name.l s b (pos + (Utf8.decode s pos).2)) else 0
def span_Name.f (a0 : ByteArray) : Option Int := some (if a0.toList = [] ∨ 32 < a0.size then 5 else span_Name.l a0 a0.size 0)
theorem span_Name.width (s : ByteArray) (pos : Nat) (h : pos < s.size) : 1 ≤ (Utf8.decode s pos).2 := by
  by_cases ha : (s[pos]'h).toNat < 128
  · rw [decode_ascii s pos h ha]
    exact Nat.le_refl _
  · exact (decode_high s pos h (by omega)).2
theorem span_Name.pre (a b : ByteArray) : ∃ r, strings_HasPrefix.f a b = some r := by
  unfold strings_HasPrefix.f stringslite_HasPrefix.f
  by_cases h : (a.size : Int) ≥ (b.size : Int)
  · rw [if_pos h, if_pos (by omega), if_pos (by omega)]; exact ⟨_, rfl⟩
  · rw [if_neg h]; exact ⟨_, rfl⟩
set_option maxHeartbeats 4000000 in
set_option maxRecDepth 100000 in
theorem span_Name.calls (a0 : ByteArray) (r : Int) (w : World) (h : span_Name.f a0 = some r) :
    Calls Try.prog 12 #[.string a0] w fun e w' => e = .returned (.int .i64 r) ∧ Below w.heap.size w w' := by
  obtain rfl := Option.some.inj h
  clear h
  by_cases c0 : a0.toList = []
  · rw [if_pos (.inl c0)]
    have hem : a0.toList.isEmpty = true := by simpa using c0
    go_enter Try.func12, Try.ntmps12
    go_wp2
    go_ret
    exact ⟨rfl, Below.refl _ _⟩
  · have hem : a0.toList.isEmpty = false := by simpa using c0
    by_cases c1 : 32 < a0.size
    · rw [if_pos (.inr c1)]
      have c1b : decide (32 < (a0.size : Int)) = true := decide_eq_true (by omega)
      go_enter Try.func12, Try.ntmps12
      go_wp2
      go_ret
      exact ⟨rfl, Below.refl _ _⟩
    · rw [if_neg (fun hh => hh.elim c0 c1)]
      have c1b : decide (32 < (a0.size : Int)) = false := decide_eq_false (by omega)
      have c1c : ¬ (32 < (a0.size : Int)) := by omega
      go_enter Try.func12, Try.ntmps12
      go_wp2
      go_loopw [] (fun w' => ∃ (pos b : Nat), w'.heap[w.heap.size]? = some (.stringIter a0 pos) ∧ Below w.heap.size w w' ∧ span_Name.l a0 b pos = span_Name.l a0 a0.size 0 ∧ a0.size ≤ pos + b) (fun w' => a0.size - w'.iterPos w.heap.size)
      case atStart => exact ⟨0, a0.size, World.iter_heap _ _ _, below_alloc (Below.refl _ _) _, rfl, by omega⟩
      case round =>
        obtain ⟨pos, b, hk, hB, hl, hb⟩ := hrel
        by_cases hp : pos < a0.size
        · have hnx := fun ty => Go.Lib.run_next_any_at (P := Try.prog) wr w.heap.size a0 pos ty hk hp
          have hwd := span_Name.width a0 pos hp
          obtain ⟨b, rfl⟩ : ∃ j, b = j + 1 := ⟨b - 1, by omega⟩
          have h5 : span_Name.bad a0 pos = true → span_Name.l a0 a0.size 0 = 5 := fun g => by rw [← hl]; simp [span_Name.l, hp, g]
          have h0 : span_Name.bad a0 pos = false → span_Name.l a0 b (pos + (Utf8.decode a0 pos).2) = span_Name.l a0 a0.size 0 := fun g => by rw [← hl]; simp [span_Name.l, hp, g]
          have hB2 := Go.Lib.below_iterAt hB (Nat.le_refl _) a0 (pos + (Utf8.decode a0 pos).2)
          have hk2 := Go.Lib.iterAt_heap wr w.heap.size a0 pos (pos + (Utf8.decode a0 pos).2) hk
          have H5 := Aside0.mk h5
          have H0 := Aside0.mk h0
          have HB2 := Aside0.mk hB2
          have HK2 := Aside0.mk hk2
          have HWD := Aside0.mk hwd
          have HL := Aside0.mk hl
          have HB := Aside0.mk hB
          have HK := Aside0.mk hk
          clear h5 h0 hB2 hk2 hwd hl hB hk
          by_cases d0 : ((Utf8.decode a0 pos).1 : Int) < 32
          · go_wp2
            go_ret
            have g : (Utf8.decode a0 pos).1 < 32 := by omega
            exact ⟨by rw [H5.out (by simp [span_Name.bad, g])]; rfl, HB2.out⟩
          · have d0b : decide (((Utf8.decode a0 pos).1 : Int) < 32) = false := decide_eq_false d0
            have g0 : ¬ (Utf8.decode a0 pos).1 < 32 := by omega
            by_cases d1 : (127 : Int) ≤ ((Utf8.decode a0 pos).1 : Int)
            · have d1b : decide ((127 : Int) ≤ ((Utf8.decode a0 pos).1 : Int)) = true := decide_eq_true d1
              have g1 : 127 ≤ (Utf8.decode a0 pos).1 := by omega
              by_cases d2 : ((Utf8.decode a0 pos).1 : Int) ≤ 159
              · have d2b : decide (((Utf8.decode a0 pos).1 : Int) ≤ 159) = true := decide_eq_true d2
                have g2 : (Utf8.decode a0 pos).1 ≤ 159 := by omega
                go_wp2
                go_ret
                exact ⟨by rw [H5.out (by simp [span_Name.bad, g1, g2])]; rfl, HB2.out⟩
              · have d2b : decide (((Utf8.decode a0 pos).1 : Int) ≤ 159) = false := decide_eq_false d2
                have g2 : ¬ (Utf8.decode a0 pos).1 ≤ 159 := by omega
                by_cases d3 : ((Utf8.decode a0 pos).1 : Int) = 65533
                · have d3b : decide (((Utf8.decode a0 pos).1 : Int) = 65533) = true := decide_eq_true d3
                  obtain ⟨t, ht⟩ := span_Name.pre (a0.extract pos a0.size) ⟨#[239, 191, 189]⟩
                  have HT := Aside0.mk ht
                  clear ht
                  cases t with
                  | false =>
                    go_wp2_with (go_at_call 28; refine (strings_HasPrefix.calls _ _ false _ HT.out).mono ?_; rintro e w1 ⟨rfl, hD⟩; have HD := Aside0.mk hD; clear hD)
                    go_ret
                    have g3 : (Utf8.decode a0 pos).1 = 65533 := by omega
                    exact ⟨by rw [H5.out (by simp [span_Name.bad, g3, HT.out])]; rfl, below_step HB2.out (Drawn0.below HD.out)⟩
                  | true =>
                    go_wp2_with (go_at_call 28; refine (strings_HasPrefix.calls _ _ true _ HT.out).mono ?_; rintro e w1 ⟨rfl, hD⟩; have HD := Aside0.mk hD; clear hD)
                    go_roundw
                    case rel => exact ⟨_, b, blk_below HK2.out (Drawn0.below HD.out), below_step HB2.out (Drawn0.below HD.out), H0.out (by simp [span_Name.bad, g0, g2, HT.out]), by have := HWD.out; omega⟩
                    case measure =>
                      have := HWD.out
                      have e2 : w1.heap[w.heap.size]? = some (.stringIter a0 (pos + (Utf8.decode a0 pos).2)) := blk_below HK2.out (Drawn0.below HD.out)
                      simp only [World.iterPos, e2, HK.out]
                      omega
                · have d3b : decide (((Utf8.decode a0 pos).1 : Int) = 65533) = false := decide_eq_false d3
                  have g3 : ¬ (Utf8.decode a0 pos).1 = 65533 := by omega
                  go_wp2
                  go_roundw
                  case rel => exact ⟨_, b, HK2.out, HB2.out, H0.out (by simp [span_Name.bad, g0, g2, g3]), by have := HWD.out; omega⟩
                  case measure =>
                    have := HWD.out
                    simp only [World.iterPos, HK2.out, HK.out]
                    omega
            · have d1b : decide ((127 : Int) ≤ ((Utf8.decode a0 pos).1 : Int)) = false := decide_eq_false d1
              have g1 : ¬ 127 ≤ (Utf8.decode a0 pos).1 := by omega
              have d3b : decide (((Utf8.decode a0 pos).1 : Int) = 65533) = false := decide_eq_false (by omega)
              have d3 : ¬ ((Utf8.decode a0 pos).1 : Int) = 65533 := by omega
              have g3 : ¬ (Utf8.decode a0 pos).1 = 65533 := by omega
              go_wp2
              go_roundw
              case rel => exact ⟨_, b, HK2.out, HB2.out, H0.out (by simp [span_Name.bad, g0, g1, g3]), by have := HWD.out; omega⟩
              case measure =>
                have := HWD.out
                simp only [World.iterPos, HK2.out, HK.out]
                omega
        · have hnx := fun ty => Go.Lib.run_next_end_at (P := Try.prog) wr w.heap.size a0 pos ty hk hp
          have he : span_Name.l a0 a0.size 0 = 0 := by
            rw [← hl]
            cases b with
            | zero => rfl
            | succ b => simp [span_Name.l, hp]
          go_wp2
          go_ret
          exact ⟨by rw [he]; rfl, hB⟩


/-! ### winnowref03_Rune: function 44 -/
mutual
def winnowref03_Rune.j2 : Nat → ByteArray → Int → Int → Int → Option (Int × Int)
  | 0, _, _, _, _ => none
  | k + 1, x0, x5, x6, x7 => if x5 = 0 then (winnowref03_Rune.j3 k x0 x5 x6 x7 true) else (winnowref03_Rune.j3 k x0 x5 x6 x7 (decide ((x0.size : Int) < x5)))
def winnowref03_Rune.j3 : Nat → ByteArray → Int → Int → Int → Bool → Option (Int × Int)
  | 0, _, _, _, _, _ => none
  | k + 1, x0, x5, x6, x7, x55 => if x55 = true then (some (0, 0)) else (winnowref03_Rune.l0 k x0 x5 x6 x7 1)
def winnowref03_Rune.l0 : Nat → ByteArray → Int → Int → Int → Int → Option (Int × Int)
  | 0, _, _, _, _, _ => none
  | k + 1, x0, x5, x6, x7, x8 => if x8 < x5 then (if 0 ≤ x8 then (if x8 < (x0.size : Int) then (if (bt x0 x8) < 128 then (some (0, 0)) else (if (bt x0 x8) > 191 then (some (0, 0)) else (winnowref03_Rune.l0 k x0 x5 x6 (wrap32 ((wrap32 ((wrap32 (x7 * 64)) + (wrap32 (bt x0 x8)))) - 128)) (wrap64 (x8 + 1))))) else (none)) else (none)) else (if x7 < x6 then (some (0, 0)) else (if x7 > 1114111 then (some (0, 0)) else (if x7 ≥ 55296 then (if x7 ≤ 57343 then (some (0, 0)) else (some (x7, x5))) else (some (x7, x5)))))
def winnowref03_Rune.j0 : Nat → ByteArray → Int → Int → Int → Int → Bool → Option (Int × Int)
  | 0, _, _, _, _, _, _ => none
  | k + 1, x0, x4, x5, x6, x7, x18 => if x18 = true then (winnowref03_Rune.j2 k x0 2 128 (wrap32 ((wrap32 (x4)) - 192))) else (if x4 ≥ 224 then (winnowref03_Rune.j1 k x0 x4 x5 x6 x7 (decide (x4 ≤ 239))) else (winnowref03_Rune.j1 k x0 x4 x5 x6 x7 false))
def winnowref03_Rune.j1 : Nat → ByteArray → Int → Int → Int → Int → Bool → Option (Int × Int)
  | 0, _, _, _, _, _, _ => none
  | k + 1, x0, x4, x5, x6, x7, x28 => if x28 = true then (winnowref03_Rune.j2 k x0 3 2048 (wrap32 ((wrap32 (x4)) - 224))) else (if x4 ≥ 240 then (if x4 ≤ 244 then (winnowref03_Rune.j2 k x0 4 65536 (wrap32 ((wrap32 (x4)) - 240))) else (winnowref03_Rune.j2 k x0 x5 x6 x7)) else (winnowref03_Rune.j2 k x0 x5 x6 x7))
end
def winnowref03_Rune.f (k : Nat) (a0 : ByteArray) : Option (Int × Int) := if (a0.size : Int) = 0 then (some (0, 0)) else (if 0 < (a0.size : Int) then (if (bt a0 0) < 128 then (some (wrap32 (bt a0 0), 1)) else (if (bt a0 0) ≥ 194 then (winnowref03_Rune.j0 k a0 (bt a0 0) 0 0 0 (decide ((bt a0 0) ≤ 223))) else (winnowref03_Rune.j0 k a0 (bt a0 0) 0 0 0 false))) else (none))
theorem winnowref03_Rune.mono_l : ∀ k, (∀ y0 y1 y2 y3, LeO (winnowref03_Rune.j2 k y0 y1 y2 y3) (winnowref03_Rune.j2 (k + 1) y0 y1 y2 y3)) ∧ (∀ y0 y1 y2 y3 y4, LeO (winnowref03_Rune.j3 k y0 y1 y2 y3 y4) (winnowref03_Rune.j3 (k + 1) y0 y1 y2 y3 y4)) ∧ (∀ y0 y1 y2 y3 y4, LeO (winnowref03_Rune.l0 k y0 y1 y2 y3 y4) (winnowref03_Rune.l0 (k + 1) y0 y1 y2 y3 y4)) ∧ (∀ y0 y1 y2 y3 y4 y5, LeO (winnowref03_Rune.j0 k y0 y1 y2 y3 y4 y5) (winnowref03_Rune.j0 (k + 1) y0 y1 y2 y3 y4 y5)) ∧ (∀ y0 y1 y2 y3 y4 y5, LeO (winnowref03_Rune.j1 k y0 y1 y2 y3 y4 y5) (winnowref03_Rune.j1 (k + 1) y0 y1 y2 y3 y4 y5))
  | 0 => ⟨fun _ _ _ _ r h => by simp [winnowref03_Rune.j2] at h, fun _ _ _ _ _ r h => by simp [winnowref03_Rune.j3] at h, fun _ _ _ _ _ r h => by simp [winnowref03_Rune.l0] at h, fun _ _ _ _ _ _ r h => by simp [winnowref03_Rune.j0] at h, fun _ _ _ _ _ _ r h => by simp [winnowref03_Rune.j1] at h⟩
  | k + 1 => by
    obtain ⟨ih0, ih1, ih2, ih3, ih4⟩ := winnowref03_Rune.mono_l k
    refine ⟨?_, ?_, ?_, ?_, ?_⟩
    · intro y0 y1 y2 y3
      unfold winnowref03_Rune.j2
      repeat' first
      | (with_reducible exact ih0 _ _ _ _)
      | (with_reducible exact ih1 _ _ _ _ _)
      | (with_reducible exact ih2 _ _ _ _ _)
      | (with_reducible exact ih3 _ _ _ _ _ _)
      | (with_reducible exact ih4 _ _ _ _ _ _)
      | (with_reducible exact LeO.refl _)
      | (with_reducible exact LeO.none _)
      | (with_reducible refine LeO.ite ?_ ?_)
      | (with_reducible refine LeO.bind ?_ (fun _ => ?_))
      | exact ih0 _ _ _ _
      | exact ih1 _ _ _ _ _
      | exact ih2 _ _ _ _ _
      | exact ih3 _ _ _ _ _ _
      | exact ih4 _ _ _ _ _ _
      | exact LeO.none _
      | refine LeO.ite ?_ ?_
      | refine LeO.bind ?_ (fun _ => ?_)
    · intro y0 y1 y2 y3 y4
      unfold winnowref03_Rune.j3
      repeat' first
      | (with_reducible exact ih0 _ _ _ _)
      | (with_reducible exact ih1 _ _ _ _ _)
      | (with_reducible exact ih2 _ _ _ _ _)
      | (with_reducible exact ih3 _ _ _ _ _ _)
      | (with_reducible exact ih4 _ _ _ _ _ _)
      | (with_reducible exact LeO.refl _)
      | (with_reducible exact LeO.none _)
      | (with_reducible refine LeO.ite ?_ ?_)
      | (with_reducible refine LeO.bind ?_ (fun _ => ?_))
      | exact ih0 _ _ _ _
      | exact ih1 _ _ _ _ _
      | exact ih2 _ _ _ _ _
      | exact ih3 _ _ _ _ _ _
      | exact ih4 _ _ _ _ _ _
      | exact LeO.none _
      | refine LeO.ite ?_ ?_
      | refine LeO.bind ?_ (fun _ => ?_)
    · intro y0 y1 y2 y3 y4
      unfold winnowref03_Rune.l0
      repeat' first
      | (with_reducible exact ih0 _ _ _ _)
      | (with_reducible exact ih1 _ _ _ _ _)
      | (with_reducible exact ih2 _ _ _ _ _)
      | (with_reducible exact ih3 _ _ _ _ _ _)
      | (with_reducible exact ih4 _ _ _ _ _ _)
      | (with_reducible exact LeO.refl _)
      | (with_reducible exact LeO.none _)
      | (with_reducible refine LeO.ite ?_ ?_)
      | (with_reducible refine LeO.bind ?_ (fun _ => ?_))
      | exact ih0 _ _ _ _
      | exact ih1 _ _ _ _ _
      | exact ih2 _ _ _ _ _
      | exact ih3 _ _ _ _ _ _
      | exact ih4 _ _ _ _ _ _
      | exact LeO.none _
      | refine LeO.ite ?_ ?_
      | refine LeO.bind ?_ (fun _ => ?_)
    · intro y0 y1 y2 y3 y4 y5
      unfold winnowref03_Rune.j0
      repeat' first
      | (with_reducible exact ih0 _ _ _ _)
      | (with_reducible exact ih1 _ _ _ _ _)
      | (with_reducible exact ih2 _ _ _ _ _)
      | (with_reducible exact ih3 _ _ _ _ _ _)
      | (with_reducible exact ih4 _ _ _ _ _ _)
      | (with_reducible exact LeO.refl _)
      | (with_reducible exact LeO.none _)
      | (with_reducible refine LeO.ite ?_ ?_)
      | (with_reducible refine LeO.bind ?_ (fun _ => ?_))
      | exact ih0 _ _ _ _
      | exact ih1 _ _ _ _ _
      | exact ih2 _ _ _ _ _
      | exact ih3 _ _ _ _ _ _
      | exact ih4 _ _ _ _ _ _
      | exact LeO.none _
      | refine LeO.ite ?_ ?_
      | refine LeO.bind ?_ (fun _ => ?_)
    · intro y0 y1 y2 y3 y4 y5
      unfold winnowref03_Rune.j1
      repeat' first
      | (with_reducible exact ih0 _ _ _ _)
      | (with_reducible exact ih1 _ _ _ _ _)
      | (with_reducible exact ih2 _ _ _ _ _)
      | (with_reducible exact ih3 _ _ _ _ _ _)
      | (with_reducible exact ih4 _ _ _ _ _ _)
      | (with_reducible exact LeO.refl _)
      | (with_reducible exact LeO.none _)
      | (with_reducible refine LeO.ite ?_ ?_)
      | (with_reducible refine LeO.bind ?_ (fun _ => ?_))
      | exact ih0 _ _ _ _
      | exact ih1 _ _ _ _ _
      | exact ih2 _ _ _ _ _
      | exact ih3 _ _ _ _ _ _
      | exact ih4 _ _ _ _ _ _
      | exact LeO.none _
      | refine LeO.ite ?_ ?_
      | refine LeO.bind ?_ (fun _ => ?_)
theorem winnowref03_Rune.mono : ∀ a0 k, LeO (winnowref03_Rune.f k a0) (winnowref03_Rune.f (k + 1) a0) := by
  intro a0 k
  obtain ⟨ih0, ih1, ih2, ih3, ih4⟩ := winnowref03_Rune.mono_l k
  unfold winnowref03_Rune.f
  repeat' first
      | (with_reducible exact ih0 _ _ _ _)
      | (with_reducible exact ih1 _ _ _ _ _)
      | (with_reducible exact ih2 _ _ _ _ _)
      | (with_reducible exact ih3 _ _ _ _ _ _)
      | (with_reducible exact ih4 _ _ _ _ _ _)
      | (with_reducible exact LeO.refl _)
      | (with_reducible exact LeO.none _)
      | (with_reducible refine LeO.ite ?_ ?_)
      | (with_reducible refine LeO.bind ?_ (fun _ => ?_))
      | exact ih0 _ _ _ _
      | exact ih1 _ _ _ _ _
      | exact ih2 _ _ _ _ _
      | exact ih3 _ _ _ _ _ _
      | exact ih4 _ _ _ _ _ _
      | exact LeO.none _
      | refine LeO.ite ?_ ?_
      | refine LeO.bind ?_ (fun _ => ?_)
set_option maxHeartbeats 40000000 in
set_option maxRecDepth 100000 in
theorem winnowref03_Rune.calls (k : Nat) (a0 : ByteArray) (r1 : Int) (r2 : Int) (w : World) (h : winnowref03_Rune.f k a0 = some (r1, r2)) :
    Calls Try.prog 44 #[.string a0] w fun e w' => e = .returned (.tuple #[.int .i32 r1, .int .i64 r2]) ∧ Drawn0 w w' := by
  have H : (if (a0.size : Int) = 0 then (some (0, 0)) else (if 0 < (a0.size : Int) then (if (bt a0 0) < 128 then (some (wrap32 (bt a0 0), 1)) else (if (bt a0 0) ≥ 194 then (winnowref03_Rune.j0 k a0 (bt a0 0) 0 0 0 (decide ((bt a0 0) ≤ 223))) else (winnowref03_Rune.j0 k a0 (bt a0 0) 0 0 0 false))) else (none))) = some (r1, r2) := h
  clear h
  by_cases c2 : (a0.size : Int) = 0
  · rw [if_pos c2] at H
    have c2b0 : ((a0.size : Int) == 0) = true := beq_iff_eq.mpr c2
    have c2b1 : ((a0.size : Int) != 0) = false := bne_eq_false_iff_eq.mpr c2
    clear c2
    simp only [Option.some.injEq, Prod.mk.injEq] at H
    obtain ⟨rfl, rfl⟩ := H
    go_enter Try.func44, Try.ntmps44
    go_wp2
    go_ret2
    exact ⟨by first | rfl | (simp; done) | (simp [*]; done), by repeat (first | exact Drawn0.refl _ | apply Drawn0.step)⟩
  · rw [if_neg c2] at H
    have c2b0 : ((a0.size : Int) == 0) = false := beq_eq_false_iff_ne.mpr c2
    have c2b1 : ((a0.size : Int) != 0) = true := bne_iff_ne.mpr c2
    by_cases c3 : 0 < (a0.size : Int)
    · rw [if_pos c3] at H
      have c3b0 : decide (0 < (a0.size : Int)) = true := decide_eq_true c3
      have c3b1 : decide (0 < a0.size) = true := decide_eq_true (by omega)
      clear c3
      by_cases c5 : (bt a0 0) < 128
      · rw [if_pos c5] at H
        have c5b0 : decide ((bt a0 0) < 128) = true := decide_eq_true c5
        clear c5
        simp only [Option.some.injEq, Prod.mk.injEq] at H
        obtain ⟨rfl, rfl⟩ := H
        have p4 : 0 ≤ (0 : Int) := (by omega)
        have q4 : 0 < a0.size := (by have : (0 : Int) < (a0.size : Int) := of_decide_eq_true (by first | (with_reducible assumption) | assumption); omega)
        have hx4 : ∀ h : 0 < a0.size, ((a0[0]'h).toNat : Int) = bt a0 0 := bt_at a0 0
        clear p4
        have qi4 : (0 < (a0.size : Int)) = True := eq_true (of_decide_eq_true (by first | (with_reducible assumption) | assumption))
        replace q4 := eq_true q4
        go_enter Try.func44, Try.ntmps44
        go_wp2
        go_ret2
        exact ⟨by first | rfl | (simp; done) | (simp [*]; done), by repeat (first | exact Drawn0.refl _ | apply Drawn0.step)⟩
      · rw [if_neg c5] at H
        have c5b0 : decide ((bt a0 0) < 128) = false := decide_eq_false c5
        clear c5
        have HC6 := Aside0.mk H
        clear H
        have p4 : 0 ≤ (0 : Int) := (by omega)
        have q4 : 0 < a0.size := (by have : (0 : Int) < (a0.size : Int) := of_decide_eq_true (by first | (with_reducible assumption) | assumption); omega)
        have hx4 : ∀ h : 0 < a0.size, ((a0[0]'h).toNat : Int) = bt a0 0 := bt_at a0 0
        clear p4
        have qi4 : (0 < (a0.size : Int)) = True := eq_true (of_decide_eq_true (by first | (with_reducible assumption) | assumption))
        replace q4 := eq_true q4
        go_enter Try.func44, Try.ntmps44
        go_upto_block 0 with (fail)
        go_cut [5, 6, 7] (fun v5 v6 v7 wc => ∃ (kq : Nat) (x5_5 : Int) (x6_5 : Int) (x7_5 : Int), v5 = .int .i64 x5_5 ∧ v6 = .int .i32 x6_5 ∧ v7 = .int .i32 x7_5 ∧ Aside0 (winnowref03_Rune.j2 kq a0 x5_5 x6_5 x7_5 = some (r1, r2)) ∧ Aside0 (kq ≤ k) ∧ Drawn0 w wc)
        case first =>
          have H := HC6.out
          clear HC6
          have HC7 := Aside0.mk H
          clear H
          go_upto_region 7 with (fail)
          go_cut [18] (fun v18 wc => ∃ (kq : Nat) (x18_6 : Bool), v18 = .bool x18_6 ∧ Aside0 (winnowref03_Rune.j0 kq a0 (bt a0 0) 0 0 0 x18_6 = some (r1, r2)) ∧ Aside0 (kq ≤ k) ∧ Drawn0 w wc)
          case first =>
            have H := HC7.out
            clear HC7
            by_cases c8 : (bt a0 0) ≥ 194
            · rw [if_pos c8] at H
              have c8b0 : decide (194 ≤ (bt a0 0)) = true := decide_eq_true c8
              clear c8
              (first | rw [c8b0] | (simp only [i64_w, i32_w]; rw [c8b0]) | skip)
              have H' := Aside0.mk H
              clear H
              go_wp2
              go_meet
              case rel => exact ⟨_, (decide ((bt a0 0) ≤ 223)), (by first | rfl | (simp; done) | (simp [*]; done)), H', ⟨by first | omega | exact Nat.le_refl _⟩, by repeat (first | exact Drawn0.refl _ | apply Drawn0.step)⟩
            · rw [if_neg c8] at H
              have c8b0 : decide (194 ≤ (bt a0 0)) = false := decide_eq_false c8
              clear c8
              (first | rw [c8b0] | (simp only [i64_w, i32_w]; rw [c8b0]) | skip)
              have H' := Aside0.mk H
              clear H
              go_wp2
              go_meet
              case rel => exact ⟨_, (false), (by first | rfl | (simp; done) | (simp [*]; done)), H', ⟨by first | omega | exact Nat.le_refl _⟩, by repeat (first | exact Drawn0.refl _ | apply Drawn0.step)⟩
          case rest =>
            clear HC7
            try clear c2
            try clear c2b0
            try clear c2b1
            try clear p2
            try clear c3
            try clear c3b0
            try clear c3b1
            try clear p3
            try clear c4
            try clear p4
            try clear q4
            try clear hx4
            try clear qi4
            try clear c5
            try clear c5b0
            try clear c8
            try clear c8b0
            try clear p4
            try clear q4
            obtain ⟨kq, x18_6, rfl, HA, HJ6, ⟨mc6, rfl⟩⟩ := hcut
            cases kq with
            | zero => exact absurd HA.out (by simp [winnowref03_Rune.j0])
            | succ kj6 =>
              have H := HA.out
              clear HA
              simp only [winnowref03_Rune.j0] at H
              by_cases c9 : x18_6 = true
              · subst c9
                have H1 : (winnowref03_Rune.j2 kj6 a0 2 128 (wrap32 ((wrap32 ((bt a0 0))) - 192))) = some (r1, r2) := by rw [if_pos rfl] at H; exact H
                clear H
                have H := H1
                clear H1
                have H' := Aside0.mk H
                clear H
                go_wp2
                go_meet
                case rel => exact ⟨_, (2), (128), (wrap32 ((wrap32 ((bt a0 0))) - 192)), (by first | rfl | (simp; done) | (simp [*]; done)), (by first | rfl | (simp; done) | (simp [*]; done)), (by first | rfl | (simp; done) | (simp [*]; done)), H', ⟨by have := HJ6.out; first | omega | exact Nat.le_refl _⟩, by repeat (first | exact Drawn0.refl _ | apply Drawn0.step)⟩
              · replace c9 := Bool.eq_false_iff.mpr c9
                subst c9
                have H1 : (if (bt a0 0) ≥ 224 then (winnowref03_Rune.j1 kj6 a0 (bt a0 0) 0 0 0 (decide ((bt a0 0) ≤ 239))) else (winnowref03_Rune.j1 kj6 a0 (bt a0 0) 0 0 0 false)) = some (r1, r2) := by rw [if_neg (show ¬ (false = true) by decide)] at H; exact H
                clear H
                have H := H1
                clear H1
                have HC10 := Aside0.mk H
                clear H
                go_upto_region 9 with (fail)
                go_cut [28] (fun v28 wc => ∃ (kq : Nat) (x28_9 : Bool), v28 = .bool x28_9 ∧ Aside0 (winnowref03_Rune.j1 kq a0 (bt a0 0) 0 0 0 x28_9 = some (r1, r2)) ∧ Aside0 (kq ≤ kj6) ∧ Drawn0 w wc)
                case first =>
                  have H := HC10.out
                  clear HC10
                  by_cases c11 : (bt a0 0) ≥ 224
                  · rw [if_pos c11] at H
                    have c11b0 : decide (224 ≤ (bt a0 0)) = true := decide_eq_true c11
                    clear c11
                    (first | rw [c11b0] | (simp only [i64_w, i32_w]; rw [c11b0]) | skip)
                    have H' := Aside0.mk H
                    clear H
                    go_wp2
                    go_meet
                    case rel => exact ⟨_, (decide ((bt a0 0) ≤ 239)), (by first | rfl | (simp; done) | (simp [*]; done)), H', ⟨by have := HJ6.out; first | omega | exact Nat.le_refl _⟩, by repeat (first | exact Drawn0.refl _ | apply Drawn0.step)⟩
                  · rw [if_neg c11] at H
                    have c11b0 : decide (224 ≤ (bt a0 0)) = false := decide_eq_false c11
                    clear c11
                    (first | rw [c11b0] | (simp only [i64_w, i32_w]; rw [c11b0]) | skip)
                    have H' := Aside0.mk H
                    clear H
                    go_wp2
                    go_meet
                    case rel => exact ⟨_, (false), (by first | rfl | (simp; done) | (simp [*]; done)), H', ⟨by have := HJ6.out; first | omega | exact Nat.le_refl _⟩, by repeat (first | exact Drawn0.refl _ | apply Drawn0.step)⟩
                case rest =>
                  clear HC10
                  try clear c1
                  try clear c2
                  try clear c2b0
                  try clear c2b1
                  try clear p2
                  try clear c3
                  try clear c3b0
                  try clear c3b1
                  try clear p3
                  try clear c4
                  try clear p4
                  try clear q4
                  try clear hx4
                  try clear qi4
                  try clear c5
                  try clear c5b0
                  try clear c6
                  try clear c8
                  try clear c8b0
                  try clear c9
                  try clear c11
                  try clear c11b0
                  try clear p2
                  try clear p3
                  try clear p4
                  try clear q4
                  obtain ⟨kq, x28_9, rfl, HA, HJ9, ⟨mc9, rfl⟩⟩ := hcut
                  cases kq with
                  | zero => exact absurd HA.out (by simp [winnowref03_Rune.j1])
                  | succ kj9 =>
                    have H := HA.out
                    clear HA
                    simp only [winnowref03_Rune.j1] at H
                    by_cases c12 : x28_9 = true
                    · subst c12
                      have H1 : (winnowref03_Rune.j2 kj9 a0 3 2048 (wrap32 ((wrap32 ((bt a0 0))) - 224))) = some (r1, r2) := by rw [if_pos rfl] at H; exact H
                      clear H
                      have H := H1
                      clear H1
                      have H' := Aside0.mk H
                      clear H
                      go_wp2
                      go_meet
                      case rel => exact ⟨_, (3), (2048), (wrap32 ((wrap32 ((bt a0 0))) - 224)), (by first | rfl | (simp; done) | (simp [*]; done)), (by first | rfl | (simp; done) | (simp [*]; done)), (by first | rfl | (simp; done) | (simp [*]; done)), H', ⟨by have := HJ6.out; have := HJ9.out; first | omega | exact Nat.le_refl _⟩, by repeat (first | exact Drawn0.refl _ | apply Drawn0.step)⟩
                    · replace c12 := Bool.eq_false_iff.mpr c12
                      subst c12
                      have H1 : (if (bt a0 0) ≥ 240 then (if (bt a0 0) ≤ 244 then (winnowref03_Rune.j2 kj9 a0 4 65536 (wrap32 ((wrap32 ((bt a0 0))) - 240))) else (winnowref03_Rune.j2 kj9 a0 0 0 0)) else (winnowref03_Rune.j2 kj9 a0 0 0 0)) = some (r1, r2) := by rw [if_neg (show ¬ (false = true) by decide)] at H; exact H
                      clear H
                      have H := H1
                      clear H1
                      by_cases c13 : (bt a0 0) ≥ 240
                      · rw [if_pos c13] at H
                        have c13b0 : decide (240 ≤ (bt a0 0)) = true := decide_eq_true c13
                        clear c13
                        by_cases c14 : (bt a0 0) ≤ 244
                        · rw [if_pos c14] at H
                          have c14b0 : decide ((bt a0 0) ≤ 244) = true := decide_eq_true c14
                          clear c14
                          have H' := Aside0.mk H
                          clear H
                          go_wp2
                          go_meet
                          case rel => exact ⟨_, (4), (65536), (wrap32 ((wrap32 ((bt a0 0))) - 240)), (by first | rfl | (simp; done) | (simp [*]; done)), (by first | rfl | (simp; done) | (simp [*]; done)), (by first | rfl | (simp; done) | (simp [*]; done)), H', ⟨by have := HJ6.out; have := HJ9.out; first | omega | exact Nat.le_refl _⟩, by repeat (first | exact Drawn0.refl _ | apply Drawn0.step)⟩
                        · rw [if_neg c14] at H
                          have c14b0 : decide ((bt a0 0) ≤ 244) = false := decide_eq_false c14
                          clear c14
                          have H' := Aside0.mk H
                          clear H
                          go_wp2
                          go_meet
                          case rel => exact ⟨_, (0), (0), (0), (by first | rfl | (simp; done) | (simp [*]; done)), (by first | rfl | (simp; done) | (simp [*]; done)), (by first | rfl | (simp; done) | (simp [*]; done)), H', ⟨by have := HJ6.out; have := HJ9.out; first | omega | exact Nat.le_refl _⟩, by repeat (first | exact Drawn0.refl _ | apply Drawn0.step)⟩
                      · rw [if_neg c13] at H
                        have c13b0 : decide (240 ≤ (bt a0 0)) = false := decide_eq_false c13
                        clear c13
                        have H' := Aside0.mk H
                        clear H
                        go_wp2
                        go_meet
                        case rel => exact ⟨_, (0), (0), (0), (by first | rfl | (simp; done) | (simp [*]; done)), (by first | rfl | (simp; done) | (simp [*]; done)), (by first | rfl | (simp; done) | (simp [*]; done)), H', ⟨by have := HJ6.out; have := HJ9.out; first | omega | exact Nat.le_refl _⟩, by repeat (first | exact Drawn0.refl _ | apply Drawn0.step)⟩
        case rest =>
          clear HC6
          try clear c1
          try clear c2
          try clear c2b0
          try clear c2b1
          try clear p2
          try clear c3
          try clear c3b0
          try clear c3b1
          try clear p3
          try clear c4
          try clear p4
          try clear q4
          try clear hx4
          try clear qi4
          try clear c5
          try clear c5b0
          try clear c6
          try clear c8
          try clear c8b0
          try clear c9
          try clear c11
          try clear c11b0
          try clear c12
          try clear c13
          try clear c13b0
          try clear c14
          try clear c14b0
          try clear p2
          try clear p3
          try clear p4
          try clear q4
          obtain ⟨kq, x5_5, x6_5, x7_5, rfl, rfl, rfl, HA, HJ5, ⟨mc5, rfl⟩⟩ := hcut
          cases kq with
          | zero => exact absurd HA.out (by simp [winnowref03_Rune.j2])
          | succ kj5 =>
            have H := HA.out
            clear HA
            simp only [winnowref03_Rune.j2] at H
            have HC15 := Aside0.mk H
            clear H
            go_upto_region 13 with (fail)
            go_cut [55] (fun v55 wc => ∃ (kq : Nat) (x55_14 : Bool), v55 = .bool x55_14 ∧ Aside0 (winnowref03_Rune.j3 kq a0 x5_5 x6_5 x7_5 x55_14 = some (r1, r2)) ∧ Aside0 (kq ≤ kj5) ∧ Drawn0 w wc)
            case first =>
              have H := HC15.out
              clear HC15
              by_cases c16 : x5_5 = 0
              · rw [if_pos c16] at H
                have c16b0 : (x5_5 == 0) = true := beq_iff_eq.mpr c16
                have c16b1 : (x5_5 != 0) = false := bne_eq_false_iff_eq.mpr c16
                clear c16
                (first | rw [c16b0] | (simp only [i64_w, i32_w]; rw [c16b0]) | skip)
                have H' := Aside0.mk H
                clear H
                go_wp2
                go_meet
                case rel => exact ⟨_, (true), (by first | rfl | (simp; done) | (simp [*]; done)), H', ⟨by have := HJ5.out; first | omega | exact Nat.le_refl _⟩, by repeat (first | exact Drawn0.refl _ | apply Drawn0.step)⟩
              · rw [if_neg c16] at H
                have c16b0 : (x5_5 == 0) = false := beq_eq_false_iff_ne.mpr c16
                have c16b1 : (x5_5 != 0) = true := bne_iff_ne.mpr c16
                (first | rw [c16b0] | (simp only [i64_w, i32_w]; rw [c16b0]) | skip)
                have H' := Aside0.mk H
                clear H
                go_wp2
                go_meet
                case rel => exact ⟨_, (decide ((a0.size : Int) < x5_5)), (by first | rfl | (simp; done) | (simp [*]; done)), H', ⟨by have := HJ5.out; first | omega | exact Nat.le_refl _⟩, by repeat (first | exact Drawn0.refl _ | apply Drawn0.step)⟩
            case rest =>
              clear HC15
              try clear c1
              try clear c2
              try clear c2b0
              try clear c2b1
              try clear p2
              try clear c3
              try clear c3b0
              try clear c3b1
              try clear p3
              try clear c4
              try clear p4
              try clear q4
              try clear hx4
              try clear qi4
              try clear c5
              try clear c5b0
              try clear c6
              try clear c8
              try clear c8b0
              try clear c9
              try clear c11
              try clear c11b0
              try clear c12
              try clear c13
              try clear c13b0
              try clear c14
              try clear c14b0
              try clear c16
              try clear c16b0
              try clear c16b1
              try clear p2
              try clear p3
              try clear p4
              try clear q4
              obtain ⟨kq, x55_14, rfl, HA, HJ14, ⟨mc14, rfl⟩⟩ := hcut
              cases kq with
              | zero => exact absurd HA.out (by simp [winnowref03_Rune.j3])
              | succ kj14 =>
                have H := HA.out
                clear HA
                simp only [winnowref03_Rune.j3] at H
                by_cases c17 : x55_14 = true
                · subst c17
                  have H1 : (some (0, 0)) = some (r1, r2) := by rw [if_pos rfl] at H; exact H
                  clear H
                  have H := H1
                  clear H1
                  simp only [Option.some.injEq, Prod.mk.injEq] at H
                  obtain ⟨rfl, rfl⟩ := H
                  go_wp2
                  go_ret2
                  exact ⟨by first | rfl | (simp; done) | (simp [*]; done), by repeat (first | exact Drawn0.refl _ | apply Drawn0.step)⟩
                · replace c17 := Bool.eq_false_iff.mpr c17
                  subst c17
                  have H1 : (winnowref03_Rune.l0 kj14 a0 x5_5 x6_5 x7_5 1) = some (r1, r2) := by rw [if_neg (show ¬ (false = true) by decide)] at H; exact H
                  clear H
                  have H := H1
                  clear H1
                  have H' := Aside0.mk H
                  clear H
                  go_wp2
                  go_loopg [7, 8] kj14 (fun kq v7 v8 w' => ∃ (x7_3 : Int) (x8_3 : Int), v7 = .int .i32 x7_3 ∧ v8 = .int .i64 x8_3 ∧ Aside0 (winnowref03_Rune.l0 kq a0 x5_5 x6_5 x7_3 x8_3 = some (r1, r2)) ∧ Aside0 (kq ≤ kj14) ∧ Drawn0 w w')
                  case atStart => exact ⟨(x7_5), (1), (by first | rfl | (simp; done) | (simp [*]; done)), (by first | rfl | (simp; done) | (simp [*]; done)), H', ⟨Nat.le_refl _⟩, by repeat (first | exact Drawn0.refl _ | apply Drawn0.step)⟩
                  case round =>
                    clear H'
                    try clear c1
                    try clear c2
                    try clear c2b0
                    try clear c2b1
                    try clear p2
                    try clear c3
                    try clear c3b0
                    try clear c3b1
                    try clear p3
                    try clear c4
                    try clear p4
                    try clear q4
                    try clear hx4
                    try clear qi4
                    try clear c5
                    try clear c5b0
                    try clear c6
                    try clear c8
                    try clear c8b0
                    try clear c9
                    try clear c11
                    try clear c11b0
                    try clear c12
                    try clear c13
                    try clear c13b0
                    try clear c14
                    try clear c14b0
                    try clear c16
                    try clear c16b0
                    try clear c16b1
                    try clear c17
                    try clear p2
                    try clear p3
                    try clear p4
                    try clear q4
                    obtain ⟨x7_3, x8_3, rfl, rfl, HA, HK3, ⟨m3, rfl⟩⟩ := hrel
                    cases gk with
                    | zero => exact absurd HA.out (by simp [winnowref03_Rune.l0])
                    | succ k3 =>
                      have H := HA.out
                      clear HA
                      simp only [winnowref03_Rune.l0] at H
                      by_cases c18 : x8_3 < x5_5
                      · rw [if_pos c18] at H
                        have c18b0 : decide (x8_3 < x5_5) = true := decide_eq_true c18
                        clear c18
                        by_cases c19 : 0 ≤ x8_3
                        · rw [if_pos c19] at H
                          have c19b0 : decide (0 ≤ x8_3) = true := decide_eq_true c19
                          clear c19
                          by_cases c20 : x8_3 < (a0.size : Int)
                          · rw [if_pos c20] at H
                            have c20b0 : decide (x8_3 < (a0.size : Int)) = true := decide_eq_true c20
                            clear c20
                            by_cases c22 : (bt a0 x8_3) < 128
                            · rw [if_pos c22] at H
                              have c22b0 : decide ((bt a0 x8_3) < 128) = true := decide_eq_true c22
                              clear c22
                              simp only [Option.some.injEq, Prod.mk.injEq] at H
                              obtain ⟨rfl, rfl⟩ := H
                              have p21 : 0 ≤ (x8_3 : Int) := of_decide_eq_true (by first | (with_reducible assumption) | assumption)
                              have q21 : x8_3 < (a0.size : Int) := of_decide_eq_true (by first | (with_reducible assumption) | assumption)
                              have hx21 := bt_at a0 x8_3
                              replace p21 := eq_true p21
                              replace q21 := eq_true q21
                              go_wp2
                              go_ret2
                              exact ⟨by first | rfl | (simp; done) | (simp [*]; done), by repeat (first | exact Drawn0.refl _ | apply Drawn0.step)⟩
                            · rw [if_neg c22] at H
                              have c22b0 : decide ((bt a0 x8_3) < 128) = false := decide_eq_false c22
                              clear c22
                              by_cases c24 : (bt a0 x8_3) > 191
                              · rw [if_pos c24] at H
                                have c24b0 : decide (191 < (bt a0 x8_3)) = true := decide_eq_true c24
                                clear c24
                                simp only [Option.some.injEq, Prod.mk.injEq] at H
                                obtain ⟨rfl, rfl⟩ := H
                                have p21 : 0 ≤ (x8_3 : Int) := of_decide_eq_true (by first | (with_reducible assumption) | assumption)
                                have q21 : x8_3 < (a0.size : Int) := of_decide_eq_true (by first | (with_reducible assumption) | assumption)
                                have hx21 := bt_at a0 x8_3
                                replace p21 := eq_true p21
                                replace q21 := eq_true q21
                                have p23 : 0 ≤ (x8_3 : Int) := of_decide_eq_true (by first | (with_reducible assumption) | assumption)
                                have q23 : x8_3 < (a0.size : Int) := of_decide_eq_true (by first | (with_reducible assumption) | assumption)
                                have hx23 := bt_at a0 x8_3
                                replace p23 := eq_true p23
                                replace q23 := eq_true q23
                                go_wp2
                                go_ret2
                                exact ⟨by first | rfl | (simp; done) | (simp [*]; done), by repeat (first | exact Drawn0.refl _ | apply Drawn0.step)⟩
                              · rw [if_neg c24] at H
                                have c24b0 : decide (191 < (bt a0 x8_3)) = false := decide_eq_false c24
                                clear c24
                                have H' := Aside0.mk H
                                clear H
                                have p21 : 0 ≤ (x8_3 : Int) := of_decide_eq_true (by first | (with_reducible assumption) | assumption)
                                have q21 : x8_3 < (a0.size : Int) := of_decide_eq_true (by first | (with_reducible assumption) | assumption)
                                have hx21 := bt_at a0 x8_3
                                replace p21 := eq_true p21
                                replace q21 := eq_true q21
                                have p23 : 0 ≤ (x8_3 : Int) := of_decide_eq_true (by first | (with_reducible assumption) | assumption)
                                have q23 : x8_3 < (a0.size : Int) := of_decide_eq_true (by first | (with_reducible assumption) | assumption)
                                have hx23 := bt_at a0 x8_3
                                replace p23 := eq_true p23
                                replace q23 := eq_true q23
                                have p25 : 0 ≤ (x8_3 : Int) := of_decide_eq_true (by first | (with_reducible assumption) | assumption)
                                have q25 : x8_3 < (a0.size : Int) := of_decide_eq_true (by first | (with_reducible assumption) | assumption)
                                have hx25 := bt_at a0 x8_3
                                replace p25 := eq_true p25
                                replace q25 := eq_true q25
                                go_wp2
                                go_roundg k3
                                case measure => have := HJ5.out; have := HJ14.out; have := HK3.out; omega
                                case rel => exact ⟨(wrap32 ((wrap32 ((wrap32 (x7_3 * 64)) + (wrap32 (bt a0 x8_3)))) - 128)), (wrap64 (x8_3 + 1)), (by first | rfl | (simp; done) | (simp [*]; done)), (by first | rfl | (simp; done) | (simp [*]; done)), H', ⟨by have := HJ5.out; have := HJ14.out; have := HK3.out; omega⟩, by repeat (first | exact Drawn0.refl _ | apply Drawn0.step)⟩
                          · rw [if_neg c20] at H
                            exact absurd H (by simp)
                        · rw [if_neg c19] at H
                          exact absurd H (by simp)
                      · rw [if_neg c18] at H
                        have c18b0 : decide (x8_3 < x5_5) = false := decide_eq_false c18
                        clear c18
                        by_cases c26 : x7_3 < x6_5
                        · rw [if_pos c26] at H
                          have c26b0 : decide (x7_3 < x6_5) = true := decide_eq_true c26
                          clear c26
                          simp only [Option.some.injEq, Prod.mk.injEq] at H
                          obtain ⟨rfl, rfl⟩ := H
                          go_wp2
                          go_ret2
                          exact ⟨by first | rfl | (simp; done) | (simp [*]; done), by repeat (first | exact Drawn0.refl _ | apply Drawn0.step)⟩
                        · rw [if_neg c26] at H
                          have c26b0 : decide (x7_3 < x6_5) = false := decide_eq_false c26
                          clear c26
                          by_cases c27 : x7_3 > 1114111
                          · rw [if_pos c27] at H
                            have c27b0 : decide (1114111 < x7_3) = true := decide_eq_true c27
                            clear c27
                            simp only [Option.some.injEq, Prod.mk.injEq] at H
                            obtain ⟨rfl, rfl⟩ := H
                            go_wp2
                            go_ret2
                            exact ⟨by first | rfl | (simp; done) | (simp [*]; done), by repeat (first | exact Drawn0.refl _ | apply Drawn0.step)⟩
                          · rw [if_neg c27] at H
                            have c27b0 : decide (1114111 < x7_3) = false := decide_eq_false c27
                            clear c27
                            by_cases c28 : x7_3 ≥ 55296
                            · rw [if_pos c28] at H
                              have c28b0 : decide (55296 ≤ x7_3) = true := decide_eq_true c28
                              clear c28
                              by_cases c29 : x7_3 ≤ 57343
                              · rw [if_pos c29] at H
                                have c29b0 : decide (x7_3 ≤ 57343) = true := decide_eq_true c29
                                clear c29
                                simp only [Option.some.injEq, Prod.mk.injEq] at H
                                obtain ⟨rfl, rfl⟩ := H
                                go_wp2
                                go_ret2
                                exact ⟨by first | rfl | (simp; done) | (simp [*]; done), by repeat (first | exact Drawn0.refl _ | apply Drawn0.step)⟩
                              · rw [if_neg c29] at H
                                have c29b0 : decide (x7_3 ≤ 57343) = false := decide_eq_false c29
                                clear c29
                                simp only [Option.some.injEq, Prod.mk.injEq] at H
                                obtain ⟨rfl, rfl⟩ := H
                                go_wp2
                                go_ret2
                                exact ⟨by first | rfl | (simp; done) | (simp [*]; done), by repeat (first | exact Drawn0.refl _ | apply Drawn0.step)⟩
                            · rw [if_neg c28] at H
                              have c28b0 : decide (55296 ≤ x7_3) = false := decide_eq_false c28
                              clear c28
                              simp only [Option.some.injEq, Prod.mk.injEq] at H
                              obtain ⟨rfl, rfl⟩ := H
                              go_wp2
                              go_ret2
                              exact ⟨by first | rfl | (simp; done) | (simp [*]; done), by repeat (first | exact Drawn0.refl _ | apply Drawn0.step)⟩
    · rw [if_neg c3] at H
      exact absurd H (by simp)

end Go.Proofs.Ytigcdbeaachkoaa.PAll
