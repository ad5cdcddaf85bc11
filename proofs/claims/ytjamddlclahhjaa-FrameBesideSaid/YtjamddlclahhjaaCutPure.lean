/-
  The plain law of a frame that is cut: what frame.Cut computes; FrameTurned.
  Conditions: bytes are from 0 to 255.
-/
import Derived.Test.YtjamddlclahhjaaFramePure
import Derived.Test.YtjamddlclahhjaaPAllx2
import Derived.Test.YtjamddlclahhjaaPAllx3
import Derived.Test.YtjamddlclahhjaaPAllx4
namespace Go.Proofs.Ytjamddlclahhjaa.PAll
open Go.RowKit Go.Proofs.YtjamddlclahhjaaW.PrintWords Go.Proofs.YtjamddlclahhjaaW.PrintLast Go.Proofs.YtjamddlclahhjaaW.PrintMore
set_option linter.unusedVariables false
set_option linter.unusedSimpArgs false

/-- The first frame of some bytes. -/
def cutN (l : List Int) : List Int × List Int × Int :=
  if l.length < 4 then ([], [], 3) else
  if u32 l > 8192 then ([], [], 2) else
  if l.length < 8 + (u32 l).toNat then ([], [], 3) else
  if (sumN (l.take (4 + (u32 l).toNat)) : Int) = u32 (l.drop (4 + (u32 l).toNat)) then ((l.take (4 + (u32 l).toNat)).drop 4, l.drop (8 + (u32 l).toNat), 0) else ([], [], 2)
theorem cut_eq {l : List Int} (hb : Bytes l) (hl : l.length ≤ 140737488355328) {k : Nat} (hk : 9000 ≤ k) : frame_Cut.f k l = some (cutN l) := by
  unfold frame_Cut.f cutN
  by_cases h4 : l.length < 4
  · rw [if_pos (by omega), if_pos h4]
  rw [if_neg (by omega), if_neg h4, u32_eq hb (by omega)]
  have hr := u32_range hb (by omega)
  simp only [Option.bind_some]
  by_cases h5 : u32 l > 8192
  · rw [if_pos h5, if_pos h5]
  rw [if_neg h5, if_neg h5]
  have w1 : wrap64 (4 + wrap64 (u32 l)) = 4 + u32 l := by unfold wrap64; omega
  have w2 : wrap64 ((l.length : Int) - 4) = (l.length : Int) - 4 := by unfold wrap64; omega
  have w3 : wrap64 (4 + u32 l + 4) = 8 + u32 l := by unfold wrap64; omega
  rw [w1, w2, w3]
  by_cases h6 : l.length < 8 + (u32 l).toNat
  · rw [if_pos (by omega), if_pos h6]
  rw [if_neg (by omega), if_neg h6, if_pos (by omega), if_pos (by omega)]
  have e1 : (4 + u32 l).toNat = 4 + (u32 l).toNat := by omega
  have e2 : (8 + u32 l).toNat = 8 + (u32 l).toNat := by omega
  rw [e1, e2, sum_eq (hb.take _) (by rw [List.length_take]; omega) (by rw [List.length_take]; omega), u32_eq (hb.drop _) (by rw [List.length_drop]; omega)]
  simp only [Option.bind_some]
  by_cases h7 : (sumN (l.take (4 + (u32 l).toNat)) : Int) = u32 (l.drop (4 + (u32 l).toNat))
  · rw [if_pos h7, if_pos h7, if_pos (by omega)]
    unfold slices_Clone_byte_byte.f
    rw [if_pos (by simp; omega)]
    simp only [Option.bind_some]
    rw [if_pos (by omega), if_pos (by omega), if_pos (by simp; omega)]
    rfl
  · rw [if_neg h7, if_neg h7]

/-! ### a byte that is turned -/
theorem stepN_inj {r s : Nat} (hr : r < 4294967296) (hs : s < 4294967296) (h : stepN r = stepN s) : r = s := by
  have hi : ∀ a : Nat, a < 2147483648 → (a ^^^ 3988292384).testBit 31 = true := by
    intro a ha
    rw [Nat.testBit_xor, Nat.testBit_lt_two_pow (by omega)]
    decide
  have hc : ∀ a b : Nat, a ^^^ 3988292384 = b ^^^ 3988292384 → a = b := by
    intro a b hab
    have := congrArg (· ^^^ 3988292384) hab
    simpa [Nat.xor_assoc] using this
  unfold stepN at h
  by_cases h0 : r % 2 = 1 <;> by_cases h1 : s % 2 = 1
  · rw [if_pos h0, if_pos h1] at h
    have := hc _ _ h
    omega
  · rw [if_pos h0, if_neg h1] at h
    have := hi (r / 2) (by omega)
    rw [h, Nat.testBit_lt_two_pow (by omega)] at this
    cases this
  · rw [if_neg h0, if_pos h1] at h
    have := hi (s / 2) (by omega)
    rw [← h, Nat.testBit_lt_two_pow (by omega)] at this
    cases this
  · rw [if_neg h0, if_neg h1] at h
    omega
theorem stepsN_inj (n : Nat) : ∀ {r s : Nat}, r < 4294967296 → s < 4294967296 → stepsN n r = stepsN n s → r = s := by
  induction n with
  | zero => exact fun _ _ h => h
  | succ n ih => exact fun hr hs h => stepN_inj hr hs (ih (stepN_lt hr) (stepN_lt hs) h)
theorem xor_left {a b c : Nat} (h : a ^^^ b = a ^^^ c) : b = c := by
  have := congrArg (a ^^^ ·) h
  simpa [← Nat.xor_assoc] using this
theorem xor_right {a b c : Nat} (h : b ^^^ a = c ^^^ a) : b = c := by
  rw [Nat.xor_comm b, Nat.xor_comm c] at h
  exact xor_left h
theorem crcN_inj (l : List Int) (hb : Bytes l) : ∀ {r s : Nat}, r < 4294967296 → s < 4294967296 → crcN r l = crcN s l → r = s := by
  induction l with
  | nil => exact fun _ _ h => h
  | cons x xs ih =>
    intro r s hr hs h
    have hx := hb x (List.mem_cons_self ..)
    have := ih (fun y hy => hb y (List.mem_cons_of_mem _ hy)) (stepsN_lt 8 (xor_byte hr hx)) (stepsN_lt 8 (xor_byte hs hx)) h
    exact xor_right (stepsN_inj 8 (xor_byte hr hx) (xor_byte hs hx) this)
theorem crcN_append (a b : List Int) : ∀ r, crcN r (a ++ b) = crcN (crcN r a) b := by
  induction a with
  | nil => exact fun _ => rfl
  | cons x xs ih => exact fun r => ih _
theorem sum_turned {a b : List Int} {x y : Int} (ha : Bytes a) (hb : Bytes b) (hx : 0 ≤ x ∧ x ≤ 255) (hy : 0 ≤ y ∧ y ≤ 255) (h : sumN (a ++ x :: b) = sumN (a ++ y :: b)) : x = y := by
  have h1 := xor_left h
  rw [crcN_append, crcN_append] at h1
  have hr := crcN_lt a (r := 4294967295) (by decide) ha
  have h2 := crcN_inj b hb (stepsN_lt 8 (xor_byte hr hx)) (stepsN_lt 8 (xor_byte hr hy)) h1
  have h3 := xor_left (stepsN_inj 8 (xor_byte hr hx) (xor_byte hr hy) h2)
  omega
theorem set_at {l : List Int} {i : Nat} (h : i < l.length) (y : Int) : l = l.take i ++ rd l i :: l.drop (i + 1) ∧ l.set i y = l.take i ++ y :: l.drop (i + 1) := by
  have hr : rd l i = l[i] := by simp [rd, List.getD_eq_getElem?_getD, List.getElem?_eq_getElem h]
  refine ⟨?_, List.set_eq_take_append_cons_drop .. |>.trans (if_pos h)⟩
  rw [hr, ← List.drop_eq_getElem_cons h, List.take_append_drop]
theorem Bytes.set {l : List Int} (h : Bytes l) (i : Nat) {y : Int} (hy : 0 ≤ y ∧ y ≤ 255) : Bytes (l.set i y) := fun x hx => by
  rcases List.mem_or_eq_of_mem_set hx with hx | rfl
  · exact h x hx
  · exact hy
theorem sum_set {l : List Int} (hb : Bytes l) {i : Nat} (h : i < l.length) {y : Int} (hy : 0 ≤ y ∧ y ≤ 255) (hne : y ≠ rd l i) : sumN (l.set i y) ≠ sumN l := by
  obtain ⟨e1, e2⟩ := set_at h y
  intro he
  rw [e2] at he
  have hx := hb _ (rd_mem1 (xs := l) (i := (i : Int)) (by omega) (by omega))
  exact hne (sum_turned (hb.take i) (hb.drop (i + 1)) hy hx (he.trans (congrArg sumN e1)))
theorem u32_inj {l m : List Int} (hl : Bytes l) (hm : Bytes m) (h4 : l.length = 4) (g4 : m.length = 4) (h : u32 l = u32 m) : l = m := by
  match l, m, h4, g4 with
  | [a, b, c, d], [a', b', c', d'], _, _ =>
    simp only [Bytes, List.mem_cons, List.not_mem_nil, or_false, forall_eq_or_imp, forall_eq] at hl hm
    simp [u32, rd] at h
    simp only [List.cons.injEq, and_true]
    omega
theorem u32_set {l : List Int} {i : Nat} (h : 4 ≤ i) (y : Int) : u32 (l.set i y) = u32 l := by
  have g : ∀ j : Int, 0 ≤ j → j < 4 → rd (l.set i y) j = rd l j := by
    intro j h0 h1
    simp only [rd, List.getD_eq_getElem?_getD]
    rw [List.getElem?_set_ne (by omega)]
  unfold u32
  rw [g 0 (by omega) (by omega), g 1 (by omega) (by omega), g 2 (by omega) (by omega), g 3 (by omega) (by omega)]
theorem u32_frame {data : List Int} (hl : data.length ≤ 8192) (rest : List Int) : u32 (frameL data ++ rest) = data.length := by
  unfold frameL headL
  rw [List.append_assoc, List.append_assoc]
  exact u32_of_le4 _ (by omega) (by omega) _
theorem u32_le4 {n : Nat} (h : n < 4294967296) (rest : List Int) : u32 (le4 n ++ rest) = n := u32_of_le4 _ (by omega) (by omega) _
/-- A frame with a byte turned, but of its length, is none. -/
theorem cut_turned {data : List Int} (hb : Bytes data) (hl : data.length ≤ 8192) {i : Nat} (h4 : 4 ≤ i) (hi : i < (frameL data).length) {y : Int} (hy : 0 ≤ y ∧ y ≤ 255) (hne : y ≠ rd (frameL data) i) : (cutN ((frameL data).set i y)).2.2 = 2 := by
  have hu : u32 ((frameL data).set i y) = data.length := by
    rw [u32_set h4]
    have := u32_frame hl []
    rwa [List.append_nil] at this
  have hn : ((data.length : Int)).toNat = data.length := by omega
  have hln := frameL_len data
  have hs := sumN_lt (headL_bytes hb)
  unfold cutN
  rw [hu, hn, if_neg (by simp; omega), if_neg (by omega), if_neg (by simp; omega), if_neg ?_]
  by_cases hc : i < (headL data).length
  · have e : (frameL data).set i y = (headL data).set i y ++ le4 (sumN (headL data)) := by
      unfold frameL
      rw [List.set_append_left _ _ hc]
    have hlen : ((headL data).set i y).length = 4 + data.length := by rw [List.length_set, headL_len]
    rw [e, ← hlen, List.take_left', List.drop_left']
    · have := u32_le4 hs []
      rw [List.append_nil] at this
      rw [this]
      intro h
      refine sum_set (headL_bytes hb) hc hy ?_ (by omega)
      have : rd (frameL data) i = rd (headL data) i := by
        unfold frameL rd
        rw [List.getD_eq_getElem?_getD, List.getD_eq_getElem?_getD, List.getElem?_append_left (by omega)]
      rwa [← this]
    · rfl
    · rfl
  · have e : (frameL data).set i y = headL data ++ (le4 (sumN (headL data))).set (i - (headL data).length) y := by
      unfold frameL
      rw [List.set_append_right _ _ (by omega)]
    rw [e, ← headL_len, List.take_left', List.drop_left']
    · have h0 := u32_le4 hs []
      rw [List.append_nil] at h0
      intro h
      have hlt : i - (headL data).length < 4 := by have := headL_len data; omega
      have h1 := u32_inj (le4_bytes _) ((le4_bytes (sumN (headL data))).set (i - (headL data).length) hy) rfl (by simp [le4]) (h0.trans h)
      refine hne ?_
      have h2 : rd (frameL data) i = rd (le4 (sumN (headL data))) ((i - (headL data).length : Nat) : Int) := by
        unfold frameL rd
        rw [List.getD_eq_getElem?_getD, List.getD_eq_getElem?_getD, List.getElem?_append_right (by omega)]
        congr 2
      rw [h2, h1]
      unfold rd
      rw [List.getD_eq_getElem?_getD, Int.toNat_natCast, List.getElem?_set_self (by simpa [le4] using hlt)]
      rfl
    · rfl
    · rfl
theorem turn_byte {x t : Int} (hx : 0 ≤ x ∧ x ≤ 255) (ht : 0 ≤ t ∧ t ≤ 255) (h0 : t ≠ 0) : (0 ≤ Go.bits .xor .u8 x t ∧ Go.bits .xor .u8 x t ≤ 255) ∧ Go.bits .xor .u8 x t ≠ x := by
  obtain ⟨a, rfl⟩ := Int.eq_ofNat_of_zero_le hx.1
  obtain ⟨b, rfl⟩ := Int.eq_ofNat_of_zero_le ht.1
  have hlt : a ^^^ b < 2 ^ 8 := Nat.xor_lt_two_pow (by omega) (by omega)
  have e : Go.bits .xor .u8 (a : Int) (b : Int) = ((a ^^^ b : Nat) : Int) := by
    have h3 : (BitVec.ofInt 8 (a : Int) ^^^ BitVec.ofInt 8 (b : Int)).toNat = a ^^^ b := by
      rw [BitVec.toNat_xor, BitVec.ofInt_natCast, BitVec.ofInt_natCast, BitVec.toNat_ofNat, BitVec.toNat_ofNat, Nat.mod_eq_of_lt (by omega), Nat.mod_eq_of_lt (by omega)]
    show IntKind.u8.wrap (((BitVec.ofInt 8 (a : Int) ^^^ BitVec.ofInt 8 (b : Int)).toNat : Nat) : Int) = _
    rw [h3]
    simp [IntKind.wrap, IntKind.signed, IntKind.bits]
    omega
  rw [e]
  refine ⟨by omega, fun h => ?_⟩
  have h1 : a ^^^ b = a ^^^ 0 := by rw [Nat.xor_zero]; omega
  have := xor_left h1
  omega
theorem FrameTurned (data : List Int) (at_ turn : Int) (hb : Bytes data) (ht : 0 ≤ turn ∧ turn ≤ 255) : winnowlaw02_FrameTurned.f 20000 data at_ turn = some true := by
  have ha : ∀ b, b = true → winnowlaw02_FrameTurned.j0 20000 data at_ turn b = some true := by
    rintro _ rfl
    rw [winnowlaw02_FrameTurned.j0, if_pos rfl]
    rfl
  unfold winnowlaw02_FrameTurned.f
  by_cases h1 : (data.length : Int) > 8192
  · rw [if_pos h1]; exact ha _ rfl
  · rw [if_neg h1]
    by_cases h2 : turn = 0
    · exact ha _ (by simpa using h2)
    · rw [winnowlaw02_FrameTurned.j0, if_neg (by simpa using h2), put_eq hb (by omega) (by simp) (by omega)]
      simp only [Option.bind_some, List.nil_append]
      rw [if_pos trivial]
      have hj : ∀ b, b = true → winnowlaw02_FrameTurned.j1 19999 at_ turn (frameL data) 0 b = some true := by
        rintro _ rfl
        rw [winnowlaw02_FrameTurned.j1, if_pos rfl, if_pos rfl]
        rfl
      by_cases h3 : at_ < 4
      · rw [if_pos h3]; exact hj _ rfl
      · rw [if_neg h3]
        by_cases h4 : at_ ≥ (frameL data).length
        · exact hj _ (by simpa using h4)
        · rw [winnowlaw02_FrameTurned.j1, if_neg (by simpa using h4)]
          have hln := frameL_len data
          simp only [Option.bind_some, List.nil_append]
          rw [if_pos (by simp; omega), if_pos (by omega), if_pos (by omega)]
          have hx := frameL_bytes hb _ (rd_mem1 (xs := frameL data) (i := at_) (by omega) (by omega))
          obtain ⟨hy, hne⟩ := turn_byte hx ht h2
          have hc := cut_turned hb (by omega) (i := at_.toNat) (by omega) (by omega) hy (by rw [Int.toNat_of_nonneg (by omega)]; exact hne)
          rw [cut_eq ((frameL_bytes hb).set _ hy) (by rw [List.length_set]; omega) (by omega)]
          simp only [Option.bind_some]
          rw [if_pos hc]
          rfl
end Go.Proofs.Ytjamddlclahhjaa.PAll
