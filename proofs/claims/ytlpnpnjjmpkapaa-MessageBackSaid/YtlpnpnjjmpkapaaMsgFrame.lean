/-
  The plain law of frames: sums, frame.Put, frame.Cut, a byte that is turned; rows that are the same.
  Conditions: bytes are from 0 to 255.
-/
import Derived.Test.YtlpnpnjjmpkapaaPAllx11
import Derived.Test.YtlpnpnjjmpkapaaPAllx9
namespace Go.Proofs.Ytlpnpnjjmpkapaa.PAll
open Go.RowKit Go.Proofs.YtlpnpnjjmpkapaaW.PrintWords Go.Proofs.YtlpnpnjjmpkapaaW.PrintLast Go.Proofs.YtlpnpnjjmpkapaaW.PrintMore
set_option linter.unusedVariables false
set_option linter.unusedSimpArgs false
/-- Bytes. -/
def Bytes (l : List Int) : Prop := ∀ x ∈ l, 0 ≤ x ∧ x ≤ 255
theorem Bytes.take {l : List Int} (h : Bytes l) (n : Nat) : Bytes (l.take n) := fun x hx => h x (List.mem_of_mem_take hx)
theorem Bytes.drop {l : List Int} (h : Bytes l) (n : Nat) : Bytes (l.drop n) := fun x hx => h x (List.mem_of_mem_drop hx)
theorem Bytes.append {l m : List Int} (h : Bytes l) (g : Bytes m) : Bytes (l ++ m) := fun x hx => by
  rcases List.mem_append.1 hx with hx | hx
  · exact h x hx
  · exact g x hx
theorem xor_nat (a b : Nat) (ha : a < 4294967296) (hb : b < 4294967296) : Go.bits .xor .u32 (a : Int) (b : Int) = ((a ^^^ b : Nat) : Int) := by
  have h3 : (BitVec.ofInt 32 (a : Int) ^^^ BitVec.ofInt 32 (b : Int)).toNat = a ^^^ b := by
    rw [BitVec.toNat_xor, BitVec.ofInt_natCast, BitVec.ofInt_natCast, BitVec.toNat_ofNat, BitVec.toNat_ofNat, Nat.mod_eq_of_lt (by omega), Nat.mod_eq_of_lt (by omega)]
  show IntKind.u32.wrap (((BitVec.ofInt 32 (a : Int) ^^^ BitVec.ofInt 32 (b : Int)).toNat : Nat) : Int) = _
  rw [h3]
  have hlt : a ^^^ b < 2 ^ 32 := Nat.xor_lt_two_pow (by omega) (by omega)
  simp [IntKind.wrap, IntKind.signed, IntKind.bits]
  omega
theorem and_one (a : Nat) (ha : a < 4294967296) : Go.bits .and .u32 (a : Int) 1 = ((a % 2 : Nat) : Int) := by
  have h3 : (BitVec.ofInt 32 (a : Int) &&& BitVec.ofInt 32 (1 : Int)).toNat = a % 2 := by
    rw [BitVec.toNat_and, BitVec.ofInt_natCast, BitVec.toNat_ofNat, Nat.mod_eq_of_lt (by omega), show (BitVec.ofInt 32 (1 : Int)).toNat = 1 from by decide, Nat.and_one_is_mod]
  show IntKind.u32.wrap (((BitVec.ofInt 32 (a : Int) &&& BitVec.ofInt 32 (1 : Int)).toNat : Nat) : Int) = _
  rw [h3]
  simp [IntKind.wrap, IntKind.signed, IntKind.bits]
  omega
/-- One bit on. -/
def stepN (r : Nat) : Nat := if r % 2 = 1 then (r / 2) ^^^ 3988292384 else r / 2
theorem stepN_lt {r : Nat} (h : r < 4294967296) : stepN r < 4294967296 := by
  unfold stepN
  split
  · exact Nat.xor_lt_two_pow (n := 32) (by omega) (by decide)
  · omega
def stepsN : Nat → Nat → Nat
  | 0, r => r
  | n + 1, r => stepsN n (stepN r)
theorem stepsN_lt (n : Nat) : ∀ {r : Nat}, r < 4294967296 → stepsN n r < 4294967296 := by
  induction n with
  | zero => exact fun h => h
  | succ n ih => exact fun h => ih (stepN_lt h)
theorem prog_step (r : Nat) (h : r < 4294967296) : Go.bits .xor .u32 ((r : Int) / 2) (Go.bits .and .u32 3988292384 ((-(Go.bits .and .u32 (r : Int) 1)) % 4294967296)) = (stepN r : Int) := by
  rw [and_one r h]
  have e2 : (r : Int) / 2 = ((r / 2 : Nat) : Int) := by omega
  rw [e2]
  unfold stepN
  rcases Nat.mod_two_eq_zero_or_one r with h0 | h1
  · rw [h0, if_neg (by decide)]
    have : Go.bits .and .u32 3988292384 ((-((0 : Nat) : Int)) % 4294967296) = ((0 : Nat) : Int) := by decide
    rw [this, xor_nat _ _ (by omega) (by omega), Nat.xor_zero]
  · rw [h1, if_pos rfl]
    have : Go.bits .and .u32 3988292384 ((-((1 : Nat) : Int)) % 4294967296) = ((3988292384 : Nat) : Int) := by decide
    rw [this, xor_nat _ _ (by omega) (by omega)]
theorem steps_tells (d : Nat) : ∀ (k : Nat) (r : Nat) (i : Int), 0 ≤ i → (8 : Int) - i = d → d < k → r < 4294967296 → crc_steps.l0 k (r : Int) 8 i = some ((stepsN d r : Nat) : Int) := by
  induction d with
  | zero =>
    intro k r i h0 hd hk hr
    obtain ⟨k, rfl⟩ : ∃ j, k = j + 1 := ⟨k - 1, by omega⟩
    rw [crc_steps.l0, if_neg (by omega)]
    rfl
  | succ d ih =>
    intro k r i h0 hd hk hr
    obtain ⟨k, rfl⟩ : ∃ j, k = j + 1 := ⟨k - 1, by omega⟩
    have hw : wrap64 (i + 1) = i + 1 := by unfold wrap64; omega
    rw [crc_steps.l0, if_pos (by omega), prog_step r hr, hw]
    exact ih k (stepN r) (i + 1) (by omega) (by omega) (by omega) (stepN_lt hr)
/-- The register behind some bytes. -/
def crcN : Nat → List Int → Nat
  | r, [] => r
  | r, x :: xs => crcN (stepsN 8 (r ^^^ x.toNat)) xs
theorem xor_byte {r : Nat} (h : r < 4294967296) {x : Int} (hx : 0 ≤ x ∧ x ≤ 255) : r ^^^ x.toNat < 4294967296 := Nat.xor_lt_two_pow (n := 32) (by omega) (by omega)
theorem crcN_lt (l : List Int) : ∀ {r : Nat}, r < 4294967296 → Bytes l → crcN r l < 4294967296 := by
  induction l with
  | nil => exact fun h _ => h
  | cons x xs ih => exact fun h hb => ih (stepsN_lt 8 (xor_byte h (hb x (List.mem_cons_self ..)))) (fun y hy => hb y (List.mem_cons_of_mem _ hy))
def sumN (l : List Int) : Nat := 4294967295 ^^^ crcN 4294967295 l
theorem sumN_lt {l : List Int} (hb : Bytes l) : sumN l < 4294967296 := Nat.xor_lt_two_pow (n := 32) (by omega) (crcN_lt l (by decide) hb)
theorem drop_rd1 (xs : List Int) (i : Int) (h0 : 0 ≤ i) (h : i < (xs.length : Int)) : xs.drop i.toNat = rd xs i :: xs.drop (i + 1).toNat := by
  have hi : i.toNat < xs.length := by omega
  rw [List.drop_eq_getElem_cons hi, show (i + 1).toNat = i.toNat + 1 by omega]
  simp [rd, List.getD_eq_getElem?_getD, List.getElem?_eq_getElem hi]
theorem rd_mem1 {xs : List Int} {i : Int} (h0 : 0 ≤ i) (h1 : i < (xs.length : Int)) : rd xs i ∈ xs := by
  have hi : i.toNat < xs.length := by omega
  unfold rd
  rw [List.getD_eq_getElem?_getD, List.getElem?_eq_getElem hi]
  exact List.getElem_mem hi
theorem xor_rd {r : Nat} (hr : r < 4294967296) {x : Int} (hx : 0 ≤ x ∧ x ≤ 255) : Go.bits .xor .u32 (r : Int) (x % 4294967296) = ((r ^^^ x.toNat : Nat) : Int) := by
  have e : x % 4294967296 = ((x.toNat : Nat) : Int) := by omega
  rw [e]
  exact xor_nat _ _ hr (by omega)
theorem more_tells (l : List Int) (hb : Bytes l) (hn : l.length ≤ 140737488355328) (d : Nat) : ∀ (k r : Nat) (i : Int), 0 ≤ i → i ≤ l.length → (l.length : Int) - i = d → d + 10 < k → r < 4294967296 →
    crc_More.l0 k (r : Int) l (l.length : Int) i = some ((4294967295 ^^^ crcN r (l.drop i.toNat) : Nat) : Int) := by
  induction d with
  | zero =>
    intro k r i h0 h1 hd hk hr
    obtain ⟨k, rfl⟩ : ∃ j, k = j + 1 := ⟨k - 1, by omega⟩
    rw [crc_More.l0, if_neg (by omega), List.drop_eq_nil_of_le (by omega)]
    exact congrArg some (xor_nat 4294967295 r (by decide) hr)
  | succ d ih =>
    intro k r i h0 h1 hd hk hr
    obtain ⟨k, rfl⟩ : ∃ j, k = j + 1 := ⟨k - 1, by omega⟩
    have hlt : i < (l.length : Int) := by omega
    have hw : wrap64 (i + 1) = i + 1 := by unfold wrap64; omega
    have hx := hb _ (rd_mem1 h0 hlt)
    rw [crc_More.l0, if_pos hlt, if_pos h0, if_pos hlt, xor_rd hr hx, hw]
    unfold crc_steps.f
    rw [steps_tells 8 k _ 0 (by omega) (by omega) (by omega) (xor_byte hr hx)]
    simp only [Option.bind_some]
    rw [ih k _ (i + 1) (by omega) (by omega) (by omega) (by omega) (stepsN_lt 8 (xor_byte hr hx)), drop_rd1 l i h0 hlt]
    rfl
theorem sum_eq {l : List Int} (hb : Bytes l) (hn : l.length ≤ 140737488355328) {k : Nat} (hk : l.length + 10 < k) : crc_Sum.f k l = some ((sumN l : Nat) : Int) := by
  unfold crc_Sum.f crc_More.f
  have e : Go.bits .xor .u32 4294967295 0 = ((4294967295 : Nat) : Int) := by decide
  rw [e, more_tells l hb hn l.length k _ 0 (by omega) (by omega) (by omega) hk (by decide)]
  rfl
/-- A number's four bytes, the lowest first. -/
def le4 (n : Int) : List Int := [n % 256, n / 256 % 256, n / 256 / 256 % 256, n / 256 / 256 / 256 % 256]
theorem le4_bytes (n : Int) : Bytes (le4 n) := by
  intro x hx
  simp only [le4, List.mem_cons, List.not_mem_nil, or_false] at hx
  omega
theorem put32_eq {l : List Int} (hl : l.length + 4 ≤ 140737488355328) (n : Int) {k : Nat} (hk : 5 ≤ k) : num_Put32.f k l n = some (l ++ le4 n) := by
  obtain ⟨k, rfl⟩ : ∃ j, k = j + 1 + 1 + 1 + 1 + 1 := ⟨k - 5, by omega⟩
  have w0 : wrap64 (0 + 1) = 1 := by unfold wrap64; omega
  have w1 : wrap64 (1 + 1) = 2 := by unfold wrap64; omega
  have w2 : wrap64 (2 + 1) = 3 := by unfold wrap64; omega
  have w3 : wrap64 (3 + 1) = 4 := by unfold wrap64; omega
  unfold num_Put32.f
  rw [num_Put32.l0, if_pos (by decide), if_pos (by omega), w0, num_Put32.l0, if_pos (by decide), if_pos (by simp; omega), w1, num_Put32.l0, if_pos (by decide), if_pos (by simp; omega), w2, num_Put32.l0, if_pos (by decide), if_pos (by simp; omega), w3, num_Put32.l0, if_neg (by decide)]
  simp [le4]
def u32 (l : List Int) : Int := rd l 0 + rd l 1 * 256 + rd l 2 * 65536 + rd l 3 * 16777216
theorem to_eq (l : List Int) : num_U32.to l 4 = u32 l := by
  simp [num_U32.to, u32]
theorem u32_eq {l : List Int} (hb : Bytes l) (h4 : 4 ≤ l.length) : num_U32.f l = some (u32 l) := by
  unfold num_U32.f
  rw [if_pos ⟨h4, fun x hx => hb x (List.mem_of_mem_take hx)⟩, to_eq]
theorem u32_of_le4 (n : Int) (h0 : 0 ≤ n) (h1 : n < 4294967296) (l : List Int) : u32 (le4 n ++ l) = n := by
  simp [u32, le4, rd]
  omega
theorem u32_range {l : List Int} (hb : Bytes l) (h4 : 4 ≤ l.length) : 0 ≤ u32 l ∧ u32 l < 4294967296 := by
  have a0 := hb _ (rd_mem1 (xs := l) (i := 0) (by omega) (by omega))
  have a1 := hb _ (rd_mem1 (xs := l) (i := 1) (by omega) (by omega))
  have a2 := hb _ (rd_mem1 (xs := l) (i := 2) (by omega) (by omega))
  have a3 := hb _ (rd_mem1 (xs := l) (i := 3) (by omega) (by omega))
  unfold u32
  omega
/-- Bytes ahead of a frame's sum. -/
def headL (data : List Int) : List Int := le4 data.length ++ data
/-- A frame. -/
def frameL (data : List Int) : List Int := headL data ++ le4 (sumN (headL data))
theorem headL_len (data : List Int) : (headL data).length = 4 + data.length := by simp [headL, le4]; omega
theorem frameL_len (data : List Int) : (frameL data).length = 8 + data.length := by simp [frameL, headL_len, le4]; omega
theorem headL_bytes {data : List Int} (h : Bytes data) : Bytes (headL data) := (le4_bytes _).append h
theorem frameL_bytes {data : List Int} (h : Bytes data) : Bytes (frameL data) := (headL_bytes h).append (le4_bytes _)
theorem put_eq {dst data : List Int} (hb : Bytes data) (hl : data.length ≤ 8192) (hd : dst.length ≤ 100000000) {k : Nat} (hk : 9000 ≤ k) : frame_Put.f k dst data = some (dst ++ frameL data, 0) := by
  unfold frame_Put.f
  have e : ((data.length : Int)) % 4294967296 = data.length := by omega
  rw [if_neg (by omega), e, put32_eq (by simp) _ (by omega)]
  simp only [Option.bind_some, List.nil_append]
  rw [if_pos (by simp [le4]; omega)]
  have hh : le4 (data.length : Int) ++ data = headL data := rfl
  rw [hh, sum_eq (headL_bytes hb) (by rw [headL_len]; omega) (by rw [headL_len]; omega)]
  simp only [Option.bind_some]
  rw [put32_eq (by rw [headL_len]; omega) _ (by omega)]
  simp only [Option.bind_some]
  have hf : headL data ++ le4 (sumN (headL data) : Int) = frameL data := rfl
  rw [hf]
  unfold slices_Concat_byte_byte.f
  rw [if_pos (by simp [frameL_len]; omega)]
  simp
/-- The first frame of some bytes. -/
def cutN (l : List Int) : List Int × List Int × Int :=
  if l.length < 4 then ([], [], 3) else
  if u32 l > 8192 then ([], [], 2) else
  if l.length < 8 + (u32 l).toNat then ([], [], 3) else
  if (sumN (l.take (4 + (u32 l).toNat)) : Int) = u32 (l.drop (4 + (u32 l).toNat)) then ((l.take (4 + (u32 l).toNat)).drop 4, l.drop (8 + (u32 l).toNat), 0) else ([], [], 2)
theorem cut_eq {l : List Int} (hb : Bytes l) (hl : l.length ≤ 140737488355328) {k : Nat} (hk : 9000 ≤ k) : frame_Cut.f k l = some (cutN l) := by
  unfold frame_Cut.f cutN
  by_cases h4 : l.length < 4
  · rw [if_pos (by omega), if_pos h4]
  rw [if_neg (by omega), if_neg h4, u32_eq hb (by omega)]
  have hr := u32_range hb (by omega)
  simp only [Option.bind_some]
  by_cases h5 : u32 l > 8192
  · rw [if_pos h5, if_pos h5]
  rw [if_neg h5, if_neg h5]
  have w1 : wrap64 (4 + wrap64 (u32 l)) = 4 + u32 l := by unfold wrap64; omega
  have w2 : wrap64 ((l.length : Int) - 4) = (l.length : Int) - 4 := by unfold wrap64; omega
  have w3 : wrap64 (4 + u32 l + 4) = 8 + u32 l := by unfold wrap64; omega
  rw [w1, w2, w3]
  by_cases h6 : l.length < 8 + (u32 l).toNat
  · rw [if_pos (by omega), if_pos h6]
  rw [if_neg (by omega), if_neg h6, if_pos (by omega), if_pos (by omega)]
  have e1 : (4 + u32 l).toNat = 4 + (u32 l).toNat := by omega
  have e2 : (8 + u32 l).toNat = 8 + (u32 l).toNat := by omega
  rw [e1, e2, sum_eq (hb.take _) (by rw [List.length_take]; omega) (by rw [List.length_take]; omega), u32_eq (hb.drop _) (by rw [List.length_drop]; omega)]
  simp only [Option.bind_some]
  by_cases h7 : (sumN (l.take (4 + (u32 l).toNat)) : Int) = u32 (l.drop (4 + (u32 l).toNat))
  · rw [if_pos h7, if_pos h7, if_pos (by omega)]
    unfold slices_Clone_byte_byte.f
    rw [if_pos (by simp; omega)]
    simp only [Option.bind_some]
    rw [if_pos (by omega), if_pos (by omega), if_pos (by simp; omega)]
    rfl
  · rw [if_neg h7, if_neg h7]
/-! ### a byte that is turned -/
theorem u32_frame {data : List Int} (hl : data.length ≤ 8192) (rest : List Int) : u32 (frameL data ++ rest) = data.length := by
  unfold frameL headL
  rw [List.append_assoc, List.append_assoc]
  exact u32_of_le4 _ (by omega) (by omega) _
theorem u32_le4 {n : Nat} (h : n < 4294967296) (rest : List Int) : u32 (le4 n ++ rest) = n := u32_of_le4 _ (by omega) (by omega) _
end Go.Proofs.Ytlpnpnjjmpkapaa.PAll
