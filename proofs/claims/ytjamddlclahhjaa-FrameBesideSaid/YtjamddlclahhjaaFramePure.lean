/-
  The plain law of frames: what frame.Put and frame.Cut compute; FramePuts.
  Conditions: bytes are from 0 to 255.
-/
import Derived.Test.YtjamddlclahhjaaCrcPure
import Derived.Test.YtjamddlclahhjaaPAllx1
import Derived.Test.YtjamddlclahhjaaPAllx2
import Derived.Test.YtjamddlclahhjaaPAllx3
namespace Go.Proofs.Ytjamddlclahhjaa.PAll
open Go.RowKit Go.Proofs.YtjamddlclahhjaaW.PrintWords Go.Proofs.YtjamddlclahhjaaW.PrintLast Go.Proofs.YtjamddlclahhjaaW.PrintMore
set_option linter.unusedVariables false
set_option linter.unusedSimpArgs false

/-- Bytes ahead of a frame's sum. -/
def headL (data : List Int) : List Int := le4 data.length ++ data
/-- A frame. -/
def frameL (data : List Int) : List Int := headL data ++ le4 (sumN (headL data))
theorem headL_len (data : List Int) : (headL data).length = 4 + data.length := by simp [headL, le4]; omega
theorem frameL_len (data : List Int) : (frameL data).length = 8 + data.length := by simp [frameL, headL_len, le4]; omega
theorem headL_bytes {data : List Int} (h : Bytes data) : Bytes (headL data) := (le4_bytes _).append h
theorem frameL_bytes {data : List Int} (h : Bytes data) : Bytes (frameL data) := (headL_bytes h).append (le4_bytes _)
theorem put_eq {dst data : List Int} (hb : Bytes data) (hl : data.length ≤ 8192) (hd : dst.length ≤ 100000000) {k : Nat} (hk : 9000 ≤ k) : frame_Put.f k dst data = some (dst ++ frameL data, 0) := by
  unfold frame_Put.f
  have e : ((data.length : Int)) % 4294967296 = data.length := by omega
  rw [if_neg (by omega), e, put32_eq (by simp) _ (by omega)]
  simp only [Option.bind_some, List.nil_append]
  rw [if_pos (by simp [le4]; omega)]
  have hh : le4 (data.length : Int) ++ data = headL data := rfl
  rw [hh, sum_eq (headL_bytes hb) (by rw [headL_len]; omega) (by rw [headL_len]; omega)]
  simp only [Option.bind_some]
  rw [put32_eq (by rw [headL_len]; omega) _ (by omega)]
  simp only [Option.bind_some]
  have hf : headL data ++ le4 (sumN (headL data) : Int) = frameL data := rfl
  rw [hf]
  unfold slices_Concat_byte_byte.f
  rw [if_pos (by simp [frameL_len]; omega)]
  simp
theorem put_long {dst data : List Int} (hl : 8192 < data.length) (k : Nat) : frame_Put.f k dst data = some ([], 4) := by
  unfold frame_Put.f
  rw [if_pos (by omega)]
theorem and_255 (a : Nat) (ha : a < 4294967296) : Go.bits .and .u32 (a : Int) 255 = ((a % 256 : Nat) : Int) := by
  have h3 : (BitVec.ofInt 32 (a : Int) &&& BitVec.ofInt 32 (255 : Int)).toNat = a % 256 := by
    rw [BitVec.toNat_and, BitVec.ofInt_natCast, BitVec.toNat_ofNat, Nat.mod_eq_of_lt (by omega), show (BitVec.ofInt 32 (255 : Int)).toNat = 2 ^ 8 - 1 from by decide, Nat.and_two_pow_sub_one_eq_mod]
  show IntKind.u32.wrap (((BitVec.ofInt 32 (a : Int) &&& BitVec.ofInt 32 (255 : Int)).toNat : Nat) : Int) = _
  rw [h3]
  simp [IntKind.wrap, IntKind.signed, IntKind.bits]
  omega
theorem four_eq {n : Int} (h0 : 0 ≤ n) (h1 : n < 4294967296) : winnowref02_four.f n = some (le4 n) := by
  obtain ⟨m, rfl⟩ := Int.eq_ofNat_of_zero_le h0
  have e1 : (m : Int) / 256 = ((m / 256 : Nat) : Int) := by omega
  have e2 : (m : Int) / 65536 = ((m / 65536 : Nat) : Int) := by omega
  unfold winnowref02_four.f le4
  rw [e1, e2, and_255 m (by omega), and_255 _ (by omega), and_255 _ (by omega)]
  simp only [Option.some.injEq, List.cons.injEq, and_true]
  omega
theorem rput_eq {dst data : List Int} (hb : Bytes data) (hl : data.length ≤ 8192) (hd : dst.length ≤ 100000000) {k : Nat} (hk : 82000 ≤ k) : winnowref02_Put.f k dst data = some (dst ++ frameL data, 0) := by
  unfold winnowref02_Put.f
  have e : ((data.length : Int)) % 4294967296 = data.length := by omega
  rw [if_neg (by omega), e, four_eq (by omega) (by omega)]
  simp only [Option.bind_some]
  rw [if_pos (by simp [le4]; omega)]
  simp only [List.nil_append, List.length_nil]
  have hh : le4 (data.length : Int) ++ data = headL data := rfl
  rw [hh, if_pos (by omega), if_pos (by rw [headL_len]; omega)]
  rw [rsum_eq (headL_bytes hb) (by rw [headL_len]; omega) (by rw [headL_len]; omega)]
  have hs := sumN_lt (headL_bytes hb)
  simp only [Option.bind_some]
  rw [four_eq (by omega) (by omega)]
  simp only [Option.bind_some]
  rw [if_pos (by simp [headL_len, le4]; omega)]
  simp [frameL]
theorem rput_long {dst data : List Int} (hl : 8192 < data.length) (k : Nat) : winnowref02_Put.f k dst data = some ([], 4) := by
  unfold winnowref02_Put.f
  rw [if_pos (by omega)]
theorem FramePuts (dst data : List Int) (hd : Bytes dst) (hb : Bytes data) : winnowlaw02_FramePuts.f 200000 dst data = some true := by
  have ha : ∀ b, b = true → winnowlaw02_FramePuts.j0 200000 dst data b = some true := by
    rintro _ rfl
    rw [winnowlaw02_FramePuts.j0, if_pos rfl]
    rfl
  unfold winnowlaw02_FramePuts.f
  by_cases h1 : (dst.length : Int) > 20000
  · rw [if_pos h1]; exact ha _ rfl
  · rw [if_neg h1]
    by_cases h2 : (data.length : Int) > 20000
    · exact ha _ (by simpa using h2)
    · rw [winnowlaw02_FramePuts.j0, if_neg (by simpa using h2)]
      by_cases h3 : data.length ≤ 8192
      · rw [put_eq hb h3 (by omega) (by omega), rput_eq hb h3 (by omega) (by omega)]
        simp only [Option.bind_some]
        rw [same_eq _ _ (by simp [frameL_len]; omega) (by simp [frameL_len]; omega)]
        simp only [Option.bind_some]
        rw [if_pos (by simp), if_pos trivial]
        rfl
      · rw [put_long (by omega), rput_long (by omega)]
        simp only [Option.bind_some]
        rw [same_eq _ _ (by simp) (by simp)]
        simp only [Option.bind_some]
        rw [if_pos (by simp), if_pos trivial]
        rfl
end Go.Proofs.Ytjamddlclahhjaa.PAll
