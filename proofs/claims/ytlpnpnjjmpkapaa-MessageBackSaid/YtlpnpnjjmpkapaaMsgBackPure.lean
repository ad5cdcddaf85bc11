/-
  The bytes of a packet that is right: read back they are the packet; with more behind them and cut off they are none.
  Conditions: numbers are from 0 to 2^64 - 1, the packet is light.
-/
import Derived.Test.YtlpnpnjjmpkapaaMsgPay
import Derived.Test.YtlpnpnjjmpkapaaMsgDec
namespace Go.Proofs.Ytlpnpnjjmpkapaa.PAll
open Go.RowKit Go.Proofs.YtlpnpnjjmpkapaaW.PrintWords Go.Proofs.YtlpnpnjjmpkapaaW.PrintLast Go.Proofs.YtlpnpnjjmpkapaaW.PrintMore
set_option linter.unusedVariables false
set_option linter.unusedSimpArgs false
def R64 (n : Int) : Prop := 0 ≤ n ∧ n < 18446744073709551616
def W76 (s : S76) : Prop := R64 s.f0 ∧ R64 s.f1 ∧ R64 s.f2 ∧ R64 s.f3 ∧ R64 s.f4
def WP (a1 a2 a3 a4 a5 : Int) (l8 : List S76) (l9 : List S92) (l10 : List Int) : Prop :=
 R64 a1 ∧ R64 a2 ∧ R64 a3 ∧ R64 a4 ∧ R64 a5 ∧ (∀ s ∈ l8, W76 s) ∧ (∀ s ∈ l9, R64 s.f0 ∧ R64 s.f1) ∧ (∀ n ∈ l10, R64 n)
theorem to8 (a b c d e f g h : Int) : num_U64.to [a, b, c, d, e, f, g, h] 8 = (((((((0 * 256 + a) * 256 + b) * 256 + c) * 256 + d) * 256 + e) * 256 + f) * 256 + g) * 256 + h := rfl
theorem u64_be8 {n : Int} (h0 : 0 ≤ n) (h1 : n < 18446744073709551616) : num_U64.f (be8 n) = some n := by
 have hb : ∀ x ∈ (be8 n).take 8, 0 ≤ x ∧ x ≤ 255 := by
  intro x hx
  have hx := List.mem_of_mem_take hx
  simp only [be8, List.mem_cons, List.not_mem_nil, or_false] at hx
  omega
 unfold num_U64.f
 rw [if_pos ⟨by rw [be8_len]; omega, hb⟩]
 unfold be8
 rw [to8]
 have s7 : 0 * 256 + n / 72057594037927936 % 256 = n / 72057594037927936 := by omega
 have s6 : n / 72057594037927936 * 256 + n / 281474976710656 % 256 = n / 281474976710656 := by omega
 have s5 : n / 281474976710656 * 256 + n / 1099511627776 % 256 = n / 1099511627776 := by omega
 have s4 : n / 1099511627776 * 256 + n / 4294967296 % 256 = n / 4294967296 := by omega
 have s3 : n / 4294967296 * 256 + n / 16777216 % 256 = n / 16777216 := by omega
 have s2 : n / 16777216 * 256 + n / 65536 % 256 = n / 65536 := by omega
 have s1 : n / 65536 * 256 + n / 256 % 256 = n / 256 := by omega
 rw [s7, s6, s5, s4, s3, s2, s1]
 congr 1
 omega
theorem u32_take {l : List Int} {n : Nat} (h : 4 ≤ n) : u32 (l.take n) = u32 l := by
 have g : ∀ j : Int, 0 ≤ j → j < 4 → rd (l.take n) j = rd l j := by
  intro j h0 h1
  simp only [rd, List.getD_eq_getElem?_getD]
  rw [List.getElem?_take_of_lt (by omega)]
 unfold u32
 rw [g 0 (by omega) (by omega), g 1 (by omega) (by omega), g 2 (by omega) (by omega), g 3 (by omega) (by omega)]
theorem cut_frame {data : List Int} (hb : Bytes data) (hl : data.length ≤ 8192) (rest : List Int) : cutN (frameL data ++ rest) = (data, rest, 0) := by
 have hn : ((data.length : Int)).toNat = data.length := by omega
 have hln := frameL_len data
 have hs := sumN_lt (headL_bytes hb)
 unfold cutN
 rw [u32_frame hl, hn, if_neg (by simp; omega), if_neg (by omega), if_neg (by simp; omega)]
 have e1 : (frameL data ++ rest).take (4 + data.length) = headL data := by
  unfold frameL
  rw [List.append_assoc]
  exact List.take_left' (headL_len data)
 have e2 : (frameL data ++ rest).drop (4 + data.length) = le4 (sumN (headL data)) ++ rest := by
  unfold frameL
  rw [List.append_assoc]
  exact List.drop_left' (headL_len data)
 have e3 : (frameL data ++ rest).drop (8 + data.length) = rest := List.drop_left' hln
 rw [e1, e2, e3, u32_le4 hs, if_pos rfl]
 rfl
theorem cut_short {data : List Int} (hb : Bytes data) (hl : data.length ≤ 8192) {m : Nat} (hm : m < (frameL data).length) : cutN ((frameL data).take m) = ([], [], 3) := by
 have hln := frameL_len data
 unfold cutN
 by_cases h4 : m < 4
 ·rw [if_pos (by simp; omega)]
 ·have hu : u32 ((frameL data).take m) = data.length := by
   rw [u32_take (by omega)]
   have := u32_frame hl []
   rwa [List.append_nil] at this
  rw [hu, if_neg (by simp; omega), if_neg (by omega), if_pos (by simp; omega)]

theorem str_bytes (s : ByteArray) : strOfNums (bytesOf s) = s := by
 unfold strOfNums bytesOf
 rw [List.map_map]
 have : ((fun n : Int => UInt8.ofNat n.toNat) ∘ fun b : UInt8 => (b.toNat : Int)) = id := by
  funext b
  simp
 rw [this, List.map_id]
theorem ctk {X Y : List Int} {n : Nat} (hX : X.length = n) : span_Cut.tk (X ++ Y) 0 n = (X, Y, 0) := by
 unfold span_Cut.tk
 rw [if_pos rfl, if_neg (by simp; omega), List.take_left' hX, List.drop_left' hX]
theorem cnm {n : Int} (h : R64 n) {Y : List Int} : span_Cut.nm (be8 n ++ Y) 0 = some (n, Y, 0) := by
 unfold span_Cut.nm
 rw [ctk (be8_len n), u64_be8 h.1 h.2]
 rfl
theorem csm {c lo hi : Int} (h0 : lo ≤ c) (h1 : c ≤ hi) {Y : List Int} : span_Cut.sm (c :: Y) 0 lo hi = (c, Y, 0) := by
 unfold span_Cut.sm
 rw [show c :: Y = [c] ++ Y from rfl, ctk (X := [c]) (n := 1) rfl]
 have e : rd [c] 0 = c := rfl
 simp only [e]
 rw [if_neg (by omega)]
theorem ctx {s : ByteArray} (h1 : 1 ≤ s.size) (h2 : s.size ≤ 32) {Y : List Int} : span_Cut.tx (txt s ++ Y) 0 = (s, Y, 0) := by
 unfold span_Cut.tx txt
 rw [List.cons_append, show (s.size : Int) % 256 = s.size by omega, csm (by omega) (by omega)]
 rw [if_pos rfl, Int.toNat_natCast, ctk (bytesOf_length s), str_bytes]
theorem name_pos {s : ByteArray} (h : span_Name.f s = some 0) : 1 ≤ s.size ∧ s.size ≤ 32 := by
 unfold span_Name.f at h
 split at h
 ·cases h
 ·rename_i hn
  have hz : ¬ s.size = 0 := fun e => hn (.inl (by rw [ByteArray.toList_eq]; exact List.eq_nil_of_length_eq_zero (by rw [data_length]; exact e)))
  omega
theorem right_zero {t i s l : Int} {sv nm : ByteArray} (h : rightN t i s l sv nm = some 0) : (1 ≤ sv.size ∧ sv.size ≤ 32) ∧ (1 ≤ nm.size ∧ nm.size ≤ 32) := by
 unfold rightN at h
 split at h
 ·cases h
 ·obtain ⟨x, hx, vx⟩ := name_val sv
  obtain ⟨y, hy, vy⟩ := name_val nm
  rw [hx, hy] at h
  simp only [Option.bind_some, Option.some.injEq] at h
  split at h
  ·rename_i h0
   subst h0 h
   exact ⟨name_pos hx, name_pos hy⟩
  ·rename_i h0
   exact absurd h h0

theorem spanL_assoc (a0 a1 a2 a3 a4 : Int) (a5 a6 : ByteArray) (a7 : Bool) (Y : List Int) : spanL a0 a1 a2 a3 a4 a5 a6 a7 ++ Y = be8 a0 ++ (be8 a1 ++ (be8 a2 ++ (be8 a3 ++ (be8 a4 ++ ((if a7 = true then 1 else 0) :: (txt a5 ++ (txt a6 ++ Y))))))) := by
 simp [spanL]
theorem flag_eq (a7 : Bool) : ((if a7 = true then (1 : Int) else 0) == 1) = a7 := by cases a7 <;> rfl
theorem cut_span (a0 a1 a2 a3 a4 : Int) (a5 a6 : ByteArray) (a7 : Bool) (r0 : R64 a0) (r1 : R64 a1) (r2 : R64 a2) (r3 : R64 a3) (r4 : R64 a4) (hR : rightN a0 a1 a3 a4 a5 a6 = some 0) (Y : List Int) (hY : Y.length ≤ 140737488355328) :
  span_Cut.f (spanL a0 a1 a2 a3 a4 a5 a6 a7 ++ Y) = some (a0, a1, a2, a3, a4, a5, a6, a7, Y, 0) := by
 obtain ⟨⟨s1, s2⟩, ⟨t1, t2⟩⟩ := right_zero hR
 rw [spanL_assoc]
 unfold span_Cut.f
 rw [cnm r0]
 simp only [Option.bind_some]
 rw [cnm r1]
 simp only [Option.bind_some]
 rw [cnm r2]
 simp only [Option.bind_some]
 rw [cnm r3]
 simp only [Option.bind_some]
 rw [cnm r4]
 simp only [Option.bind_some]
 rw [csm (by split <;> omega) (by split <;> omega)]
 simp only
 rw [ctx s1 s2]
 simp only
 rw [ctx t1 t2]
 simp only [if_true, flag_eq]
 rw [right_eq _ _ _ _ _ _ _ _ (by omega), hR]
 simp only [Option.bind_some, if_true]
 unfold slices_Clone_byte_byte.f
 rw [if_pos (by omega)]
 rfl
theorem mtk {X Y : List Int} {n : Nat} (hX : X.length = n) : message_Decode.tk (X ++ Y) false n = (X, Y, false) := by
 unfold message_Decode.tk
 rw [if_neg (by simp; omega), List.take_left' hX, List.drop_left' hX]
theorem mtk1 (c : Int) (Y : List Int) : message_Decode.tk (c :: Y) false 1 = ([c], Y, false) := mtk (X := [c]) rfl
theorem mnm {n : Int} (h : R64 n) (Y : List Int) : message_Decode.nm (be8 n ++ Y) false = some (n, Y, false) := by
 unfold message_Decode.nm
 rw [mtk (be8_len n), u64_be8 h.1 h.2]
 rfl
theorem mnm0 {n : Int} (h : R64 n) : message_Decode.nm (be8 n) false = some (n, [], false) := by
 have := mnm h []
 rwa [List.append_nil] at this
theorem cuts_flat : ∀ (l : List S76), (∀ s ∈ l, W76 s ∧ rN s = 0) → l.length ≤ 1000 → mdec.cuts l.length (l.flatMap spB) = some (l, [])
 | [], _, _ => rfl
 | s :: l, h, hl => by
  obtain ⟨⟨r0, r1, r2, r3, r4⟩, h0⟩ := h s (List.mem_cons_self ..)
  have hr := rN_eq s
  rw [h0] at hr
  have ih := cuts_flat l (fun t ht => h t (List.mem_cons_of_mem _ ht)) (by rw [List.length_cons] at hl; omega)
  have hq := flat_len (l := l) (f := spB) 107 (fun x hx => spB_len (h x (List.mem_cons_of_mem _ hx)).2)
  rw [List.length_cons] at hl
  rw [List.length_cons, mdec.cuts, List.flatMap_cons, show spB s = spanL s.f0 s.f1 s.f2 s.f3 s.f4 s.f5 s.f6 s.f7 from rfl, cut_span _ _ _ _ _ _ _ _ r0 r1 r2 r3 r4 hr _ (by omega)]
  simp only [Option.bind_some, if_true]
  rw [ih]
  rfl
theorem nks_flat : ∀ (l : List Int), (∀ n ∈ l, R64 n) → mdec.nks l.length (l.flatMap be8) = some (l, [])
 | [], _ => rfl
 | n :: l, h => by
  have ih := nks_flat l (fun t ht => h t (List.mem_cons_of_mem _ ht))
  rw [List.length_cons, mdec.nks, List.flatMap_cons, mnm (h n (List.mem_cons_self ..))]
  simp only [Option.bind_some, if_true]
  rw [ih]
  rfl
theorem mks_flat : ∀ (l : List S92), (∀ s ∈ l, R64 s.f0 ∧ R64 s.f1 ∧ 0 ≤ s.f2 ∧ s.f2 ≤ 2) → mdec.mks l.length (l.flatMap memL) = some (l, [])
 | [], _ => rfl
 | s :: l, h => by
  obtain ⟨r0, r1, q0, q1⟩ := h s (List.mem_cons_self ..)
  have ih := mks_flat l (fun t ht => h t (List.mem_cons_of_mem _ ht))
  have e2 : s.f2 % 256 = s.f2 := by omega
  rw [List.length_cons, mdec.mks, List.flatMap_cons, show memL s ++ l.flatMap memL = be8 s.f0 ++ (be8 s.f1 ++ (s.f2 :: l.flatMap memL)) by simp [memL, e2], mnm r0]
  simp only [Option.bind_some, if_true]
  rw [mnm r1]
  simp only [Option.bind_some]
  rw [mtk1]
  have e : rd [s.f2] 0 = s.f2 := rfl
  simp only [e]
  rw [if_pos ⟨trivial, trivial, q0, by omega⟩, ih]
  rfl
/-- What 'rest' reads of X. -/
def RestOK (X : List Int) (kd tr bn bd sn sd v : Int) (ok : Bool) (l8 : List S76) (l9 : List S92) (l10 : List Int) : Prop :=
 ∀ (w0 W : World) (g gp : Nat), message_Decode.St w0 W g X false → W.heap[gp]? = some (.cells #[.int .i64 kd, .int .u64 tr, .int .u64 0, .int .u64 0, .int .u64 0, .int .u64 0, .int .i64 0, .bool false, .slice none 0 0, .slice none 0 0, .slice none 0 0] 30 (0, 0)) → w0.heap.size ≤ gp → gp ≠ g →
  Calls Try.prog 46 #[.pointer (some ⟨g, 0, none⟩), .pointer (some ⟨gp, 0, none⟩)] W fun e w' => e = .returned (.tuple #[]) ∧ mdec.RP w0 W w' g gp kd tr bn bd sn sd v ok l8 l9 l10
theorem kind_of (a0 a1 a2 a3 a4 a5 a6 : Int) (a7 : Bool) {l8 : List S76} {l9 : List S92} {l10 : List Int} (hl8 : l8.length ≤ 40) (hl9 : l9.length ≤ 100) (hl10 : l10.length ≤ 100)
  (h : message_Right.f a0 a1 a2 a3 a4 a5 a6 a7 l8 l9 l10 = some 0) : 1 ≤ a0 ∧ a0 ≤ 10 := by
 by_cases c : 1 ≤ a0 ∧ a0 ≤ 10
 ·exact c
 exfalso
 unfold message_Right.f at h
 rw [if_pos ⟨by omega, by omega, by omega⟩, if_neg (by omega), if_neg (by omega), if_neg (by omega), if_neg (by omega), if_neg (by omega), if_neg (by omega), if_neg (by omega), if_neg (by omega), if_neg (by omega), if_neg (by omega)] at h
 exact absurd h (by decide)
theorem rest_1 (a1 a2 a3 a4 a5 a6 : Int) (a7 : Bool) {l8 : List S76} {l9 : List S92} {l10 : List Int} (hl8 : l8.length ≤ 40) (hl9 : l9.length ≤ 100) (hl10 : l10.length ≤ 100) (wp : WP a1 a2 a3 a4 a5 l8 l9 l10) (h : message_Right.f 1 a1 a2 a3 a4 a5 a6 a7 l8 l9 l10 = some 0) :
  ∃ X, payL 1 a1 a2 a3 a4 a5 a6 a7 l8 l9 l10 = 1 :: (be8 a1 ++ X) ∧ RestOK X 1 a1 a2 a3 a4 a5 a6 a7 l8 l9 l10 := by
 obtain ⟨p1, p2, p3, p4, p5, p8, p9, p10⟩ := wp
 have w8 : ∀ s ∈ l8, 0 ≤ s.f1 ∧ s.f1 < 18446744073709551616 := fun s hs => (p8 s hs).2.1
 obtain ⟨rfl, rfl, rfl, rfl, rfl, rfl, rfl, rfl, _, hg, hn⟩ := good1 a1 a2 a3 a4 a5 a6 a7 hl8 hl9 hl10 w8 h
 refine ⟨(l8.length : Int) :: l8.flatMap spB, by simp [payL], fun w0 W g gp hst hp hgp hne => mdec.rest1 w0 W g gp _ a1 l8.length l8 (l8.flatMap spB) _ hst hp hgp hne (by omega) (mtk1 _ _) rfl (cuts_flat l8 (fun s hs => ⟨p8 s hs, (goB_all l8 a1 [] hg s hs).1⟩) (by omega))⟩
theorem rest_2 (a1 a2 a3 a4 a5 a6 : Int) (a7 : Bool) {l8 : List S76} {l9 : List S92} {l10 : List Int} (hl8 : l8.length ≤ 40) (hl9 : l9.length ≤ 100) (hl10 : l10.length ≤ 100) (wp : WP a1 a2 a3 a4 a5 l8 l9 l10) (h : message_Right.f 2 a1 a2 a3 a4 a5 a6 a7 l8 l9 l10 = some 0) :
  ∃ X, payL 2 a1 a2 a3 a4 a5 a6 a7 l8 l9 l10 = 2 :: (be8 a1 ++ X) ∧ RestOK X 2 a1 a2 a3 a4 a5 a6 a7 l8 l9 l10 := by
 obtain ⟨p1, p2, p3, p4, p5, p8, p9, p10⟩ := wp
 have w8 : ∀ s ∈ l8, 0 ≤ s.f1 ∧ s.f1 < 18446744073709551616 := fun s hs => (p8 s hs).2.1
 obtain ⟨rfl, rfl, rfl, rfl, rfl, rfl, rfl, rfl, _, hg, hn⟩ := good2 a1 a2 a3 a4 a5 a6 a7 hl8 hl9 hl10 w8 h
 refine ⟨(l8.length : Int) :: l8.flatMap spB, by simp [payL], fun w0 W g gp hst hp hgp hne => mdec.rest2 w0 W g gp _ a1 l8.length l8 (l8.flatMap spB) _ hst hp hgp hne (by omega) (mtk1 _ _) rfl (cuts_flat l8 (fun s hs => ⟨p8 s hs, (goB_all l8 a1 [] hg s hs).1⟩) (by omega))⟩
theorem rest_3 (a1 a2 a3 a4 a5 a6 : Int) (a7 : Bool) {l8 : List S76} {l9 : List S92} {l10 : List Int} (hl8 : l8.length ≤ 40) (hl9 : l9.length ≤ 100) (hl10 : l10.length ≤ 100) (wp : WP a1 a2 a3 a4 a5 l8 l9 l10) (h : message_Right.f 3 a1 a2 a3 a4 a5 a6 a7 l8 l9 l10 = some 0) :
  a1 = 0 ∧ ∃ X, payL 3 a1 a2 a3 a4 a5 a6 a7 l8 l9 l10 = 3 :: X ∧ RestOK X 3 0 a2 a3 a4 a5 a6 a7 l8 l9 l10 := by
 obtain ⟨p1, p2, p3, p4, p5, p8, p9, p10⟩ := wp
 have w8 : ∀ s ∈ l8, 0 ≤ s.f1 ∧ s.f1 < 18446744073709551616 := fun s hs => (p8 s hs).2.1
 obtain ⟨rfl, rfl, rfl, rfl, rfl, rfl, rfl, rfl, rfl, hm, hn⟩ := good3 a1 a2 a3 a4 a5 a6 a7 hl8 hl9 hl10 h
 refine ⟨rfl, ⟨(l9.length : Int) :: l9.flatMap memL, by simp [payL], fun w0 W g gp hst hp hgp hne => mdec.rest3 w0 W g gp _ l9.length l9 (l9.flatMap memL) _ hst hp hgp hne (by omega) (mtk1 _ _) rfl (mks_flat l9 (fun s hs => ⟨(p9 s hs).1, (p9 s hs).2, hm s hs⟩))⟩⟩
theorem rest_4 (a1 a2 a3 a4 a5 a6 : Int) (a7 : Bool) {l8 : List S76} {l9 : List S92} {l10 : List Int} (hl8 : l8.length ≤ 40) (hl9 : l9.length ≤ 100) (hl10 : l10.length ≤ 100) (wp : WP a1 a2 a3 a4 a5 l8 l9 l10) (h : message_Right.f 4 a1 a2 a3 a4 a5 a6 a7 l8 l9 l10 = some 0) :
  ∃ X, payL 4 a1 a2 a3 a4 a5 a6 a7 l8 l9 l10 = 4 :: (be8 a1 ++ X) ∧ RestOK X 4 a1 a2 a3 a4 a5 a6 a7 l8 l9 l10 := by
 obtain ⟨p1, p2, p3, p4, p5, p8, p9, p10⟩ := wp
 have w8 : ∀ s ∈ l8, 0 ≤ s.f1 ∧ s.f1 < 18446744073709551616 := fun s hs => (p8 s hs).2.1
 obtain ⟨rfl, rfl, rfl, rfl, rfl, rfl, rfl⟩ := good4 a1 a2 a3 a4 a5 a6 a7 hl8 hl9 hl10 h
 refine ⟨be8 a2 ++ be8 a3, by simp [payL], fun w0 W g gp hst hp hgp hne => mdec.rest4 w0 W g gp _ a1 a2 a3 _ hst hp hgp hne (mnm p2 _) (mnm0 p3)⟩
theorem rest_6 (a1 a2 a3 a4 a5 a6 : Int) (a7 : Bool) {l8 : List S76} {l9 : List S92} {l10 : List Int} (hl8 : l8.length ≤ 40) (hl9 : l9.length ≤ 100) (hl10 : l10.length ≤ 100) (wp : WP a1 a2 a3 a4 a5 l8 l9 l10) (h : message_Right.f 6 a1 a2 a3 a4 a5 a6 a7 l8 l9 l10 = some 0) :
  ∃ X, payL 6 a1 a2 a3 a4 a5 a6 a7 l8 l9 l10 = 6 :: (be8 a1 ++ X) ∧ RestOK X 6 a1 a2 a3 a4 a5 a6 a7 l8 l9 l10 := by
 obtain ⟨p1, p2, p3, p4, p5, p8, p9, p10⟩ := wp
 have w8 : ∀ s ∈ l8, 0 ≤ s.f1 ∧ s.f1 < 18446744073709551616 := fun s hs => (p8 s hs).2.1
 obtain ⟨rfl, rfl, rfl, rfl, rfl, rfl, v1, v2⟩ := good6 a1 a2 a3 a4 a5 a6 a7 hl8 hl9 hl10 h
 refine ⟨be8 a2 ++ (be8 a3 ++ [a6]), by simp [payL], fun w0 W g gp hst hp hgp hne => mdec.rest6 w0 W g gp _ a1 a2 a3 a6 _ _ _ hst hp hgp hne (by omega) (by omega) (mnm p2 _) (mnm p3 _) (mtk1 _ _) rfl⟩
theorem rest_8 (a1 a2 a3 a4 a5 a6 : Int) (a7 : Bool) {l8 : List S76} {l9 : List S92} {l10 : List Int} (hl8 : l8.length ≤ 40) (hl9 : l9.length ≤ 100) (hl10 : l10.length ≤ 100) (wp : WP a1 a2 a3 a4 a5 l8 l9 l10) (h : message_Right.f 8 a1 a2 a3 a4 a5 a6 a7 l8 l9 l10 = some 0) :
  ∃ X, payL 8 a1 a2 a3 a4 a5 a6 a7 l8 l9 l10 = 8 :: (be8 a1 ++ X) ∧ RestOK X 8 a1 a2 a3 a4 a5 a6 a7 l8 l9 l10 := by
 obtain ⟨p1, p2, p3, p4, p5, p8, p9, p10⟩ := wp
 have w8 : ∀ s ∈ l8, 0 ≤ s.f1 ∧ s.f1 < 18446744073709551616 := fun s hs => (p8 s hs).2.1
 obtain ⟨rfl, rfl, rfl, rfl, rfl, rfl, rfl, rfl, v1, v2⟩ := good8 a1 a2 a3 a4 a5 a6 a7 hl8 hl9 hl10 h
 refine ⟨[a6], by simp [payL], fun w0 W g gp hst hp hgp hne => mdec.rest8 w0 W g gp _ a1 a6 _ hst hp hgp hne (by omega) (by omega) (mtk1 _ _) rfl⟩
theorem rest_5 (a1 a2 a3 a4 a5 a6 : Int) (a7 : Bool) {l8 : List S76} {l9 : List S92} {l10 : List Int} (hl8 : l8.length ≤ 40) (hl9 : l9.length ≤ 100) (hl10 : l10.length ≤ 100) (wp : WP a1 a2 a3 a4 a5 l8 l9 l10) (h : message_Right.f 5 a1 a2 a3 a4 a5 a6 a7 l8 l9 l10 = some 0) :
  ∃ X, payL 5 a1 a2 a3 a4 a5 a6 a7 l8 l9 l10 = 5 :: (be8 a1 ++ X) ∧ RestOK X 5 a1 a2 a3 a4 a5 a6 a7 l8 l9 l10 := by
 obtain ⟨p1, p2, p3, p4, p5, p8, p9, p10⟩ := wp
 have w8 : ∀ s ∈ l8, 0 ≤ s.f1 ∧ s.f1 < 18446744073709551616 := fun s hs => (p8 s hs).2.1
 obtain ⟨rfl, rfl, rfl, v1, v2⟩ := good5 a1 a2 a3 a4 a5 a6 a7 hl8 hl9 hl10 h
 refine ⟨be8 a2 ++ (be8 a3 ++ (okN a7 :: (be8 a4 ++ (be8 a5 ++ [a6])))), by simp [payL], fun w0 W g gp hst hp hgp hne => mdec.rest5 w0 W g gp _ a1 a2 a3 a4 a5 a6 a7 _ _ _ _ _ _ _ hst hp hgp hne (by omega) (by omega) (mnm p2 _) (mnm p3 _) (mtk1 _ _) rfl (mnm p4 _) (mnm p5 _) (mtk1 _ _) rfl⟩
theorem rest_7 (a1 a2 a3 a4 a5 a6 : Int) (a7 : Bool) {l8 : List S76} {l9 : List S92} {l10 : List Int} (hl8 : l8.length ≤ 40) (hl9 : l9.length ≤ 100) (hl10 : l10.length ≤ 100) (wp : WP a1 a2 a3 a4 a5 l8 l9 l10) (h : message_Right.f 7 a1 a2 a3 a4 a5 a6 a7 l8 l9 l10 = some 0) :
  ∃ X, payL 7 a1 a2 a3 a4 a5 a6 a7 l8 l9 l10 = 7 :: (be8 a1 ++ X) ∧ RestOK X 7 a1 a2 a3 a4 a5 a6 a7 l8 l9 l10 := by
 obtain ⟨p1, p2, p3, p4, p5, p8, p9, p10⟩ := wp
 have w8 : ∀ s ∈ l8, 0 ≤ s.f1 ∧ s.f1 < 18446744073709551616 := fun s hs => (p8 s hs).2.1
 obtain ⟨rfl, rfl, rfl, rfl⟩ := good7 a1 a2 a3 a4 a5 a6 a7 hl8 hl9 hl10 h
 refine ⟨be8 a2 ++ (be8 a3 ++ (okN a7 :: (be8 a4 ++ be8 a5))), by simp [payL], fun w0 W g gp hst hp hgp hne => mdec.rest7 w0 W g gp _ a1 a2 a3 a4 a5 a7 _ _ _ _ _ hst hp hgp hne (mnm p2 _) (mnm p3 _) (mtk1 _ _) rfl (mnm p4 _) (mnm0 p5)⟩
theorem rest_9 (a1 a2 a3 a4 a5 a6 : Int) (a7 : Bool) {l8 : List S76} {l9 : List S92} {l10 : List Int} (hl8 : l8.length ≤ 40) (hl9 : l9.length ≤ 100) (hl10 : l10.length ≤ 100) (wp : WP a1 a2 a3 a4 a5 l8 l9 l10) (h : message_Right.f 9 a1 a2 a3 a4 a5 a6 a7 l8 l9 l10 = some 0) :
  ∃ X, payL 9 a1 a2 a3 a4 a5 a6 a7 l8 l9 l10 = 9 :: (be8 a1 ++ X) ∧ RestOK X 9 a1 a2 a3 a4 a5 a6 a7 l8 l9 l10 := by
 obtain ⟨p1, p2, p3, p4, p5, p8, p9, p10⟩ := wp
 have w8 : ∀ s ∈ l8, 0 ≤ s.f1 ∧ s.f1 < 18446744073709551616 := fun s hs => (p8 s hs).2.1
 obtain ⟨rfl, rfl, rfl, rfl, rfl, rfl, hg, hn⟩ := good9 a1 a2 a3 a4 a5 a6 a7 hl8 hl9 hl10 w8 h
 refine ⟨be8 a2 ++ (be8 a3 ++ ((l8.length : Int) :: l8.flatMap spB)), by simp [payL], fun w0 W g gp hst hp hgp hne => mdec.rest9 w0 W g gp _ a1 a2 a3 l8.length l8 _ _ (l8.flatMap spB) _ hst hp hgp hne (by omega) (mnm p2 _) (mnm p3 _) (mtk1 _ _) rfl (cuts_flat l8 (fun s hs => ⟨p8 s hs, (goB_all l8 a1 [] hg s hs).1⟩) (by omega))⟩
theorem rest_10 (a1 a2 a3 a4 a5 a6 : Int) (a7 : Bool) {l8 : List S76} {l9 : List S92} {l10 : List Int} (hl8 : l8.length ≤ 40) (hl9 : l9.length ≤ 100) (hl10 : l10.length ≤ 100) (wp : WP a1 a2 a3 a4 a5 l8 l9 l10) (h : message_Right.f 10 a1 a2 a3 a4 a5 a6 a7 l8 l9 l10 = some 0) :
  ∃ X, payL 10 a1 a2 a3 a4 a5 a6 a7 l8 l9 l10 = 10 :: (be8 a1 ++ X) ∧ RestOK X 10 a1 a2 a3 a4 a5 a6 a7 l8 l9 l10 := by
 obtain ⟨p1, p2, p3, p4, p5, p8, p9, p10⟩ := wp
 have w8 : ∀ s ∈ l8, 0 ≤ s.f1 ∧ s.f1 < 18446744073709551616 := fun s hs => (p8 s hs).2.1
 obtain ⟨rfl, rfl, rfl, rfl, rfl, rfl, rfl, rfl, hn⟩ := good10 a1 a2 a3 a4 a5 a6 a7 hl8 hl9 hl10 h
 refine ⟨(l10.length : Int) :: l10.flatMap be8, by simp [payL], fun w0 W g gp hst hp hgp hne => mdec.rest10 w0 W g gp _ a1 l10.length l10 (l10.flatMap be8) _ hst hp hgp hne (by omega) (mtk1 _ _) rfl (nks_flat l10 p10)⟩
theorem rest_all (a0 a1 a2 a3 a4 a5 a6 : Int) (a7 : Bool) {l8 : List S76} {l9 : List S92} {l10 : List Int} (hl8 : l8.length ≤ 40) (hl9 : l9.length ≤ 100) (hl10 : l10.length ≤ 100) (wp : WP a1 a2 a3 a4 a5 l8 l9 l10) (h : message_Right.f a0 a1 a2 a3 a4 a5 a6 a7 l8 l9 l10 = some 0) :
  (a0 ≠ 3 ∧ 0 ≤ a0 ∧ a0 < 256 ∧ ∃ X, payL a0 a1 a2 a3 a4 a5 a6 a7 l8 l9 l10 = a0 :: (be8 a1 ++ X) ∧ RestOK X a0 a1 a2 a3 a4 a5 a6 a7 l8 l9 l10) ∨ (a0 = 3 ∧ a1 = 0 ∧ ∃ X, payL 3 0 a2 a3 a4 a5 a6 a7 l8 l9 l10 = 3 :: X ∧ RestOK X 3 0 a2 a3 a4 a5 a6 a7 l8 l9 l10) := by
 have hk := kind_of a0 a1 a2 a3 a4 a5 a6 a7 hl8 hl9 hl10 h
 by_cases k1 : a0 = 1
 ·subst k1
  exact .inl ⟨by decide, by decide, by decide, rest_1 a1 a2 a3 a4 a5 a6 a7 hl8 hl9 hl10 wp h⟩
 by_cases k2 : a0 = 2
 ·subst k2
  exact .inl ⟨by decide, by decide, by decide, rest_2 a1 a2 a3 a4 a5 a6 a7 hl8 hl9 hl10 wp h⟩
 by_cases k4 : a0 = 4
 ·subst k4
  exact .inl ⟨by decide, by decide, by decide, rest_4 a1 a2 a3 a4 a5 a6 a7 hl8 hl9 hl10 wp h⟩
 by_cases k5 : a0 = 5
 ·subst k5
  exact .inl ⟨by decide, by decide, by decide, rest_5 a1 a2 a3 a4 a5 a6 a7 hl8 hl9 hl10 wp h⟩
 by_cases k6 : a0 = 6
 ·subst k6
  exact .inl ⟨by decide, by decide, by decide, rest_6 a1 a2 a3 a4 a5 a6 a7 hl8 hl9 hl10 wp h⟩
 by_cases k7 : a0 = 7
 ·subst k7
  exact .inl ⟨by decide, by decide, by decide, rest_7 a1 a2 a3 a4 a5 a6 a7 hl8 hl9 hl10 wp h⟩
 by_cases k8 : a0 = 8
 ·subst k8
  exact .inl ⟨by decide, by decide, by decide, rest_8 a1 a2 a3 a4 a5 a6 a7 hl8 hl9 hl10 wp h⟩
 by_cases k9 : a0 = 9
 ·subst k9
  exact .inl ⟨by decide, by decide, by decide, rest_9 a1 a2 a3 a4 a5 a6 a7 hl8 hl9 hl10 wp h⟩
 by_cases k10 : a0 = 10
 ·subst k10
  exact .inl ⟨by decide, by decide, by decide, rest_10 a1 a2 a3 a4 a5 a6 a7 hl8 hl9 hl10 wp h⟩
 obtain rfl : a0 = 3 := by omega
 obtain ⟨rfl, X, e, q⟩ := rest_3 a1 a2 a3 a4 a5 a6 a7 hl8 hl9 hl10 wp h
 exact .inr ⟨rfl, rfl, X, e, q⟩
theorem dec_good (a0 a1 a2 a3 a4 a5 a6 : Int) (a7 : Bool) {l8 : List S76} {l9 : List S92} {l10 : List Int} (hl8 : l8.length ≤ 40) (hl9 : l9.length ≤ 100) (hl10 : l10.length ≤ 100) (wp : WP a1 a2 a3 a4 a5 l8 l9 l10) (h : message_Right.f a0 a1 a2 a3 a4 a5 a6 a7 l8 l9 l10 = some 0) (A : Option Addr) (c : Nat) (w : World) (hC : Kd.C (Kd.int .u8) w A (frameL (payL a0 a1 a2 a3 a4 a5 a6 a7 l8 l9 l10)).length (frameL (payL a0 a1 a2 a3 a4 a5 a6 a7 l8 l9 l10))) (hc : (frameL (payL a0 a1 a2 a3 a4 a5 a6 a7 l8 l9 l10)).length ≤ c) :
  Calls Try.prog 19 #[.slice A (frameL (payL a0 a1 a2 a3 a4 a5 a6 a7 l8 l9 l10)).length c] w fun e w' => ∃ v8 v9 v10 : Value, e = .returned (.tuple #[.agg #[.int .i64 a0, .int .u64 a1, .int .u64 a2, .int .u64 a3, .int .u64 a4, .int .u64 a5, .int .i64 a6, .bool a7, v8, v9, v10], .int .i64 0]) ∧ Kd.R k76 76 w' w.heap.size (fun _ => True) v8 l8 ∧ Kd.R k92 92 w' w.heap.size (fun _ => True) v9 l9 ∧ Kd.R (Kd.int .u64) 22 w' w.heap.size (fun _ => True) v10 l10 ∧ Below w.heap.size w w' := by
 have w8 : ∀ s ∈ l8, 0 ≤ s.f1 ∧ s.f1 < 18446744073709551616 := fun s hs => (wp.2.2.2.2.2.1 s hs).2.1
 obtain ⟨hB, hL⟩ := pay_small a0 a1 a2 a3 a4 a5 a6 a7 hl8 hl9 hl10 w8 h
 have hFl := frameL_len (payL a0 a1 a2 a3 a4 a5 a6 a7 l8 l9 l10)
 have hcut : frame_Cut.f 9000 (frameL (payL a0 a1 a2 a3 a4 a5 a6 a7 l8 l9 l10)) = some (payL a0 a1 a2 a3 a4 a5 a6 a7 l8 l9 l10, [], 0) := by
  rw [cut_eq (frameL_bytes hB) (by omega) (by omega)]
  have := cut_frame hB hL []
  rw [List.append_nil] at this
  rw [this]
 rcases rest_all a0 a1 a2 a3 a4 a5 a6 a7 hl8 hl9 hl10 wp h with ⟨k3, k0, k1, X, e, hq⟩ | ⟨rfl, rfl, X, e, hq⟩
 ·exact mdec.main a0 a1 a2 a3 a4 a5 a6 a7 l8 l9 l10 A c (frameL (payL a0 a1 a2 a3 a4 a5 a6 a7 l8 l9 l10)) w hC hc 9000 (payL a0 a1 a2 a3 a4 a5 a6 a7 l8 l9 l10) hcut _ _ (by rw [e]; exact mtk1 _ _) rfl k0 k1 k3 X (mnm wp.1 _) hq h
 ·exact mdec.main3 a2 a3 a4 a5 a6 a7 l8 l9 l10 A c (frameL (payL 3 0 a2 a3 a4 a5 a6 a7 l8 l9 l10)) w hC hc 9000 (payL 3 0 a2 a3 a4 a5 a6 a7 l8 l9 l10) hcut _ _ (by rw [e]; exact mtk1 _ _) rfl hq h
theorem dec_more (a0 a1 a2 a3 a4 a5 a6 : Int) (a7 : Bool) {l8 : List S76} {l9 : List S92} {l10 : List Int} (hl8 : l8.length ≤ 40) (hl9 : l9.length ≤ 100) (hl10 : l10.length ≤ 100) (wp : WP a1 a2 a3 a4 a5 l8 l9 l10) (h : message_Right.f a0 a1 a2 a3 a4 a5 a6 a7 l8 l9 l10 = some 0) (x : Int) (hx0 : 0 ≤ x) (hx1 : x ≤ 255) (A : Option Addr) (c : Nat) (w : World) (hC : Kd.C (Kd.int .u8) w A (frameL (payL a0 a1 a2 a3 a4 a5 a6 a7 l8 l9 l10) ++ [x]).length (frameL (payL a0 a1 a2 a3 a4 a5 a6 a7 l8 l9 l10) ++ [x])) (hc : (frameL (payL a0 a1 a2 a3 a4 a5 a6 a7 l8 l9 l10) ++ [x]).length ≤ c) :
  Calls Try.prog 19 #[.slice A (frameL (payL a0 a1 a2 a3 a4 a5 a6 a7 l8 l9 l10) ++ [x]).length c] w fun e w' => e = .returned (.tuple #[.agg #[.int .i64 0, .int .u64 0, .int .u64 0, .int .u64 0, .int .u64 0, .int .u64 0, .int .i64 0, .bool false, .slice none 0 0, .slice none 0 0, .slice none 0 0], .int .i64 6]) ∧ Below w.heap.size w w' := by
 have w8 : ∀ s ∈ l8, 0 ≤ s.f1 ∧ s.f1 < 18446744073709551616 := fun s hs => (wp.2.2.2.2.2.1 s hs).2.1
 obtain ⟨hB, hL⟩ := pay_small a0 a1 a2 a3 a4 a5 a6 a7 hl8 hl9 hl10 w8 h
 have hFl := frameL_len (payL a0 a1 a2 a3 a4 a5 a6 a7 l8 l9 l10)
 have hcut : frame_Cut.f 9000 (frameL (payL a0 a1 a2 a3 a4 a5 a6 a7 l8 l9 l10) ++ [x]) = some (payL a0 a1 a2 a3 a4 a5 a6 a7 l8 l9 l10, [x], 0) := by
  rw [cut_eq ((frameL_bytes hB).append (bytes1 hx0 hx1)) (by rw [List.length_append, List.length_singleton]; omega) (by omega), cut_frame hB hL]
 rcases rest_all a0 a1 a2 a3 a4 a5 a6 a7 hl8 hl9 hl10 wp h with ⟨k3, k0, k1, X, e, hq⟩ | ⟨rfl, rfl, X, e, hq⟩
 ·exact mdec.more a0 a1 a2 a3 a4 a5 a6 a7 l8 l9 l10 A c (frameL (payL a0 a1 a2 a3 a4 a5 a6 a7 l8 l9 l10) ++ [x]) w hC hc 9000 (payL a0 a1 a2 a3 a4 a5 a6 a7 l8 l9 l10) [x] (by simp) (by simp) hcut _ _ (by rw [e]; exact mtk1 _ _) rfl k0 k1 k3 X (mnm wp.1 _) hq
 ·exact mdec.more3 a2 a3 a4 a5 a6 a7 l8 l9 l10 A c (frameL (payL 3 0 a2 a3 a4 a5 a6 a7 l8 l9 l10) ++ [x]) w hC hc 9000 (payL 3 0 a2 a3 a4 a5 a6 a7 l8 l9 l10) [x] (by simp) (by simp) hcut _ _ (by rw [e]; exact mtk1 _ _) rfl hq
theorem dec_cut (a0 a1 a2 a3 a4 a5 a6 : Int) (a7 : Bool) {l8 : List S76} {l9 : List S92} {l10 : List Int} (hl8 : l8.length ≤ 40) (hl9 : l9.length ≤ 100) (hl10 : l10.length ≤ 100) (wp : WP a1 a2 a3 a4 a5 l8 l9 l10) (h : message_Right.f a0 a1 a2 a3 a4 a5 a6 a7 l8 l9 l10 = some 0) (m : Nat) (hm : m < (frameL (payL a0 a1 a2 a3 a4 a5 a6 a7 l8 l9 l10)).length) (A : Option Addr) (c : Nat) (w : World) (hC : Kd.C (Kd.int .u8) w A m ((frameL (payL a0 a1 a2 a3 a4 a5 a6 a7 l8 l9 l10)).take m)) (hc : m ≤ c) :
  Calls Try.prog 19 #[.slice A m c] w fun e w' => e = .returned (.tuple #[.agg #[.int .i64 0, .int .u64 0, .int .u64 0, .int .u64 0, .int .u64 0, .int .u64 0, .int .i64 0, .bool false, .slice none 0 0, .slice none 0 0, .slice none 0 0], .int .i64 3]) ∧ Below w.heap.size w w' := by
 have w8 : ∀ s ∈ l8, 0 ≤ s.f1 ∧ s.f1 < 18446744073709551616 := fun s hs => (wp.2.2.2.2.2.1 s hs).2.1
 obtain ⟨hB, hL⟩ := pay_small a0 a1 a2 a3 a4 a5 a6 a7 hl8 hl9 hl10 w8 h
 have hFl := frameL_len (payL a0 a1 a2 a3 a4 a5 a6 a7 l8 l9 l10)
 have hl : ((frameL (payL a0 a1 a2 a3 a4 a5 a6 a7 l8 l9 l10)).take m).length = m := by rw [List.length_take]; omega
 have hcut : frame_Cut.f 9000 ((frameL (payL a0 a1 a2 a3 a4 a5 a6 a7 l8 l9 l10)).take m) = some ([], [], 3) := by
  rw [cut_eq ((frameL_bytes hB).take m) (by omega) (by omega), cut_short hB hL hm]
 have := message_Decode.dbad A c ((frameL (payL a0 a1 a2 a3 a4 a5 a6 a7 l8 l9 l10)).take m) w (by rw [hl]; exact hC) (by omega) 9000 [] [] 3 (by decide) hcut
 rw [hl] at this
 exact this
theorem same_self (a0 a1 a2 a3 a4 a5 a6 : Int) (a7 : Bool) {l8 : List S76} {l9 : List S92} {l10 : List Int} (hl8 : l8.length ≤ 40) (hl9 : l9.length ≤ 100) (hl10 : l10.length ≤ 100) :
  winnowref05_Same.f 4000 a0 a1 a2 a3 a4 a5 a6 a7 l8 l9 l10 a0 a1 a2 a3 a4 a5 a6 a7 l8 l9 l10 = some true := by
 rw [same_eq_ a0 a1 a2 a3 a4 a5 a6 a7 a0 a1 a2 a3 a4 a5 a6 a7 (.inl rfl) (.inl rfl) (.inl rfl) (by omega) (by omega) (by omega) (by omega)]
 simp [rwB, scB]
end Go.Proofs.Ytlpnpnjjmpkapaa.PAll
