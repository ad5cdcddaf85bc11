import Derived.Test.YtlpnpnjjmpkapaaPAllx0
import Derived.Test.YtlpnpnjjmpkapaaPAllx5
import Derived.Test.YtlpnpnjjmpkapaaPAllx8
import Derived.Test.YtlpnpnjjmpkapaaPAllx9
import Derived.Test.YtlpnpnjjmpkapaaPAllx11
namespace Go.Proofs.Ytlpnpnjjmpkapaa.PAll
open Go.RowKit Go.Proofs.YtlpnpnjjmpkapaaW.PrintWords Go.Proofs.YtlpnpnjjmpkapaaW.PrintLast Go.Proofs.YtlpnpnjjmpkapaaW.PrintMore
attribute [local go_sem] max2_int min2_int max_two min_two max_three min_three max_four min_four   -- for this text's walks alone
set_option linter.unusedVariables false
set_option linter.unusedSimpArgs false

/-- What a reader takes: the bytes taken, what is left, and what went wrong first. -/
def span_Cut.tk (rest : List Int) (k : Int) (n : Nat) : List Int × List Int × Int :=
 if k = 0 then (if rest.length < n then (List.replicate n 0, rest, 3) else (rest.take n, rest.drop n, 0)) else (List.replicate n 0, rest, k)
/-- A reader in memory, over bytes that came in. -/
def span_Cut.St (w0 w : World) (g : Nat) (rest : List Int) (k : Int) : Prop :=
 Below w0.heap.size w0 w ∧ ∃ (A : Option Addr) (c : Nat), w.heap[g]? = some (.cells #[.slice A rest.length c, .int .i64 k] 160 (0, 0)) ∧ rest.length ≤ c ∧ Kd.C (Kd.int .u8) w0 A rest.length rest
set_option maxHeartbeats 8000000 in
set_option maxRecDepth 100000 in
theorem span_Cut.take (w0 w : World) (g : Nat) (rest : List Int) (k : Int) (n : Nat) (hn : n ≤ 255) (hg : w0.heap.size ≤ g) (hst : span_Cut.St w0 w g rest k) :
  Calls Try.prog 111 #[.pointer (some ⟨g, 0, none⟩), .int .i64 n] w fun e w' => ∃ (A' : Option Addr) (c' : Nat), e = .returned (.slice A' n c') ∧ n ≤ c' ∧ Kd.C (Kd.int .u8) w' A' n (span_Cut.tk rest k n).1 ∧ span_Cut.St w0 w' g (span_Cut.tk rest k n).2.1 (span_Cut.tk rest k n).2.2 ∧ KeepBut w w' g none := by
 obtain ⟨hB, A, c, hblk, hl, hC⟩ := hst
 have hu63 := Try.underlying160; have hcz_0 : w.cell? ⟨g, 0, none⟩ = some (.slice A rest.length c) := (blk_cell hblk 0).trans rfl; have hcz_1 : w.cell? ⟨g, 1, none⟩ = some (.int .i64 k) := (blk_cell hblk 1).trans rfl; have hfz_0 := blk_frozen hblk 0; have hfz_1 := blk_frozen hblk 1; have HG := Aside0.mk hg; have HB := Aside0.mk hB; have BK := Aside0.mk hblk; have HL := Aside0.mk hl; have HC := Aside0.mk hC; clear hB hblk hl hC hg
 unfold span_Cut.tk
 by_cases hk : k = 0
 ·subst hk
  rw [if_pos rfl]
  by_cases hlt : rest.length < n
  ·rw [if_pos hlt]
   have hltb : decide ((rest.length : Int) < (n : Int)) = true := decide_eq_true (by omega)
   go_enter Try.func111, Try.ntmps111
   go_wp2_with ((with_reducible refine gate_dst (N := 29) rfl ?_); refine Kd.R_make (Kd.int .u8) _ 5 rfl (N := 29) rfl 35 _ _ rfl (n : Int) rfl rfl Try.underlying35 (.int .u8 0) 1 info5 rfl (by decide) (by decide) (0 : Int) (ok := fun _ => True) (okp := fun _ => False) rfl (fun _ h => h.elim) trivial (by omega) (by simp; omega) (Below.refl _ _) (Nat.le_refl _) ?_; intro v1 w1 hR hb hgr hat; have HR := Aside0.mk hR; have HBN := Aside0.mk hb; clear hR hb hgr hat)
   obtain ⟨A1, c1, rfl, hle, hC1⟩ := Kd.R_reads HR.out
   rw [List.length_replicate, Int.toNat_natCast] at hle hC1
   have HLE := Aside0.mk hle; have HC1 := Aside0.mk hC1; clear hle hC1 HR
   have hlen : (List.replicate (n : Int).toNat (0 : Int)).length = n := by simp
   go_wp2
   go_ret
   refine ⟨A1, c1, by rw [hlen]; rfl, HLE.out, HC1.out, ⟨below_then (below_set HB.out HG.out) (below_set HB.out HG.out).size HBN.out, A, c, ?_, HL.out, HC.out⟩, KeepBut.trans ((KeepBut.refl w g none).set_ 1 _) (KeepBut.of_below HBN.out g none) (.inl rfl)⟩
   exact blk_below ((blk_set BK.out 1 _).trans rfl) HBN.out
  rw [if_neg hlt]
  have hltb : decide ((rest.length : Int) < (n : Int)) = false := decide_eq_false (by omega)
  obtain ⟨i0, hi, hzz⟩ := Option.map_eq_some_iff.1 info5
  simp only [Prod.mk.injEq] at hzz
  have hto := fun W => Hand.run_slice_to (P := Try.prog) 35 5 .i64 Try.underlying35 hi A rest.length c n (by have := HL.out; omega) W
  have hfrom := cut_from (P := Try.prog) 35 5 .i64 Try.underlying35 hi 1 hzz.2.1 A rest.length c (n : Int) (by omega) (by omega)
  rw [Int.toNat_natCast] at hfrom
  have hd := Kd.C_drop HC.out (show n ≤ rest.length by omega) HL.out
  have ht := Kd.C_take HC.out (show n ≤ rest.length by omega)
  rw [show (Kd.int .u8).sz = 1 from rfl] at hd
  obtain ⟨A2, hA2⟩ : ∃ A2, (if c = n then A else A.map (·.add (n * 1))) = A2 := ⟨_, rfl⟩
  rw [hA2] at hd hfrom
  have HD := Aside0.mk hd; have HT := Aside0.mk ht; clear hd ht hA2 hzz
  go_enter Try.func111, Try.ntmps111
  go_wp2
  go_ret
  refine ⟨A, c, rfl, by have := HL.out; omega, ?_, ⟨below_set HB.out HG.out, A2, c - n, ?_, by rw [List.length_drop]; have := HL.out; omega, HD.out⟩, (KeepBut.refl w g none).set_ 0 _⟩
  ·have h := HT.out
   rw [List.length_take, Nat.min_eq_left (by omega)] at h
   exact Kd.C_below h (below_set HB.out HG.out)
  rw [List.length_drop]
  exact (blk_set BK.out 0 _).trans rfl
 rw [if_neg hk]
 have hkb : (k != 0) = true := bne_iff_ne.mpr hk; have hkc : (k == 0) = false := beq_eq_false_iff_ne.mpr hk
 go_enter Try.func111, Try.ntmps111
 go_wp2_with ((with_reducible refine gate_dst (N := 29) rfl ?_); refine Kd.R_make (Kd.int .u8) _ 5 rfl (N := 29) rfl 35 _ _ rfl (n : Int) rfl rfl Try.underlying35 (.int .u8 0) 1 info5 rfl (by decide) (by decide) (0 : Int) (ok := fun _ => True) (okp := fun _ => False) rfl (fun _ h => h.elim) trivial (by omega) (by simp; omega) (Below.refl _ _) (Nat.le_refl _) ?_; intro v1 w1 hR hb hgr hat; have HR := Aside0.mk hR; have HBN := Aside0.mk hb; clear hR hb hgr hat)
 obtain ⟨A1, c1, rfl, hle, hC1⟩ := Kd.R_reads HR.out
 rw [List.length_replicate, Int.toNat_natCast] at hle hC1
 have HLE := Aside0.mk hle; have HC1 := Aside0.mk hC1; clear hle hC1 HR
 have hlen : (List.replicate (n : Int).toNat (0 : Int)).length = n := by simp
 go_wp2
 go_ret
 exact ⟨A1, c1, by rw [hlen]; rfl, HLE.out, HC1.out, ⟨below_then HB.out HB.out.size HBN.out, A, c, blk_below BK.out HBN.out, HL.out, HC.out⟩, KeepBut.of_below HBN.out g none⟩
theorem span_Cut.tk_len (rest : List Int) (k : Int) (n : Nat) : (span_Cut.tk rest k n).1.length = n := by
 unfold span_Cut.tk
 split
 ·split
  ·simp
  simp; omega
 simp
theorem span_Cut.St_below {w0 w w1 : World} {g : Nat} {rest : List Int} {k : Int} (h : span_Cut.St w0 w g rest k) (hb : Below w.heap.size w w1) : span_Cut.St w0 w1 g rest k := by
 obtain ⟨hB, A, c, hblk, hl, hC⟩ := h
 exact ⟨below_then hB hB.size hb, A, c, blk_below hblk hb, hl, hC⟩
theorem span_Cut.St_far {w0 w : World} {g gs i : Nat} {u : Value} {rest : List Int} {k : Int} (h : span_Cut.St w0 w g rest k) (hg : w0.heap.size ≤ gs) (hne : g ≠ gs) : span_Cut.St w0 (w.setCell ⟨gs, i, none⟩ u) g rest k := by
 obtain ⟨hB, A, c, hblk, hl, hC⟩ := h
 exact ⟨below_set hB hg, A, c, blk_far hblk (p := ⟨gs, i, none⟩) hne u, hl, hC⟩
theorem span_Cut.St_k {w0 w : World} {g : Nat} {rest : List Int} {k : Int} (h : span_Cut.St w0 w g rest k) (hg : w0.heap.size ≤ g) (k' : Int) : span_Cut.St w0 (w.setCell ⟨g, 1, none⟩ (.int .i64 k')) g rest k' := by
 obtain ⟨hB, A, c, hblk, hl, hC⟩ := h
 exact ⟨below_set hB hg, A, c, (blk_set hblk 1 _).trans rfl, hl, hC⟩
theorem span_Cut.St_cell {w0 w : World} {g : Nat} {rest : List Int} {k : Int} (h : span_Cut.St w0 w g rest k) : w.cell? ⟨g, 1, none⟩ = some (.int .i64 k) ∧ w.frozen? ⟨g, 1, none⟩ = false := by
 obtain ⟨hB, A, c, hblk, hl, hC⟩ := h
 exact ⟨(blk_cell hblk 1).trans rfl, blk_frozen hblk 1⟩
/-- The next number. -/
def span_Cut.nm (rest : List Int) (k : Int) : Option (Int × List Int × Int) := (num_U64.f (span_Cut.tk rest k 8).1).map fun r => (r, (span_Cut.tk rest k 8).2)
set_option maxHeartbeats 8000000 in
set_option maxRecDepth 100000 in
theorem span_Cut.number (w0 w : World) (g : Nat) (rest : List Int) (k : Int) (hg : w0.heap.size ≤ g) (hst : span_Cut.St w0 w g rest k) (r : Int × List Int × Int) (h : span_Cut.nm rest k = some r) :
  Calls Try.prog 106 #[.pointer (some ⟨g, 0, none⟩)] w fun e w' => e = .returned (.int .u64 r.1) ∧ span_Cut.St w0 w' g r.2.1 r.2.2 ∧ KeepBut w w' g none := by
 obtain ⟨v, hv, rfl⟩ := Option.map_eq_some_iff.1 h
 have HST := Aside0.mk hst; clear hst h
 go_enter Try.func106, Try.ntmps106
 go_wp2_with fail
 refine (span_Cut.take w0 _ g rest k 8 (by omega) hg HST.out).mono ?_
 rintro e w1 ⟨A1, c1, rfl, hle, hC, hst, hkb⟩
 have hlen := span_Cut.tk_len rest k 8; have hU := num_U64.calls A1 c1 (span_Cut.tk rest k 8).1 v w1 (by rw [hlen]; exact hC) (by omega) hv
 rw [hlen] at hU
 have HU := Aside0.mk hU; have HST1 := Aside0.mk hst; have HKB := Aside0.mk hkb; clear hU hst hkb hC hlen hv
 go_wp2_with fail
 refine HU.out.mono ?_
 rintro e w2 ⟨rfl, hd⟩
 have HD := Aside0.mk hd; clear hd
 go_wp2
 go_ret
 exact ⟨rfl, span_Cut.St_below HST1.out (Drawn0.below HD.out), KeepBut.trans HKB.out (KeepBut.of_below (Drawn0.below HD.out) g none) (.inl rfl)⟩
/-- A byte from lo to hi. -/
def span_Cut.sm (rest : List Int) (k lo hi : Int) : Int × List Int × Int :=
 (rd (span_Cut.tk rest k 1).1 0, (span_Cut.tk rest k 1).2.1, if (span_Cut.tk rest k 1).2.2 = 0 ∧ (rd (span_Cut.tk rest k 1).1 0 < lo ∨ hi < rd (span_Cut.tk rest k 1).1 0) then 6 else (span_Cut.tk rest k 1).2.2)
set_option maxHeartbeats 8000000 in
set_option maxRecDepth 100000 in
theorem span_Cut.small_ (w0 w : World) (g : Nat) (rest : List Int) (k lo hi : Int) (hg : w0.heap.size ≤ g) (hst : span_Cut.St w0 w g rest k) (out rest1 : List Int) (k1 c k2 : Int) (ht : span_Cut.tk rest k 1 = (out, rest1, k1)) (hc : rd out 0 = c) (h2 : (if k1 = 0 ∧ (c < lo ∨ hi < c) then 6 else k1) = k2) :
  Calls Try.prog 107 #[.pointer (some ⟨g, 0, none⟩), .int .u8 lo, .int .u8 hi] w fun e w' => e = .returned (.int .u8 c) ∧ span_Cut.St w0 w' g rest1 k2 ∧ KeepBut w w' g none := by
 have HST := Aside0.mk hst; have hu63 := Try.underlying160; clear hst
 go_enter Try.func107, Try.ntmps107
 go_wp2_with fail
 refine (span_Cut.take w0 _ g rest k 1 (by omega) hg HST.out).mono ?_
 rintro e w1 ⟨A1, c1, rfl, hle, hC, hst, hkb⟩
 rw [ht] at hC hst
 obtain ⟨ad, rfl, hcell⟩ := Kd.at_int hC 0 (by omega) (by omega)
 rw [hc, show ad.add (Int.toNat 0) = ad from by simp [Addr.add]] at hcell
 obtain ⟨hcz_1, hfz_1⟩ := span_Cut.St_cell hst
 have HST1 := Aside0.mk hst; have HKB := Aside0.mk hkb; have HG := Aside0.mk hg; clear hst hkb hC hg ht hc
 simp only at HST1 hcz_1
 by_cases hk : k1 = 0
 ·subst hk
  by_cases h1 : c < lo
  ·have h1b : decide (c < lo) = true := decide_eq_true h1
   rw [if_pos ⟨rfl, .inl h1⟩] at h2
   subst h2
   go_wp2
   go_ret
   exact ⟨rfl, span_Cut.St_k HST1.out HG.out 6, HKB.out.set_ 1 _⟩
  have h1b : decide (c < lo) = false := decide_eq_false h1
  by_cases h2' : hi < c
  ·have h2b : decide (hi < c) = true := decide_eq_true h2'
   rw [if_pos ⟨rfl, .inr h2'⟩] at h2
   subst h2
   go_wp2
   go_ret
   exact ⟨rfl, span_Cut.St_k HST1.out HG.out 6, HKB.out.set_ 1 _⟩
  have h2b : decide (hi < c) = false := decide_eq_false h2'
  rw [if_neg (fun h => h.2.elim h1 h2')] at h2
  subst h2
  go_wp2
  go_ret
  exact ⟨rfl, HST1.out, HKB.out⟩
 have hkb : (k1 != 0) = true := bne_iff_ne.mpr hk; have hkc : (k1 == 0) = false := beq_eq_false_iff_ne.mpr hk
 rw [if_neg (fun h => hk h.1)] at h2
 subst h2
 go_wp2
 go_ret
 exact ⟨rfl, HST1.out, HKB.out⟩
theorem span_Cut.small (w0 w : World) (g : Nat) (rest : List Int) (k lo hi : Int) (hg : w0.heap.size ≤ g) (hst : span_Cut.St w0 w g rest k) :
  Calls Try.prog 107 #[.pointer (some ⟨g, 0, none⟩), .int .u8 lo, .int .u8 hi] w fun e w' => e = .returned (.int .u8 (span_Cut.sm rest k lo hi).1) ∧ span_Cut.St w0 w' g (span_Cut.sm rest k lo hi).2.1 (span_Cut.sm rest k lo hi).2.2 ∧ KeepBut w w' g none :=
 span_Cut.small_ w0 w g rest k lo hi hg hst _ _ _ _ _ rfl rfl rfl
/-- A text behind its length. -/
def span_Cut.tx (rest : List Int) (k : Int) : ByteArray × List Int × Int :=
 if (span_Cut.sm rest k 1 32).2.2 = 0 then (strOfNums (span_Cut.tk (span_Cut.sm rest k 1 32).2.1 0 (span_Cut.sm rest k 1 32).1.toNat).1, (span_Cut.tk (span_Cut.sm rest k 1 32).2.1 0 (span_Cut.sm rest k 1 32).1.toNat).2) else (⟨#[]⟩, (span_Cut.sm rest k 1 32).2)
theorem span_Cut.sm_ok {rest : List Int} {k lo hi : Int} (h : (span_Cut.sm rest k lo hi).2.2 = 0) : lo ≤ (span_Cut.sm rest k lo hi).1 ∧ (span_Cut.sm rest k lo hi).1 ≤ hi := by
 unfold span_Cut.sm at h ⊢
 simp only at h ⊢
 split at h
 ·cases h
 rename_i hn
 simp only [h, true_and, not_or] at hn
 omega
set_option maxHeartbeats 8000000 in
set_option maxRecDepth 100000 in
theorem span_Cut.text_bad (w0 w : World) (g : Nat) (rest : List Int) (k : Int) (hg : w0.heap.size ≤ g) (hst : span_Cut.St w0 w g rest k) (c k1 : Int) (rest1 : List Int) (hs : span_Cut.sm rest k 1 32 = (c, rest1, k1)) (hk : k1 ≠ 0) :
  Calls Try.prog 108 #[.pointer (some ⟨g, 0, none⟩)] w fun e w' => e = .returned (.string ⟨#[]⟩) ∧ span_Cut.St w0 w' g rest1 k1 ∧ KeepBut w w' g none := by
 have HST := Aside0.mk hst; have hu63 := Try.underlying160; clear hst
 go_enter Try.func108, Try.ntmps108
 go_wp2_with fail
 refine (span_Cut.small w0 _ g rest k 1 32 hg HST.out).mono ?_
 rintro e w1 ⟨rfl, hst, hkb⟩
 rw [hs] at hst ⊢
 obtain ⟨hcz_1, hfz_1⟩ := span_Cut.St_cell hst
 have HST1 := Aside0.mk hst; have HKB := Aside0.mk hkb; clear hst hkb hg hs
 simp only at HST1 hcz_1
 have hkb : (k1 != 0) = true := bne_iff_ne.mpr hk
 go_wp2
 go_ret
 exact ⟨rfl, HST1.out, HKB.out⟩
set_option maxHeartbeats 8000000 in
set_option maxRecDepth 100000 in
theorem span_Cut.text_ok (w0 w : World) (g : Nat) (rest : List Int) (k : Int) (hg : w0.heap.size ≤ g) (hst : span_Cut.St w0 w g rest k) (m : Nat) (rest1 : List Int) (hs : span_Cut.sm rest k 1 32 = ((m : Int), rest1, 0)) (hm : m ≤ 32) (out rest2 : List Int) (k2 : Int) (ht : span_Cut.tk rest1 0 m = (out, rest2, k2)) :
  Calls Try.prog 108 #[.pointer (some ⟨g, 0, none⟩)] w fun e w' => e = .returned (.string (strOfNums out)) ∧ span_Cut.St w0 w' g rest2 k2 ∧ KeepBut w w' g none := by
 have HST := Aside0.mk hst; have HG := Aside0.mk hg; have hu63 := Try.underlying160; clear hst hg
 go_enter Try.func108, Try.ntmps108
 go_wp2_with fail
 refine (span_Cut.small w0 _ g rest k 1 32 HG.out HST.out).mono ?_
 rintro e w1 ⟨rfl, hst, hkb⟩
 rw [hs] at hst ⊢
 obtain ⟨hcz_1, hfz_1⟩ := span_Cut.St_cell hst
 have HST1 := Aside0.mk hst; have HKB := Aside0.mk hkb; clear hst hkb hs
 simp only at HST1 hcz_1
 have hw : IntKind.i64.wrap (m : Int) = (m : Int) := by simp [IntKind.wrap, IntKind.signed, IntKind.bits]; omega
 have hw2 : wrap64 (m : Int) = (m : Int) := by unfold wrap64; omega
 go_wp2_with fail
 refine (span_Cut.take w0 _ g rest1 0 m (by omega) HG.out HST1.out).mono ?_
 rintro e w2 ⟨A2, c2, rfl, hle, hC, hst, hkb⟩
 have hlen := span_Cut.tk_len rest1 0 m
 rw [ht] at hC hst hlen
 simp only at hC hst hlen
 have hcv := Kd.C_string (P := Try.prog) (A := A2) (c := c2) Try.underlying35 Try.underlying5 Try.underlying9 hC; have HST2 := Aside0.mk hst; have HKB2 := Aside0.mk hkb; clear hst hkb hC hlen ht
 go_wp2
 go_ret
 exact ⟨rfl, HST2.out, KeepBut.trans HKB.out HKB2.out (.inl rfl)⟩
theorem span_Cut.text (w0 w : World) (g : Nat) (rest : List Int) (k : Int) (hg : w0.heap.size ≤ g) (hst : span_Cut.St w0 w g rest k) :
  Calls Try.prog 108 #[.pointer (some ⟨g, 0, none⟩)] w fun e w' => e = .returned (.string (span_Cut.tx rest k).1) ∧ span_Cut.St w0 w' g (span_Cut.tx rest k).2.1 (span_Cut.tx rest k).2.2 ∧ KeepBut w w' g none := by
 unfold span_Cut.tx
 by_cases hk : (span_Cut.sm rest k 1 32).2.2 = 0
 ·rw [if_pos hk]
  obtain ⟨h1, h2⟩ := span_Cut.sm_ok hk
  obtain ⟨m, hm⟩ := Int.eq_ofNat_of_zero_le (show 0 ≤ (span_Cut.sm rest k 1 32).1 by omega)
  refine span_Cut.text_ok w0 w g rest k hg hst (span_Cut.sm rest k 1 32).1.toNat (span_Cut.sm rest k 1 32).2.1 ?_ (by omega) _ _ _ rfl
  rw [Int.toNat_of_nonneg (by omega), ← hk]
 rw [if_neg hk]
 exact span_Cut.text_bad w0 w g rest k hg hst _ _ _ rfl hk
def span_Cut.f (l0 : List Int) : Option (Int × Int × Int × Int × Int × ByteArray × ByteArray × Bool × List Int × Int) :=
 (span_Cut.nm l0 0).bind fun a => (span_Cut.nm a.2.1 a.2.2).bind fun b => (span_Cut.nm b.2.1 b.2.2).bind fun c => (span_Cut.nm c.2.1 c.2.2).bind fun d => (span_Cut.nm d.2.1 d.2.2).bind fun e =>
  (if (span_Cut.tx (span_Cut.tx (span_Cut.sm e.2.1 e.2.2 0 1).2.1 (span_Cut.sm e.2.1 e.2.2 0 1).2.2).2.1 (span_Cut.tx (span_Cut.sm e.2.1 e.2.2 0 1).2.1 (span_Cut.sm e.2.1 e.2.2 0 1).2.2).2.2).2.2 = 0 then
   span_Right.f 1000 a.1 b.1 c.1 d.1 e.1 (span_Cut.tx (span_Cut.sm e.2.1 e.2.2 0 1).2.1 (span_Cut.sm e.2.1 e.2.2 0 1).2.2).1 (span_Cut.tx (span_Cut.tx (span_Cut.sm e.2.1 e.2.2 0 1).2.1 (span_Cut.sm e.2.1 e.2.2 0 1).2.2).2.1 (span_Cut.tx (span_Cut.sm e.2.1 e.2.2 0 1).2.1 (span_Cut.sm e.2.1 e.2.2 0 1).2.2).2.2).1 ((span_Cut.sm e.2.1 e.2.2 0 1).1 == 1)
   else some (span_Cut.tx (span_Cut.tx (span_Cut.sm e.2.1 e.2.2 0 1).2.1 (span_Cut.sm e.2.1 e.2.2 0 1).2.2).2.1 (span_Cut.tx (span_Cut.sm e.2.1 e.2.2 0 1).2.1 (span_Cut.sm e.2.1 e.2.2 0 1).2.2).2.2).2.2).bind fun kd =>
  if kd = 0 then (slices_Clone_byte_byte.f (span_Cut.tx (span_Cut.tx (span_Cut.sm e.2.1 e.2.2 0 1).2.1 (span_Cut.sm e.2.1 e.2.2 0 1).2.2).2.1 (span_Cut.tx (span_Cut.sm e.2.1 e.2.2 0 1).2.1 (span_Cut.sm e.2.1 e.2.2 0 1).2.2).2.2).2.1).bind fun r =>
    some (a.1, b.1, c.1, d.1, e.1, (span_Cut.tx (span_Cut.sm e.2.1 e.2.2 0 1).2.1 (span_Cut.sm e.2.1 e.2.2 0 1).2.2).1, (span_Cut.tx (span_Cut.tx (span_Cut.sm e.2.1 e.2.2 0 1).2.1 (span_Cut.sm e.2.1 e.2.2 0 1).2.2).2.1 (span_Cut.tx (span_Cut.sm e.2.1 e.2.2 0 1).2.1 (span_Cut.sm e.2.1 e.2.2 0 1).2.2).2.2).1, (span_Cut.sm e.2.1 e.2.2 0 1).1 == 1, r, 0)
   else some (0, 0, 0, 0, 0, ⟨#[]⟩, ⟨#[]⟩, false, [], kd)
set_option maxHeartbeats 1000000 in
set_option maxRecDepth 100000 in
theorem span_Cut.walk (A0 : Option Addr) (c0 : Nat) (l0 : List Int) (w : World) (hr0 : Kd.C (Kd.int .u8) w A0 l0.length l0) (hc0 : l0.length ≤ c0) (n0 n1 n2 n3 n4 b7 kd k0 k1 k2 k3 k4 k5 k6 k7 : Int) (m0 m1 m2 m3 m4 m5 m6 m7 : List Int) (s5 s6 : ByteArray)
  (h0 : span_Cut.nm l0 0 = some (n0, m0, k0)) (h1 : span_Cut.nm m0 k0 = some (n1, m1, k1)) (h2 : span_Cut.nm m1 k1 = some (n2, m2, k2)) (h3 : span_Cut.nm m2 k2 = some (n3, m3, k3)) (h4 : span_Cut.nm m3 k3 = some (n4, m4, k4))
  (h5 : span_Cut.sm m4 k4 0 1 = (b7, m5, k5)) (h6 : span_Cut.tx m5 k5 = (s5, m6, k6)) (h7 : span_Cut.tx m6 k6 = (s6, m7, k7))
  (h8 : (if k7 = 0 then span_Right.f 1000 n0 n1 n2 n3 n4 s5 s6 (b7 == 1) else some k7) = some kd) (Q : Ending → World → Prop)
  (hbad : kd ≠ 0 → ∀ w', Below w.heap.size w w' → Q (.returned (.tuple #[.agg #[.int .u64 0, .int .u64 0, .int .u64 0, .int .u64 0, .int .u64 0, .string ⟨#[]⟩, .string ⟨#[]⟩, .bool false], .slice none 0 0, .int .i64 kd])) w')
  (hok : kd = 0 → slices_Clone_byte_byte.f m7 = some m7 ∧ ∀ v w', Kd.R (Kd.int .u8) 5 w' w.heap.size (fun _ => True) v m7 → Below w.heap.size w w' → Q (.returned (.tuple #[.agg #[.int .u64 n0, .int .u64 n1, .int .u64 n2, .int .u64 n3, .int .u64 n4, .string s5, .string s6, .bool (b7 == 1)], v, .int .i64 0])) w') :
  Calls Try.prog 100 #[.slice A0 l0.length c0] w Q := by
 have HR0 := Aside0.mk hr0; have HC0 := Aside0.mk hc0; have H0 := Aside0.mk h0; have H1 := Aside0.mk h1; have H2 := Aside0.mk h2; have H3 := Aside0.mk h3; have H4 := Aside0.mk h4; have H5 := Aside0.mk h5; have H6 := Aside0.mk h6; have H7 := Aside0.mk h7; have H8 := Aside0.mk h8; have HBAD := Aside0.mk hbad; have HOK := Aside0.mk hok; clear hr0 hc0 h0 h1 h2 h3 h4 h5 h6 h7 h8 hbad hok; have hu28 := Try.underlying76; have hu63 := Try.underlying160
 go_enter Try.func100, Try.ntmps100
 go_wp2_with (first | ((with_reducible refine gate_dst (N := 2) rfl ?_); refine box_event ?hg (N := 2) ?hd (cs := #[.int .u64 0, .int .u64 0, .int .u64 0, .int .u64 0, .int .u64 0, .string ⟨#[]⟩, .string ⟨#[]⟩, .bool false]) (t := 76) ?hr ?_; (case hd => rfl); (case hg => rfl); (case hr => (go_simp; done)); intro gs hg w1 hbox hb; have HGS := Aside0.mk (show w.heap.size ≤ gs by rw [hg]; exact Nat.le_refl _); have BS := Aside0.mk hbox; have HB := Aside0.mk (show Below w.heap.size w w1 from hb); clear hg hbox hb) | ((with_reducible refine gate_dst (N := 8) rfl ?_); refine box_event ?hg (N := 8) ?hd (cs := #[.slice A0 l0.length c0, .int .i64 0]) (t := 160) ?hr ?_; (case hd => rfl); (case hg => rfl); (case hr => (go_simp; done)); intro g hg w2 hbox hb; have HNE := Aside0.mk (show gs ≠ g by rw [hg]; exact Nat.ne_of_lt (blk_lt BS.out)); have HG := Aside0.mk (show w.heap.size ≤ g by rw [hg]; exact HB.out.size); have BS2 := Aside0.mk (blk_below BS.out hb); have HST2 := Aside0.mk (show span_Cut.St w w2 g l0 0 from ⟨below_then HB.out HB.out.size hb, A0, c0, hbox, HC0.out, HR0.out⟩); clear hg hbox hb BS HB))
 refine (span_Cut.number w _ g l0 0 HG.out HST2.out _ H0.out).mono ?_
 rintro e w3 ⟨rfl, hst, hkb⟩
 have HST3 := Aside0.mk hst; have BS3 := Aside0.mk (hkb.blk BS2.out HNE.out (by simp)); clear hst hkb HST2 BS2
 go_wp2_with fail
 refine (span_Cut.number w _ g m0 k0 HG.out HST3.out _ H1.out).mono ?_
 rintro e w4 ⟨rfl, hst, hkb⟩
 have HST4 := Aside0.mk hst; have BS4 := Aside0.mk (hkb.blk BS3.out HNE.out (by simp)); clear hst hkb HST3 BS3
 go_wp2_with fail
 refine (span_Cut.number w _ g m1 k1 HG.out HST4.out _ H2.out).mono ?_
 rintro e w5 ⟨rfl, hst, hkb⟩
 have HST5 := Aside0.mk hst; have BS5 := Aside0.mk (hkb.blk BS4.out HNE.out (by simp)); clear hst hkb HST4 BS4
 go_wp2_with fail
 refine (span_Cut.number w _ g m2 k2 HG.out HST5.out _ H3.out).mono ?_
 rintro e w6 ⟨rfl, hst, hkb⟩
 have HST6 := Aside0.mk hst; have BS6 := Aside0.mk (hkb.blk BS5.out HNE.out (by simp)); clear hst hkb HST5 BS5
 go_wp2_with fail
 refine (span_Cut.number w _ g m3 k3 HG.out HST6.out _ H4.out).mono ?_
 rintro e w7 ⟨rfl, hst, hkb⟩
 have HST7 := Aside0.mk hst; have BS7 := Aside0.mk (hkb.blk BS6.out HNE.out (by simp)); clear hst hkb HST6 BS6; have hcz_0 : w7.cell? ⟨gs, 0, none⟩ = some (.int .u64 0) := (blk_cell BS7.out 0).trans rfl; have hcz_1 : w7.cell? ⟨gs, 1, none⟩ = some (.int .u64 0) := (blk_cell BS7.out 1).trans rfl; have hcz_2 : w7.cell? ⟨gs, 2, none⟩ = some (.int .u64 0) := (blk_cell BS7.out 2).trans rfl; have hcz_3 : w7.cell? ⟨gs, 3, none⟩ = some (.int .u64 0) := (blk_cell BS7.out 3).trans rfl; have hcz_4 : w7.cell? ⟨gs, 4, none⟩ = some (.int .u64 0) := (blk_cell BS7.out 4).trans rfl; have hcz_5 : w7.cell? ⟨gs, 5, none⟩ = some (.string ⟨#[]⟩) := (blk_cell BS7.out 5).trans rfl; have hcz_6 : w7.cell? ⟨gs, 6, none⟩ = some (.string ⟨#[]⟩) := (blk_cell BS7.out 6).trans rfl; have hcz_7 : w7.cell? ⟨gs, 7, none⟩ = some (.bool false) := (blk_cell BS7.out 7).trans rfl; have hfz_0 := blk_frozen BS7.out 0; have hfz_1 := blk_frozen BS7.out 1; have hfz_2 := blk_frozen BS7.out 2; have hfz_3 := blk_frozen BS7.out 3; have hfz_4 := blk_frozen BS7.out 4; have hfz_5 := blk_frozen BS7.out 5; have hfz_6 := blk_frozen BS7.out 6; have hfz_7 := blk_frozen BS7.out 7
 go_wp2_with fail
 refine (span_Cut.small w _ g m4 k4 0 1 HG.out (by (with_reducible repeat refine span_Cut.St_far ?_ HGS.out HNE.out.symm); exact HST7.out)).mono ?_
 rintro e w8 ⟨he, hst, hkb⟩
 rw [H5.out] at he hst
 subst he; have HST8 := Aside0.mk hst; have hch := hkb.blk ((blk_set (blk_set (blk_set (blk_set (blk_set (blk_set (blk_set (blk_set BS7.out 0 _) 1 _) 2 _) 3 _) 4 _) 5 _) 6 _) 7 _)) HNE.out (by simp)
 simp only [List.setIfInBounds_toArray, List.set_cons_zero, List.set_cons_succ] at hch
 have BS8 := Aside0.mk hch; clear hch; clear hst hkb HST7 BS7 hcz_0 hcz_1 hcz_2 hcz_3 hcz_4 hcz_5 hcz_6 hcz_7 hfz_0 hfz_1 hfz_2 hfz_3 hfz_4 hfz_5 hfz_6 hfz_7
 simp only at HST8
 have hcz_7 : w8.cell? ⟨gs, 7, none⟩ = some (.bool false) := (blk_cell BS8.out 7).trans rfl; have hfz_7 := blk_frozen BS8.out 7
 go_wp2_with fail
 refine (span_Cut.text w _ g m5 k5 HG.out (span_Cut.St_far HST8.out HGS.out HNE.out.symm)).mono ?_
 rintro e w9 ⟨he, hst, hkb⟩
 rw [H6.out] at he hst
 subst he; have HST9 := Aside0.mk hst; have hch := hkb.blk ((blk_set BS8.out 7 _)) HNE.out (by simp)
 simp only [List.setIfInBounds_toArray, List.set_cons_zero, List.set_cons_succ] at hch
 have BS9 := Aside0.mk hch; clear hch; clear hst hkb HST8 BS8 hcz_7 hfz_7
 simp only at HST9
 have hcz_5 : w9.cell? ⟨gs, 5, none⟩ = some (.string ⟨#[]⟩) := (blk_cell BS9.out 5).trans rfl; have hfz_5 := blk_frozen BS9.out 5
 go_wp2_with fail
 refine (span_Cut.text w _ g m6 k6 HG.out (span_Cut.St_far HST9.out HGS.out HNE.out.symm)).mono ?_
 rintro e w10 ⟨he, hst, hkb⟩
 rw [H7.out] at he hst
 subst he; have HST10 := Aside0.mk hst; have hch := hkb.blk ((blk_set BS9.out 5 _)) HNE.out (by simp)
 simp only [List.setIfInBounds_toArray, List.set_cons_zero, List.set_cons_succ] at hch
 have BS10 := Aside0.mk hch; clear hch; clear hst hkb HST9 BS9 hcz_5 hfz_5
 simp only at HST10
 have hnb := HNE.out; have hnc := HNE.out.symm; have hcz_0 : w10.cell? ⟨gs, 0, none⟩ = some (.int .u64 n0) := (blk_cell BS10.out 0).trans rfl; have hcz_1 : w10.cell? ⟨gs, 1, none⟩ = some (.int .u64 n1) := (blk_cell BS10.out 1).trans rfl; have hcz_2 : w10.cell? ⟨gs, 2, none⟩ = some (.int .u64 n2) := (blk_cell BS10.out 2).trans rfl; have hcz_3 : w10.cell? ⟨gs, 3, none⟩ = some (.int .u64 n3) := (blk_cell BS10.out 3).trans rfl; have hcz_4 : w10.cell? ⟨gs, 4, none⟩ = some (.int .u64 n4) := (blk_cell BS10.out 4).trans rfl; have hcz_5 : w10.cell? ⟨gs, 5, none⟩ = some (.string s5) := (blk_cell BS10.out 5).trans rfl; have hcz_6 : w10.cell? ⟨gs, 6, none⟩ = some (.string ⟨#[]⟩) := (blk_cell BS10.out 6).trans rfl; have hcz_7 : w10.cell? ⟨gs, 7, none⟩ = some (.bool (b7 == 1)) := (blk_cell BS10.out 7).trans rfl; have hfz_0 := blk_frozen BS10.out 0; have hfz_1 := blk_frozen BS10.out 1; have hfz_2 := blk_frozen BS10.out 2; have hfz_3 := blk_frozen BS10.out 3; have hfz_4 := blk_frozen BS10.out 4; have hfz_5 := blk_frozen BS10.out 5; have hfz_6 := blk_frozen BS10.out 6; have hfz_7 := blk_frozen BS10.out 7
 obtain ⟨hgz_1, hgf_1⟩ := span_Cut.St_cell HST10.out
 by_cases hk : k7 = 0
 ·subst hk
  have h8 := H8.out
  rw [if_pos rfl] at h8
  have H8b := Aside0.mk h8; clear h8
  go_wp2_with fail
  refine (span_Right.calls 1000 n0 n1 n2 n3 n4 s5 s6 (b7 == 1) kd _ H8b.out).mono ?_
  rintro e w11 ⟨rfl, hb⟩
  have HST11 := Aside0.mk (span_Cut.St_below (span_Cut.St_far (i := 6) (u := .string s6) HST10.out HGS.out HNE.out.symm) hb); have BS11 := Aside0.mk (show w11.heap[gs]? = some (.cells #[.int .u64 n0, .int .u64 n1, .int .u64 n2, .int .u64 n3, .int .u64 n4, .string s5, .string s6, .bool (b7 == 1)] 76 (0, 0)) from blk_below (by have hch := blk_set BS10.out 6 (.string s6); simp only [List.setIfInBounds_toArray, List.set_cons_zero, List.set_cons_succ] at hch; exact hch) hb); clear hb HST10 BS10 hcz_0 hcz_1 hcz_2 hcz_3 hcz_4 hcz_5 hcz_6 hcz_7 hfz_0 hfz_1 hfz_2 hfz_3 hfz_4 hfz_5 hfz_6 hfz_7 hgz_1 hgf_1
  obtain ⟨hgz_1, hgf_1⟩ := span_Cut.St_cell HST11.out
  have hcz_0 : w11.cell? ⟨gs, 0, none⟩ = some (.int .u64 n0) := (blk_cell BS11.out 0).trans rfl; have hcz_1 : w11.cell? ⟨gs, 1, none⟩ = some (.int .u64 n1) := (blk_cell BS11.out 1).trans rfl; have hcz_2 : w11.cell? ⟨gs, 2, none⟩ = some (.int .u64 n2) := (blk_cell BS11.out 2).trans rfl; have hcz_3 : w11.cell? ⟨gs, 3, none⟩ = some (.int .u64 n3) := (blk_cell BS11.out 3).trans rfl; have hcz_4 : w11.cell? ⟨gs, 4, none⟩ = some (.int .u64 n4) := (blk_cell BS11.out 4).trans rfl; have hcz_5 : w11.cell? ⟨gs, 5, none⟩ = some (.string s5) := (blk_cell BS11.out 5).trans rfl; have hcz_6 : w11.cell? ⟨gs, 6, none⟩ = some (.string s6) := (blk_cell BS11.out 6).trans rfl; have hcz_7 : w11.cell? ⟨gs, 7, none⟩ = some (.bool (b7 == 1)) := (blk_cell BS11.out 7).trans rfl; have hfz_0 := blk_frozen BS11.out 0; have hfz_1 := blk_frozen BS11.out 1; have hfz_2 := blk_frozen BS11.out 2; have hfz_3 := blk_frozen BS11.out 3; have hfz_4 := blk_frozen BS11.out 4; have hfz_5 := blk_frozen BS11.out 5; have hfz_6 := blk_frozen BS11.out 6; have hfz_7 := blk_frozen BS11.out 7
  by_cases hd : kd = 0
  ·subst hd
   obtain ⟨hcl, hq⟩ := HOK.out rfl
   have HCL := Aside0.mk hcl; have HQ := Aside0.mk hq; clear hcl hq
   go_wp2_with fail
   obtain ⟨W, hW⟩ : ∃ W, w11.setCell ⟨g, 1, none⟩ (.int .i64 0) = W := ⟨_, rfl⟩
   rw [hW]
   have HSTW := Aside0.mk (show span_Cut.St w W g m7 0 from by rw [← hW]; exact span_Cut.St_k HST11.out HG.out 0)
   have BSW := Aside0.mk (show W.heap[gs]? = some (.cells #[.int .u64 n0, .int .u64 n1, .int .u64 n2, .int .u64 n3, .int .u64 n4, .string s5, .string s6, .bool (b7 == 1)] 76 (0, 0)) from by rw [← hW]; exact blk_far BS11.out (p := ⟨g, 1, none⟩) hnb _)
   clear hcz_0 hcz_1 hcz_2 hcz_3 hcz_4 hcz_5 hcz_6 hcz_7 hfz_0 hfz_1 hfz_2 hfz_3 hfz_4 hfz_5 hfz_6 hfz_7 hgz_1 hgf_1; clear HST11 BS11 hW
   obtain ⟨hBW, A7, c7, hblk, hl7, hC7⟩ := HSTW.out
   have HBW := Aside0.mk hBW; have HL7 := Aside0.mk hl7; have HC7 := Aside0.mk hC7; have hgz_0 : W.cell? ⟨g, 0, none⟩ = some (.slice A7 m7.length c7) := (blk_cell hblk 0).trans rfl; clear hBW hblk hl7 hC7; have hcz_0 : W.cell? ⟨gs, 0, none⟩ = some (.int .u64 n0) := (blk_cell BSW.out 0).trans rfl; have hcz_1 : W.cell? ⟨gs, 1, none⟩ = some (.int .u64 n1) := (blk_cell BSW.out 1).trans rfl; have hcz_2 : W.cell? ⟨gs, 2, none⟩ = some (.int .u64 n2) := (blk_cell BSW.out 2).trans rfl; have hcz_3 : W.cell? ⟨gs, 3, none⟩ = some (.int .u64 n3) := (blk_cell BSW.out 3).trans rfl; have hcz_4 : W.cell? ⟨gs, 4, none⟩ = some (.int .u64 n4) := (blk_cell BSW.out 4).trans rfl; have hcz_5 : W.cell? ⟨gs, 5, none⟩ = some (.string s5) := (blk_cell BSW.out 5).trans rfl; have hcz_6 : W.cell? ⟨gs, 6, none⟩ = some (.string s6) := (blk_cell BSW.out 6).trans rfl; have hcz_7 : W.cell? ⟨gs, 7, none⟩ = some (.bool (b7 == 1)) := (blk_cell BSW.out 7).trans rfl; have hfz_0 := blk_frozen BSW.out 0; have hfz_1 := blk_frozen BSW.out 1; have hfz_2 := blk_frozen BSW.out 2; have hfz_3 := blk_frozen BSW.out 3; have hfz_4 := blk_frozen BSW.out 4; have hfz_5 := blk_frozen BSW.out 5; have hfz_6 := blk_frozen BSW.out 6; have hfz_7 := blk_frozen BSW.out 7
   go_region_with (go_at_call 82; refine (slices_Clone_byte_byte.calls A7 c7 m7 m7 _ (Kd.C_below HC7.out (by repeat (first | exact HBW.out | apply below_drew1))) HL7.out HCL.out).mono ?_; rintro e w12 ⟨v12, rfl, hR, hb⟩; have HRC := Aside0.mk hR; have BS12 := Aside0.mk (blk_below (by (with_reducible skip); exact BSW.out) hb); have HB12 := Aside0.mk (below_then (show Below w.heap.size w _ from by (with_reducible repeat (refine below_drew1 ?_)); exact HBW.out) (by (with_reducible (exact (below_drew1 HBW.out).size))) hb); clear hR hb; have hcz_0 : w12.cell? ⟨gs, 0, none⟩ = some (.int .u64 n0) := (blk_cell BS12.out 0).trans rfl; have hcz_1 : w12.cell? ⟨gs, 1, none⟩ = some (.int .u64 n1) := (blk_cell BS12.out 1).trans rfl; have hcz_2 : w12.cell? ⟨gs, 2, none⟩ = some (.int .u64 n2) := (blk_cell BS12.out 2).trans rfl; have hcz_3 : w12.cell? ⟨gs, 3, none⟩ = some (.int .u64 n3) := (blk_cell BS12.out 3).trans rfl; have hcz_4 : w12.cell? ⟨gs, 4, none⟩ = some (.int .u64 n4) := (blk_cell BS12.out 4).trans rfl; have hcz_5 : w12.cell? ⟨gs, 5, none⟩ = some (.string s5) := (blk_cell BS12.out 5).trans rfl; have hcz_6 : w12.cell? ⟨gs, 6, none⟩ = some (.string s6) := (blk_cell BS12.out 6).trans rfl; have hcz_7 : w12.cell? ⟨gs, 7, none⟩ = some (.bool (b7 == 1)) := (blk_cell BS12.out 7).trans rfl; have hfz_0 := blk_frozen BS12.out 0; have hfz_1 := blk_frozen BS12.out 1; have hfz_2 := blk_frozen BS12.out 2; have hfz_3 := blk_frozen BS12.out 3; have hfz_4 := blk_frozen BS12.out 4; have hfz_5 := blk_frozen BS12.out 5; have hfz_6 := blk_frozen BS12.out 6; have hfz_7 := blk_frozen BS12.out 7)
   all_goals
    have hr1 := Kd.R_lower (Kd.R_mono (Kd.R_newB HRC.out (blk_drew BSW.out)) (fun _ h => h.2)) (below_drew1 HBW.out).size
    have HR1 := Aside0.mk (Kd.R_mono (ok' := fun _ => True) (Kd.R_far (p := ⟨gs, 7, none⟩) (Kd.R_far (p := ⟨gs, 6, none⟩) (Kd.R_far (p := ⟨gs, 5, none⟩) (Kd.R_far (p := ⟨gs, 4, none⟩) (Kd.R_far (p := ⟨gs, 3, none⟩) (Kd.R_far (p := ⟨gs, 2, none⟩) (Kd.R_far (p := ⟨gs, 1, none⟩) (Kd.R_far (p := ⟨gs, 0, none⟩) hr1 (fun _ h => h) (.int .u64 n0)) (fun _ h => h) (.int .u64 n1)) (fun _ h => h) (.int .u64 n2)) (fun _ h => h) (.int .u64 n3)) (fun _ h => h) (.int .u64 n4)) (fun _ h => h) (.string s5)) (fun _ h => h) (.string s6)) (fun _ h => h) (.bool (b7 == 1))) (fun _ _ => trivial))
    clear hr1
    go_wp2
    refine bodyPost_ret (results_ctt rfl _ _ gs 76 #[.int .u64 n0, .int .u64 n1, .int .u64 n2, .int .u64 n3, .int .u64 n4, .string s5, .string s6, .bool (b7 == 1)] (0, 0) _ rfl (by have hch := (blk_set (blk_set (blk_set (blk_set (blk_set (blk_set (blk_set (blk_set BS12.out 0 (.int .u64 n0)) 1 (.int .u64 n1)) 2 (.int .u64 n2)) 3 (.int .u64 n3)) 4 (.int .u64 n4)) 5 (.string s5)) 6 (.string s6)) 7 (.bool (b7 == 1))); simp only [List.setIfInBounds_toArray, List.set_cons_zero, List.set_cons_succ] at hch; exact hch) Try.underlying76 rfl (by kernel_rfl)) rfl ?_
    exact HQ.out _ _ HR1.out (by (with_reducible repeat (refine below_set ?_ HGS.out)); exact HB12.out)
  ·have hdb : (kd != 0) = true := bne_iff_ne.mpr hd
   go_wp2_with fail
   obtain ⟨W, hW⟩ : ∃ W, w11.setCell ⟨g, 1, none⟩ (.int .i64 kd) = W := ⟨_, rfl⟩
   rw [hW]
   have HSTW := Aside0.mk (show span_Cut.St w W g m7 kd from by rw [← hW]; exact span_Cut.St_k HST11.out HG.out kd)
   have BSW := Aside0.mk (show W.heap[gs]? = some (.cells #[.int .u64 n0, .int .u64 n1, .int .u64 n2, .int .u64 n3, .int .u64 n4, .string s5, .string s6, .bool (b7 == 1)] 76 (0, 0)) from by rw [← hW]; exact blk_far BS11.out (p := ⟨g, 1, none⟩) hnb _)
   clear hcz_0 hcz_1 hcz_2 hcz_3 hcz_4 hcz_5 hcz_6 hcz_7 hfz_0 hfz_1 hfz_2 hfz_3 hfz_4 hfz_5 hfz_6 hfz_7 hgz_1 hgf_1; clear HST11 BS11 hW
   obtain ⟨hgz_1, hgf_1⟩ := span_Cut.St_cell HSTW.out
   have hcz_0 : W.cell? ⟨gs, 0, none⟩ = some (.int .u64 n0) := (blk_cell BSW.out 0).trans rfl; have hcz_1 : W.cell? ⟨gs, 1, none⟩ = some (.int .u64 n1) := (blk_cell BSW.out 1).trans rfl; have hcz_2 : W.cell? ⟨gs, 2, none⟩ = some (.int .u64 n2) := (blk_cell BSW.out 2).trans rfl; have hcz_3 : W.cell? ⟨gs, 3, none⟩ = some (.int .u64 n3) := (blk_cell BSW.out 3).trans rfl; have hcz_4 : W.cell? ⟨gs, 4, none⟩ = some (.int .u64 n4) := (blk_cell BSW.out 4).trans rfl; have hcz_5 : W.cell? ⟨gs, 5, none⟩ = some (.string s5) := (blk_cell BSW.out 5).trans rfl; have hcz_6 : W.cell? ⟨gs, 6, none⟩ = some (.string s6) := (blk_cell BSW.out 6).trans rfl; have hcz_7 : W.cell? ⟨gs, 7, none⟩ = some (.bool (b7 == 1)) := (blk_cell BSW.out 7).trans rfl; have hfz_0 := blk_frozen BSW.out 0; have hfz_1 := blk_frozen BSW.out 1; have hfz_2 := blk_frozen BSW.out 2; have hfz_3 := blk_frozen BSW.out 3; have hfz_4 := blk_frozen BSW.out 4; have hfz_5 := blk_frozen BSW.out 5; have hfz_6 := blk_frozen BSW.out 6; have hfz_7 := blk_frozen BSW.out 7
   go_region
   go_wp2
   refine bodyPost_ret (results_ctt rfl _ _ gs 76 #[.int .u64 0, .int .u64 0, .int .u64 0, .int .u64 0, .int .u64 0, .string ⟨#[]⟩, .string ⟨#[]⟩, .bool false] (0, 0) _ rfl (by have hch := (blk_set (blk_set (blk_set (blk_set (blk_set (blk_set (blk_set (blk_set BSW.out 0 (.int .u64 0)) 1 (.int .u64 0)) 2 (.int .u64 0)) 3 (.int .u64 0)) 4 (.int .u64 0)) 5 (.string ⟨#[]⟩)) 6 (.string ⟨#[]⟩)) 7 (.bool false)); simp only [List.setIfInBounds_toArray, List.set_cons_zero, List.set_cons_succ] at hch; exact blk_drew hch) Try.underlying76 rfl (by kernel_rfl)) rfl ?_
   exact HBAD.out hd _ (by (with_reducible repeat (first | refine below_drew1 ?_ | refine below_set ?_ HGS.out)); exact HSTW.out.1)
 ·have hkb1 : (k7 != 0) = true := bne_iff_ne.mpr hk
  have hkb2 : (k7 == 0) = false := beq_eq_false_iff_ne.mpr hk; have h8 := H8.out
  rw [if_neg hk] at h8
  obtain rfl := Option.some.inj h8
  clear h8
  go_wp2_with fail
  obtain ⟨W, hW⟩ : ∃ W, w10.setCell ⟨gs, 6, none⟩ (.string s6) = W := ⟨_, rfl⟩
  rw [hW]
  have HSTW := Aside0.mk (show span_Cut.St w W g m7 k7 from by rw [← hW]; exact span_Cut.St_far HST10.out HGS.out HNE.out.symm)
  have BSW := Aside0.mk (show W.heap[gs]? = some (.cells #[.int .u64 n0, .int .u64 n1, .int .u64 n2, .int .u64 n3, .int .u64 n4, .string s5, .string s6, .bool (b7 == 1)] 76 (0, 0)) from by rw [← hW]; have hch := blk_set BS10.out 6 (.string s6); simp only [List.setIfInBounds_toArray, List.set_cons_zero, List.set_cons_succ] at hch; exact hch)
  clear hcz_0 hcz_1 hcz_2 hcz_3 hcz_4 hcz_5 hcz_6 hcz_7 hfz_0 hfz_1 hfz_2 hfz_3 hfz_4 hfz_5 hfz_6 hfz_7 hgz_1 hgf_1; clear HST10 BS10 hW
  obtain ⟨hgz_1, hgf_1⟩ := span_Cut.St_cell HSTW.out
  have hcz_0 : W.cell? ⟨gs, 0, none⟩ = some (.int .u64 n0) := (blk_cell BSW.out 0).trans rfl; have hcz_1 : W.cell? ⟨gs, 1, none⟩ = some (.int .u64 n1) := (blk_cell BSW.out 1).trans rfl; have hcz_2 : W.cell? ⟨gs, 2, none⟩ = some (.int .u64 n2) := (blk_cell BSW.out 2).trans rfl; have hcz_3 : W.cell? ⟨gs, 3, none⟩ = some (.int .u64 n3) := (blk_cell BSW.out 3).trans rfl; have hcz_4 : W.cell? ⟨gs, 4, none⟩ = some (.int .u64 n4) := (blk_cell BSW.out 4).trans rfl; have hcz_5 : W.cell? ⟨gs, 5, none⟩ = some (.string s5) := (blk_cell BSW.out 5).trans rfl; have hcz_6 : W.cell? ⟨gs, 6, none⟩ = some (.string s6) := (blk_cell BSW.out 6).trans rfl; have hcz_7 : W.cell? ⟨gs, 7, none⟩ = some (.bool (b7 == 1)) := (blk_cell BSW.out 7).trans rfl; have hfz_0 := blk_frozen BSW.out 0; have hfz_1 := blk_frozen BSW.out 1; have hfz_2 := blk_frozen BSW.out 2; have hfz_3 := blk_frozen BSW.out 3; have hfz_4 := blk_frozen BSW.out 4; have hfz_5 := blk_frozen BSW.out 5; have hfz_6 := blk_frozen BSW.out 6; have hfz_7 := blk_frozen BSW.out 7
  go_region
  go_wp2
  refine bodyPost_ret (results_ctt rfl _ _ gs 76 #[.int .u64 0, .int .u64 0, .int .u64 0, .int .u64 0, .int .u64 0, .string ⟨#[]⟩, .string ⟨#[]⟩, .bool false] (0, 0) _ rfl (by have hch := (blk_set (blk_set (blk_set (blk_set (blk_set (blk_set (blk_set (blk_set BSW.out 0 (.int .u64 0)) 1 (.int .u64 0)) 2 (.int .u64 0)) 3 (.int .u64 0)) 4 (.int .u64 0)) 5 (.string ⟨#[]⟩)) 6 (.string ⟨#[]⟩)) 7 (.bool false)); simp only [List.setIfInBounds_toArray, List.set_cons_zero, List.set_cons_succ] at hch; exact blk_drew hch) Try.underlying76 rfl (by kernel_rfl)) rfl ?_
  exact HBAD.out hk _ (by (with_reducible repeat (first | refine below_drew1 ?_ | refine below_set ?_ HGS.out)); exact HSTW.out.1)
theorem span_Cut.calls (A0 : Option Addr) (c0 : Nat) (l0 : List Int) (r1 : Int) (r2 : Int) (r3 : Int) (r4 : Int) (r5 : Int) (r6 : ByteArray) (r7 : ByteArray) (r8 : Bool) (r9 : List Int) (r10 : Int) (w : World) (hr0 : Kd.C (Kd.int .u8) w A0 l0.length l0) (hc0 : l0.length ≤ c0) (h : span_Cut.f l0 = some (r1, r2, r3, r4, r5, r6, r7, r8, r9, r10)) :
  Calls Try.prog 100 #[.slice A0 l0.length c0] w fun e w' => ∃ v8_ : Value, e = .returned (.tuple #[.agg #[.int .u64 r1, .int .u64 r2, .int .u64 r3, .int .u64 r4, .int .u64 r5, .string r6, .string r7, .bool r8], v8_, .int .i64 r10]) ∧ Kd.R (Kd.int .u8) 5 w' w.heap.size (fun _ => True) v8_ r9 ∧ Below w.heap.size w w' := by
 unfold span_Cut.f at h
 obtain ⟨a, ha, h⟩ := Option.bind_eq_some_iff.1 h
 obtain ⟨b, hb, h⟩ := Option.bind_eq_some_iff.1 h
 obtain ⟨c, hc, h⟩ := Option.bind_eq_some_iff.1 h
 obtain ⟨d, hd, h⟩ := Option.bind_eq_some_iff.1 h
 obtain ⟨e, he, h⟩ := Option.bind_eq_some_iff.1 h
 obtain ⟨kd, hkd, h⟩ := Option.bind_eq_some_iff.1 h
 refine span_Cut.walk A0 c0 l0 w hr0 hc0 _ _ _ _ _ _ kd _ _ _ _ _ _ _ _ _ _ _ _ _ _ _ _ _ _ ha hb hc hd he rfl rfl rfl hkd _ (fun hk w' hB => ?_) (fun hk => ?_)
 ·rw [if_neg hk] at h
  simp only [Option.some.injEq, Prod.mk.injEq] at h
  obtain ⟨rfl, rfl, rfl, rfl, rfl, rfl, rfl, rfl, rfl, rfl⟩ := h
  exact ⟨_, rfl, Kd.R_nil _ _ _ _ _, hB⟩
 rw [if_pos hk] at h
 obtain ⟨r, hr, h⟩ := Option.bind_eq_some_iff.1 h
 have hrr : r = _ := (by unfold slices_Clone_byte_byte.f at hr; split at hr; exact (Option.some.inj hr).symm; cases hr); subst hrr
 simp only [Option.some.injEq, Prod.mk.injEq] at h
 obtain ⟨rfl, rfl, rfl, rfl, rfl, rfl, rfl, rfl, rfl, rfl⟩ := h
 exact ⟨hr, fun v w' hR hB => ⟨v, rfl, hR, hB⟩⟩


-- NOT PRINTED: function 85 (message_reader_spans)

-- NOT PRINTED: function 86 (message_reader_ballot)

-- NOT PRINTED: function 87 (message_reader_truth)

-- NOT PRINTED: function 88 (message_reader_verdict)

-- NOT PRINTED: function 46 (message_reader_rest)

/-- What a reader takes: the bytes taken, what is left, and whether something went wrong. -/
def message_Decode.tk (rest : List Int) (bad : Bool) (n : Nat) : List Int × List Int × Bool :=
 if bad = true ∨ rest.length < n then (List.replicate n 0, rest, true) else (rest.take n, rest.drop n, false)
/-- A reader in memory, over bytes that stand ahead of it. -/
def message_Decode.St (w0 w : World) (g : Nat) (rest : List Int) (bad : Bool) : Prop :=
 Below w0.heap.size w0 w ∧ w0.heap.size ≤ g ∧ ∃ (A : Option Addr) (c : Nat), w.heap[g]? = some (.cells #[.slice A rest.length c, .bool bad] 99 (0, 0)) ∧ rest.length ≤ c ∧ Kd.C (Kd.int .u8) w0 A rest.length rest
theorem message_Decode.tk_len (rest : List Int) (bad : Bool) (n : Nat) : (message_Decode.tk rest bad n).1.length = n := by
 unfold message_Decode.tk
 split
 ·simp
 simp; omega
theorem message_Decode.St_below {w0 w w1 : World} {g : Nat} {rest : List Int} {bad : Bool} (h : message_Decode.St w0 w g rest bad) (hb : Below w.heap.size w w1) : message_Decode.St w0 w1 g rest bad := by
 obtain ⟨hB, hg, A, c, hblk, hl, hC⟩ := h
 exact ⟨below_step hB hb, hg, A, c, blk_below hblk hb, hl, hC⟩
theorem message_Decode.St_far {w0 w : World} {g q : Nat} {rest : List Int} {bad : Bool} (h : message_Decode.St w0 w g rest bad) (hq : w0.heap.size ≤ q) (hne : g ≠ q) (i : Nat) (u : Value) : message_Decode.St w0 (w.setCell ⟨q, i, none⟩ u) g rest bad := by
 obtain ⟨hB, hg, A, c, hblk, hl, hC⟩ := h
 exact ⟨below_set hB hq, hg, A, c, blk_far hblk (p := ⟨q, i, none⟩) hne u, hl, hC⟩
set_option maxHeartbeats 8000000 in
set_option maxRecDepth 100000 in
theorem message_Decode.take (w0 w : World) (g : Nat) (rest : List Int) (bad : Bool) (n : Nat) (hn : n ≤ 255) (hst : message_Decode.St w0 w g rest bad) :
  Calls Try.prog 83 #[.pointer (some ⟨g, 0, none⟩), .int .i64 n] w fun e w' => ∃ (A' : Option Addr) (c' : Nat), e = .returned (.slice A' n c') ∧ n ≤ c' ∧ Kd.C (Kd.int .u8) w' A' n (message_Decode.tk rest bad n).1 ∧ message_Decode.St w0 w' g (message_Decode.tk rest bad n).2.1 (message_Decode.tk rest bad n).2.2 ∧ KeepBut w w' g none := by
 obtain ⟨hB, hg, A, c, hblk, hl, hC⟩ := hst
 have hu99 := Try.underlying99; have hcz_0 : w.cell? ⟨g, 0, none⟩ = some (.slice A rest.length c) := (blk_cell hblk 0).trans rfl; have hcz_1 : w.cell? ⟨g, 1, none⟩ = some (.bool bad) := (blk_cell hblk 1).trans rfl; have hfz_0 := blk_frozen hblk 0; have hfz_1 := blk_frozen hblk 1; have HG := Aside0.mk hg; have HB := Aside0.mk hB; have BK := Aside0.mk hblk; have HL := Aside0.mk hl; have HC := Aside0.mk hC; clear hB hblk hl hC hg
 unfold message_Decode.tk
 by_cases hbn : bad = true ∨ rest.length < n
 ·rw [if_pos hbn]
  have hlen : (List.replicate (n : Int).toNat (0 : Int)).length = n := by simp
  have hfin : ∀ w1 w2, w1 = w.setCell ⟨g, 1, none⟩ (.bool true) → ∀ v1, Kd.R (Kd.int .u8) 5 w2 w1.heap.size (fun _ => True) v1 (List.replicate (n : Int).toNat (0 : Int)) → Below w1.heap.size w1 w2 → ∃ (A' : Option Addr) (c' : Nat), v1 = .slice A' n c' ∧ n ≤ c' ∧ Kd.C (Kd.int .u8) w2 A' n (List.replicate n 0) ∧ message_Decode.St w0 w2 g rest true ∧ KeepBut w w2 g none := by
   rintro w1 w2 rfl v1 hR hb
   obtain ⟨A1, c1, rfl, hle, hC1⟩ := Kd.R_reads hR
   rw [List.length_replicate, Int.toNat_natCast] at hle hC1
   refine ⟨A1, c1, by rw [hlen], hle, hC1, ⟨below_step (below_set HB.out HG.out) hb, HG.out, A, c, blk_below ((blk_set BK.out 1 _).trans rfl) hb, HL.out, HC.out⟩, KeepBut.trans ((KeepBut.refl w g none).set_ 1 _) (KeepBut.of_below hb g none) (.inl rfl)⟩
  have HFIN := Aside0.mk hfin; clear hfin; have harm : n ≤ 255 := hn
  cases bad
  ·have hlt : rest.length < n := hbn.resolve_left (by decide)
   have hltb : decide ((rest.length : Int) < (n : Int)) = true := decide_eq_true (by omega); clear hbn
   go_enter Try.func83, Try.ntmps83
   go_wp2_with ((with_reducible refine gate_dst (N := 27) rfl ?_); refine Kd.R_make (Kd.int .u8) _ 5 rfl (N := 27) rfl 35 _ _ rfl (n : Int) rfl rfl Try.underlying35 (.int .u8 0) 1 info5 rfl (by decide) (by decide) (0 : Int) (ok := fun _ => True) (okp := fun _ => False) rfl (fun _ h => h.elim) trivial (by omega) (by simp; omega) (Below.refl _ _) (Nat.le_refl _) ?_; intro v1 w1 hR hb hgr hat; have HQ := Aside0.mk (HFIN.out _ _ rfl _ hR hb); clear hR hb hgr hat)
   obtain ⟨A1, c1, rfl, hq⟩ := HQ.out
   have HQ2 := Aside0.mk hq; clear hq HQ
   go_wp2
   go_ret
   exact ⟨A1, c1, rfl, HQ2.out⟩
  clear hbn
  go_enter Try.func83, Try.ntmps83
  go_wp2_with ((with_reducible refine gate_dst (N := 27) rfl ?_); refine Kd.R_make (Kd.int .u8) _ 5 rfl (N := 27) rfl 35 _ _ rfl (n : Int) rfl rfl Try.underlying35 (.int .u8 0) 1 info5 rfl (by decide) (by decide) (0 : Int) (ok := fun _ => True) (okp := fun _ => False) rfl (fun _ h => h.elim) trivial (by omega) (by simp; omega) (Below.refl _ _) (Nat.le_refl _) ?_; intro v1 w1 hR hb hgr hat; have HQ := Aside0.mk (HFIN.out _ _ rfl _ hR hb); clear hR hb hgr hat)
  obtain ⟨A1, c1, rfl, hq⟩ := HQ.out
  have HQ2 := Aside0.mk hq; clear hq HQ
  go_wp2
  go_ret
  exact ⟨A1, c1, rfl, HQ2.out⟩
 rw [if_neg hbn]
 obtain rfl : bad = false := by cases bad; rfl; exact absurd (Or.inl rfl) hbn
 have hlt : ¬ rest.length < n := fun h => hbn (.inr h)
 have hltb : decide ((rest.length : Int) < (n : Int)) = false := decide_eq_false (by omega); clear hbn
 obtain ⟨i0, hi, hzz⟩ := Option.map_eq_some_iff.1 info5
 simp only [Prod.mk.injEq] at hzz
 have hto := fun W => Hand.run_slice_to (P := Try.prog) 35 5 .i64 Try.underlying35 hi A rest.length c n (by have := HL.out; omega) W
 have hfrom := cut_from (P := Try.prog) 35 5 .i64 Try.underlying35 hi 1 hzz.2.1 A rest.length c (n : Int) (by omega) (by omega)
 rw [Int.toNat_natCast] at hfrom
 have hd := Kd.C_drop HC.out (show n ≤ rest.length by omega) HL.out
 have ht := Kd.C_take HC.out (show n ≤ rest.length by omega)
 rw [show (Kd.int .u8).sz = 1 from rfl] at hd
 obtain ⟨A2, hA2⟩ : ∃ A2, (if c = n then A else A.map (·.add (n * 1))) = A2 := ⟨_, rfl⟩
 rw [hA2] at hd hfrom
 have HD := Aside0.mk hd; have HT := Aside0.mk ht; clear hd ht hA2 hzz
 go_enter Try.func83, Try.ntmps83
 go_wp2
 go_ret
 refine ⟨A, c, rfl, by have := HL.out; omega, ?_, ⟨below_set (below_set HB.out HG.out) HG.out, HG.out, A2, c - n, ?_, by rw [List.length_drop]; have := HL.out; omega, HD.out⟩, ((KeepBut.refl w g none).set_ 1 _).set_ 0 _⟩
 ·have h := HT.out
  rw [List.length_take, Nat.min_eq_left (by omega)] at h
  exact Kd.C_below h (below_set (below_set HB.out HG.out) HG.out)
 rw [List.length_drop]
 exact (blk_set (blk_set BK.out 1 _) 0 _).trans rfl
/-- The next number, the next byte. -/
def message_Decode.nm (rest : List Int) (bad : Bool) : Option (Int × List Int × Bool) := (num_U64.f (message_Decode.tk rest bad 8).1).map fun r => (r, (message_Decode.tk rest bad 8).2)
set_option maxHeartbeats 8000000 in
set_option maxRecDepth 100000 in
theorem message_Decode.number (w0 w : World) (g : Nat) (rest : List Int) (bad : Bool) (hst : message_Decode.St w0 w g rest bad) (r : Int × List Int × Bool) (h : message_Decode.nm rest bad = some r) :
  Calls Try.prog 45 #[.pointer (some ⟨g, 0, none⟩)] w fun e w' => e = .returned (.int .u64 r.1) ∧ message_Decode.St w0 w' g r.2.1 r.2.2 ∧ KeepBut w w' g none := by
 obtain ⟨v, hv, rfl⟩ := Option.map_eq_some_iff.1 h
 have HST := Aside0.mk hst; clear hst h
 go_enter Try.func45, Try.ntmps45
 go_wp2_with fail
 refine (message_Decode.take w0 _ g rest bad 8 (by omega) HST.out).mono ?_
 rintro e w1 ⟨A1, c1, rfl, hle, hC, hst, hkb⟩
 have hlen := message_Decode.tk_len rest bad 8; have hU := num_U64.calls A1 c1 (message_Decode.tk rest bad 8).1 v w1 (by rw [hlen]; exact hC) (by omega) hv
 rw [hlen] at hU
 have HU := Aside0.mk hU; have HST1 := Aside0.mk hst; have HKB := Aside0.mk hkb; clear hU hst hkb hC hlen hv
 go_wp2_with fail
 refine HU.out.mono ?_
 rintro e w2 ⟨rfl, hd⟩
 have HD := Aside0.mk hd; clear hd
 go_wp2
 go_ret
 exact ⟨rfl, message_Decode.St_below HST1.out (Drawn0.below HD.out), KeepBut.trans HKB.out (KeepBut.of_below (Drawn0.below HD.out) g none) (.inl rfl)⟩
set_option maxHeartbeats 8000000 in
set_option maxRecDepth 100000 in
theorem message_Decode.rsmall (w0 w : World) (g : Nat) (rest : List Int) (bad : Bool) (hst : message_Decode.St w0 w g rest bad) (out rest1 : List Int) (bad1 : Bool) (c : Int) (ht : message_Decode.tk rest bad 1 = (out, rest1, bad1)) (hc : rd out 0 = c) (hc0 : 0 ≤ c) (hc1 : c < 256) :
  Calls Try.prog 44 #[.pointer (some ⟨g, 0, none⟩)] w fun e w' => e = .returned (.int .i64 c) ∧ message_Decode.St w0 w' g rest1 bad1 ∧ KeepBut w w' g none := by
 have HST := Aside0.mk hst; clear hst
 go_enter Try.func44, Try.ntmps44
 go_wp2_with fail
 refine (message_Decode.take w0 _ g rest bad 1 (by omega) HST.out).mono ?_
 rintro e w1 ⟨A1, c1, rfl, hle, hC, hst, hkb⟩
 rw [ht] at hC hst
 obtain ⟨ad, rfl, hcell⟩ := Kd.at_int hC 0 (by omega) (by omega)
 rw [hc, show ad.add (Int.toNat 0) = ad from by simp [Addr.add]] at hcell
 have HST1 := Aside0.mk hst; have HKB := Aside0.mk hkb; clear hst hkb hC ht hc
 go_wp2
 go_ret
 exact ⟨rfl, HST1.out, HKB.out⟩
theorem message_Decode.verdict (w0 w : World) (g : Nat) (rest : List Int) (bad : Bool) (hst : message_Decode.St w0 w g rest bad) (out rest1 : List Int) (bad1 : Bool) (c : Int) (ht : message_Decode.tk rest bad 1 = (out, rest1, bad1)) (hc : rd out 0 = c) (hc0 : 0 ≤ c) (hc1 : c < 256) :
  Calls Try.prog 88 #[.pointer (some ⟨g, 0, none⟩)] w fun e w' => e = .returned (.int .i64 c) ∧ message_Decode.St w0 w' g rest1 bad1 ∧ KeepBut w w' g none := by
 have HST := Aside0.mk hst; clear hst
 go_enter Try.func88, Try.ntmps88
 go_wp2_with fail
 refine (message_Decode.rsmall w0 _ g rest bad HST.out out rest1 bad1 c ht hc hc0 hc1).mono ?_
 rintro e w1 ⟨rfl, hst, hkb⟩
 have HST1 := Aside0.mk hst; have HKB := Aside0.mk hkb; clear hst hkb
 go_wp2
 go_ret
 exact ⟨rfl, HST1.out, HKB.out⟩

set_option maxHeartbeats 8000000 in
set_option maxRecDepth 100000 in
theorem message_Decode.rest8 (w0 w : World) (g gp : Nat) (rest : List Int) (bad : Bool) (c1 c2 c3 c4 c5 c6 c7 c8 c9 c10 : Value) (hst : message_Decode.St w0 w g rest bad) (hp : w.heap[gp]? = some (.cells #[.int .i64 8, c1, c2, c3, c4, c5, c6, c7, c8, c9, c10] 30 (0, 0))) (hgp : w0.heap.size ≤ gp) (hne : gp ≠ g) (out rest1 : List Int) (bad1 : Bool) (c : Int) (ht : message_Decode.tk rest bad 1 = (out, rest1, bad1)) (hc : rd out 0 = c) (hc0 : 0 ≤ c) (hc1 : c < 256) :
  Calls Try.prog 46 #[.pointer (some ⟨g, 0, none⟩), .pointer (some ⟨gp, 0, none⟩)] w fun e w' => e = .returned (.tuple #[]) ∧ message_Decode.St w0 w' g rest1 bad1 ∧ w'.heap[gp]? = some (.cells #[.int .i64 8, c1, c2, c3, c4, c5, .int .i64 c, c7, c8, c9, c10] 30 (0, 0)) ∧ ∀ (q : Nat) (cs : Array Value) (t : TypeId), q ≠ g → q ≠ gp → w.heap[q]? = some (.cells cs t (0, 0)) → w'.heap[q]? = some (.cells cs t (0, 0)) := by
 have hu30 := Try.underlying30; have hu24 := Try.underlying24; have hu51 := Try.underlying51; have hu54 := Try.underlying54; have hu57 := Try.underlying57; have hu60 := Try.underlying60; have hu63 := Try.underlying63; have hu66 := Try.underlying66; have hu69 := Try.underlying69; have HST := Aside0.mk hst; have HP := Aside0.mk hp; have HT := Aside0.mk ht; have HC := Aside0.mk hc; have HGP := Aside0.mk hgp; have hne2 : g ≠ gp := hne.symm; clear hst ht hc hgp; have hcz_0 : w.cell? ⟨gp, 0, none⟩ = some (.int .i64 8) := (blk_cell hp 0).trans rfl; clear hp
 go_enter Try.func46, Try.ntmps46
 go_wp2_with fail
 refine (message_Decode.verdict w0 _ g rest bad HST.out out rest1 bad1 c HT.out HC.out hc0 hc1).mono ?_
 rintro e w1 ⟨rfl, hst, hkb⟩
 have HST1 := Aside0.mk hst; have HP1 := Aside0.mk ((hkb.2 gp (blk_lt HP.out) hne (by simp)).trans HP.out); have HKB := Aside0.mk hkb; clear hst hkb hcz_0
 obtain ⟨hq_0, hq_1, hq_2, hq_3, hq_4, hq_5, hq_6, hq_7, hq_8, hq_9, hq_10⟩ := Hand.Cz.c11 HP1.out
 obtain ⟨hf_0, hf_1, hf_2, hf_3, hf_4, hf_5, hf_6, hf_7, hf_8, hf_9, hf_10⟩ := Hand.Cz.f11 HP1.out
 go_wp2
 go_end0
 exact ⟨rfl, message_Decode.St_far HST1.out HGP.out hne2 _ _, (blk_set HP1.out 6 _).trans rfl, fun q cs t h1 h2 hq => blk_far ((HKB.out.2 q (blk_lt hq) h1 (by simp)).trans hq) (p := ⟨gp, 6, none⟩) h2 _⟩

set_option maxHeartbeats 8000000 in
set_option maxRecDepth 100000 in
theorem message_Decode.dec8 (A0 : Option Addr) (c0 : Nat) (l0 : List Int) (w : World) (hr0 : Kd.C (Kd.int .u8) w A0 l0.length l0) (hc0 : l0.length ≤ c0) (K : Nat) (d : List Int) (hcut : frame_Cut.f K l0 = some (d, [], 0)) (o1 d1 : List Int) (h1 : message_Decode.tk d false 1 = (o1, d1, false)) (hk : rd o1 0 = 8) (tr : Int) (d2 : List Int) (h2 : message_Decode.nm d1 false = some (tr, d2, false)) (o3 : List Int) (v : Int) (h3 : message_Decode.tk d2 false 1 = (o3, [], false)) (hv : rd o3 0 = v) (hv0 : 0 ≤ v) (hv1 : v < 256) (hR : message_Right.f 8 tr 0 0 0 0 v false [] [] [] = some 0) :
  Calls Try.prog 19 #[.slice A0 l0.length c0] w fun e w' => e = .returned (.tuple #[.agg #[.int .i64 8, .int .u64 tr, .int .u64 0, .int .u64 0, .int .u64 0, .int .u64 0, .int .i64 v, .bool false, .slice none 0 0, .slice none 0 0, .slice none 0 0], .int .i64 0]) ∧ Below w.heap.size w w' := by
 have hu30 := Try.underlying30; have hu24 := Try.underlying24; have hu51 := Try.underlying51; have hu54 := Try.underlying54; have hu57 := Try.underlying57; have hu60 := Try.underlying60; have hu63 := Try.underlying63; have hu66 := Try.underlying66; have hu69 := Try.underlying69; have hu99 := Try.underlying99; have HC := Aside0.mk hr0; have HCUT := Aside0.mk hcut; have H1 := Aside0.mk h1; have HK := Aside0.mk hk; have H2 := Aside0.mk h2; have H3 := Aside0.mk h3; have HV := Aside0.mk hv; have HR := Aside0.mk hR; clear hr0 hcut h1 hk h2 h3 hv hR
 go_enter Try.func19, Try.ntmps19
 go_wp2_with ((with_reducible refine gate_dst (N := 2) rfl ?_); refine box_event ?hg (N := 2) ?hd (cs := #[.int .i64 0, .int .u64 0, .int .u64 0, .int .u64 0, .int .u64 0, .int .u64 0, .int .i64 0, .bool false, .slice none 0 0, .slice none 0 0, .slice none 0 0]) (t := 30) ?hr ?_; (case hd => rfl); (case hg => rfl); (case hr => (go_simp; done)); intro g2 hg w1 hbox hb; have HG2 := Aside0.mk (show w.heap.size ≤ g2 from Nat.le_of_eq hg.symm); have B2 := Aside0.mk hbox; have HB1 := Aside0.mk hb; clear hg hbox hb)
 refine (frame_Cut.calls K A0 c0 l0 d [] 0 _ (Kd.C_below HC.out HB1.out) hc0 HCUT.out).mono ?_
 rintro e w2 ⟨v1, v2, rfl, hR1, hR2, hb⟩
 obtain ⟨A1, c1, rfl, hle1, hC1⟩ := Kd.R_reads hR1
 obtain ⟨A2, c2, rfl⟩ := Kd.R_slice hR2
 have HB2 := Aside0.mk (below_step HB1.out hb); have B22 := Aside0.mk (blk_below B2.out hb); have HC1 := Aside0.mk hC1; have HLE := Aside0.mk hle1; clear hR1 hR2 hb hle1 hC1
 go_wp2_with ((with_reducible refine gate_dst (N := 21) rfl ?_); refine box_event ?hg (N := 21) ?hd (cs := #[.slice A1 d.length c1, .bool false]) (t := 99) ?hr ?_; (case hd => rfl); (case hg => rfl); (case hr => (go_simp; done)); intro g hg w3 hbox hb; have hgs := hg.symm; have HST := Aside0.mk (show message_Decode.St w2 w3 g d false from ⟨hb, Nat.le_of_eq hg.symm, A1, c1, hbox, HLE.out, HC1.out⟩); have B23 := Aside0.mk (blk_below B22.out hb); have HNE := Aside0.mk (show g2 ≠ g from by have := blk_lt B22.out; omega); clear hg hbox hb hgs)
 refine (message_Decode.rsmall w2 _ g d false HST.out o1 d1 false 8 H1.out HK.out (by omega) (by omega)).mono ?_
 rintro e w4 ⟨rfl, hst, hkb⟩
 have HST4 := Aside0.mk hst; have B24 := Aside0.mk ((hkb.2 g2 (blk_lt B23.out) HNE.out (by simp)).trans B23.out); clear hst hkb
 go_upto_region 6 with ((with_reducible refine gate_dst (N := 8) rfl ?_); refine box_event ?hg (N := 8) ?hd (cs := #[.int .i64 0, .int .u64 0, .int .u64 0, .int .u64 0, .int .u64 0, .int .u64 0, .int .i64 0, .bool false, .slice none 0 0, .slice none 0 0, .slice none 0 0]) (t := 30) ?hr ?_; (case hd => rfl); (case hg => rfl); (case hr => (go_simp; done)); intro gp hg w5 hbox hb; have hgs := hg.symm; have HNP := Aside0.mk (show gp ≠ g from by have := blk_lt HST4.out.2.2.choose_spec.choose_spec.1; omega); have HNP2 := Aside0.mk (show gp ≠ g2 from by have := blk_lt B24.out; omega); have HGP := Aside0.mk (show w2.heap.size ≤ gp from by have := HST4.out.1.size; omega); have HST5 := Aside0.mk (message_Decode.St_below HST4.out hb); have B25 := Aside0.mk (blk_below B24.out hb); have BP := Aside0.mk hbox; clear hg hbox hb hgs; obtain ⟨hp_0, hp_1, hp_2, hp_3, hp_4, hp_5, hp_6, hp_7, hp_8, hp_9, hp_10⟩ := Hand.Cz.c11 BP.out; obtain ⟨hpf_0, hpf_1, hpf_2, hpf_3, hpf_4, hpf_5, hpf_6, hpf_7, hpf_8, hpf_9, hpf_10⟩ := Hand.Cz.f11 BP.out)
 generalize hW6 : World.setCell _ (Addr.mk gp 10 none) _ = w6
 have BP6 := Aside0.mk (show w6.heap[gp]? = some (.cells #[.int .i64 8, .int .u64 0, .int .u64 0, .int .u64 0, .int .u64 0, .int .u64 0, .int .i64 0, .bool false, .slice none 0 0, .slice none 0 0, .slice none 0 0] 30 (0, 0)) from by rw [← hW6]; exact Hand.Cz.p11 BP.out)
 have HST6 := Aside0.mk (show message_Decode.St w2 w6 g d1 false from by rw [← hW6]; exact (message_Decode.St_far (message_Decode.St_far (message_Decode.St_far (message_Decode.St_far (message_Decode.St_far (message_Decode.St_far (message_Decode.St_far (message_Decode.St_far (message_Decode.St_far (message_Decode.St_far (message_Decode.St_far HST5.out HGP.out HNP.out.symm 0 _) HGP.out HNP.out.symm 1 _) HGP.out HNP.out.symm 2 _) HGP.out HNP.out.symm 3 _) HGP.out HNP.out.symm 4 _) HGP.out HNP.out.symm 5 _) HGP.out HNP.out.symm 6 _) HGP.out HNP.out.symm 7 _) HGP.out HNP.out.symm 8 _) HGP.out HNP.out.symm 9 _) HGP.out HNP.out.symm 10 _))
 have B26 := Aside0.mk (show w6.heap[g2]? = some (.cells #[.int .i64 0, .int .u64 0, .int .u64 0, .int .u64 0, .int .u64 0, .int .u64 0, .int .i64 0, .bool false, .slice none 0 0, .slice none 0 0, .slice none 0 0] 30 (0, 0)) from by rw [← hW6]; exact Hand.Cz.o11 B25.out HNP2.out.symm)
 clear hW6 BP HST5 B25 HST4 B24 hp_0 hpf_0 hp_1 hpf_1 hp_2 hpf_2 hp_3 hpf_3 hp_4 hpf_4 hp_5 hpf_5 hp_6 hpf_6 hp_7 hpf_7 hp_8 hpf_8 hp_9 hpf_9 hp_10 hpf_10
 obtain ⟨hp_0, hp_1, hp_2, hp_3, hp_4, hp_5, hp_6, hp_7, hp_8, hp_9, hp_10⟩ := Hand.Cz.c11 BP6.out
 go_wp2_with fail
 refine (message_Decode.number w2 _ g d1 false HST6.out (tr, d2, false) H2.out).mono ?_
 rintro e w7 ⟨rfl, hst, hkb⟩
 have HST7 := Aside0.mk hst; have BP7 := Aside0.mk ((hkb.2 gp (blk_lt BP6.out) HNP.out (by simp)).trans BP6.out); have B27 := Aside0.mk ((hkb.2 g2 (blk_lt B26.out) HNE.out (by simp)).trans B26.out); clear hst hkb hp_0 hp_1 hp_2 hp_3 hp_4 hp_5 hp_6 hp_7 hp_8 hp_9 hp_10
 obtain ⟨hp_0, hp_1, hp_2, hp_3, hp_4, hp_5, hp_6, hp_7, hp_8, hp_9, hp_10⟩ := Hand.Cz.c11 BP7.out
 obtain ⟨hpf_0, hpf_1, hpf_2, hpf_3, hpf_4, hpf_5, hpf_6, hpf_7, hpf_8, hpf_9, hpf_10⟩ := Hand.Cz.f11 BP7.out
 go_wp2_with fail
 refine (message_Decode.rest8 w2 _ g gp d2 false (.int .u64 tr) (.int .u64 0) (.int .u64 0) (.int .u64 0) (.int .u64 0) (.int .i64 0) (.bool false) (.slice none 0 0) (.slice none 0 0) (.slice none 0 0) (message_Decode.St_far HST7.out HGP.out HNP.out.symm 1 _) ((blk_set BP7.out 1 (.int .u64 tr)).trans rfl) HGP.out HNP.out o3 [] false v H3.out HV.out hv0 hv1).mono ?_
 rintro e w8 ⟨rfl, hst, hp8, hkq⟩
 have BP8 := Aside0.mk hp8; have B28 := Aside0.mk (hkq g2 _ _ HNE.out HNP2.out.symm (blk_far B27.out (p := ⟨gp, 1, none⟩) HNP2.out.symm _))
 obtain ⟨hB8, hg8, A8, c8, hg8b, _, _⟩ := hst
 have HB8 := Aside0.mk hB8
 obtain ⟨hgz_0, hgz_1⟩ := Hand.Cz.c2 hg8b
 clear hg8b hB8 hg8 hp8 hkq hp_0 hpf_0 hp_1 hpf_1 hp_2 hpf_2 hp_3 hpf_3 hp_4 hpf_4 hp_5 hpf_5 hp_6 hpf_6 hp_7 hpf_7 hp_8 hpf_8 hp_9 hpf_9 hp_10 hpf_10
 obtain ⟨hp_0, hp_1, hp_2, hp_3, hp_4, hp_5, hp_6, hp_7, hp_8, hp_9, hp_10⟩ := Hand.Cz.c11 BP8.out
 go_wp2_with (go_at_call 13; refine (message_Right.calls 8 tr 0 0 0 0 v false none 0 [] none 0 [] none 0 [] 0 _ (Kd.C_nil _ _) (Nat.le_refl _) (Kd.C_nil _ _) (Nat.le_refl _) (Kd.C_nil _ _) (Nat.le_refl _) HR.out).mono ?_; rintro e w9 ⟨rfl, hb⟩; have BP9 := Aside0.mk (blk_below BP8.out hb); have B29 := Aside0.mk (blk_below B28.out hb); have HB9 := Aside0.mk (below_step HB8.out hb); clear hb; clear hp_0 hp_1 hp_2 hp_3 hp_4 hp_5 hp_6 hp_7 hp_8 hp_9 hp_10; obtain ⟨hp_0, hp_1, hp_2, hp_3, hp_4, hp_5, hp_6, hp_7, hp_8, hp_9, hp_10⟩ := Hand.Cz.c11 BP9.out; obtain ⟨hs_0, hs_1, hs_2, hs_3, hs_4, hs_5, hs_6, hs_7, hs_8, hs_9, hs_10⟩ := Hand.Cz.c11 B29.out; obtain ⟨hsf_0, hsf_1, hsf_2, hsf_3, hsf_4, hsf_5, hsf_6, hsf_7, hsf_8, hsf_9, hsf_10⟩ := Hand.Cz.f11 B29.out)
 refine bodyPost_ret (results_ct rfl _ _ g2 30 #[.int .i64 8, .int .u64 tr, .int .u64 0, .int .u64 0, .int .u64 0, .int .u64 0, .int .i64 v, .bool false, .slice none 0 0, .slice none 0 0, .slice none 0 0] (0, 0) _ rfl (Hand.Cz.p11 B29.out) Try.underlying30 rfl (by kernel_rfl)) rfl ?_
 exact ⟨rfl, Hand.Cz.b11 (below_step HB2.out HB9.out) HG2.out⟩

set_option maxHeartbeats 8000000 in
set_option maxRecDepth 100000 in
theorem message_Decode.dbad (A0 : Option Addr) (c0 : Nat) (l0 : List Int) (w : World) (hr0 : Kd.C (Kd.int .u8) w A0 l0.length l0) (hc0 : l0.length ≤ c0) (K : Nat) (d rest : List Int) (k : Int) (hk : k ≠ 0) (hcut : frame_Cut.f K l0 = some (d, rest, k)) :
  Calls Try.prog 19 #[.slice A0 l0.length c0] w fun e w' => e = .returned (.tuple #[.agg #[.int .i64 0, .int .u64 0, .int .u64 0, .int .u64 0, .int .u64 0, .int .u64 0, .int .i64 0, .bool false, .slice none 0 0, .slice none 0 0, .slice none 0 0], .int .i64 k]) ∧ Below w.heap.size w w' := by
 have hu30 := Try.underlying30; have hu24 := Try.underlying24; have hu51 := Try.underlying51; have hu54 := Try.underlying54; have hu57 := Try.underlying57; have hu60 := Try.underlying60; have hu63 := Try.underlying63; have hu66 := Try.underlying66; have hu69 := Try.underlying69; have hkb : (k != 0) = true := bne_iff_ne.mpr hk; have HC := Aside0.mk hr0; have HCUT := Aside0.mk hcut; clear hr0 hcut hk
 go_enter Try.func19, Try.ntmps19
 go_wp2_with ((with_reducible refine gate_dst (N := 2) rfl ?_); refine box_event ?hg (N := 2) ?hd (cs := #[.int .i64 0, .int .u64 0, .int .u64 0, .int .u64 0, .int .u64 0, .int .u64 0, .int .i64 0, .bool false, .slice none 0 0, .slice none 0 0, .slice none 0 0]) (t := 30) ?hr ?_; (case hd => rfl); (case hg => rfl); (case hr => (go_simp; done)); intro g2 hg w1 hbox hb; have HG2 := Aside0.mk (show w.heap.size ≤ g2 from Nat.le_of_eq hg.symm); have B2 := Aside0.mk hbox; have HB1 := Aside0.mk hb; clear hg hbox hb)
 refine (frame_Cut.calls K A0 c0 l0 d rest k _ (Kd.C_below HC.out HB1.out) hc0 HCUT.out).mono ?_
 rintro e w2 ⟨v1, v2, rfl, hR1, hR2, hb⟩
 have HB2 := Aside0.mk (below_step HB1.out hb); have B22 := Aside0.mk (blk_below B2.out hb); clear hR1 hR2 hb
 obtain ⟨hp_0, hp_1, hp_2, hp_3, hp_4, hp_5, hp_6, hp_7, hp_8, hp_9, hp_10⟩ := Hand.Cz.c11 B22.out
 obtain ⟨hf_0, hf_1, hf_2, hf_3, hf_4, hf_5, hf_6, hf_7, hf_8, hf_9, hf_10⟩ := Hand.Cz.f11 B22.out
 go_wp2
 refine bodyPost_ret (results_ct rfl _ _ g2 30 #[.int .i64 0, .int .u64 0, .int .u64 0, .int .u64 0, .int .u64 0, .int .u64 0, .int .i64 0, .bool false, .slice none 0 0, .slice none 0 0, .slice none 0 0] (0, 0) _ rfl (Hand.Cz.p11 B22.out) Try.underlying30 rfl (by kernel_rfl)) rfl ?_
 exact ⟨rfl, Hand.Cz.b11 HB2.out HG2.out⟩

end Go.Proofs.Ytlpnpnjjmpkapaa.PAll
