import Derived.Test.YtlpnpnjjmpkapaaPAllx0
import Derived.Test.YtlpnpnjjmpkapaaPAllx5
import Derived.Test.YtlpnpnjjmpkapaaPAllx8
import Derived.Test.YtlpnpnjjmpkapaaPAllx9
import Derived.Test.YtlpnpnjjmpkapaaPAllx11
namespace Go.Proofs.Ytlpnpnjjmpkapaa.PAll
open Go.RowKit Go.Proofs.YtlpnpnjjmpkapaaW.PrintWords Go.Proofs.YtlpnpnjjmpkapaaW.PrintLast Go.Proofs.YtlpnpnjjmpkapaaW.PrintMore
attribute [local go_sem] max2_int min2_int max_two min_two max_three min_three max_four min_four   -- for this text's walks alone
set_option linter.unusedVariables false
set_option linter.unusedSimpArgs false

-- NOT PRINTED: function 85 (message_reader_spans)

-- NOT PRINTED: function 86 (message_reader_ballot)

-- NOT PRINTED: function 87 (message_reader_truth)

-- NOT PRINTED: function 88 (message_reader_verdict)

-- NOT PRINTED: function 46 (message_reader_rest)

/-- What a reader takes: the bytes taken, what is left, and whether something went wrong. -/
def message_Decode.tk (rest : List Int) (bad : Bool) (n : Nat) : List Int × List Int × Bool :=
 if bad = true ∨ rest.length < n then (List.replicate n 0, rest, true) else (rest.take n, rest.drop n, false)
/-- A reader in memory, over bytes that stand ahead of it. -/
def message_Decode.St (w0 w : World) (g : Nat) (rest : List Int) (bad : Bool) : Prop :=
 Below w0.heap.size w0 w ∧ w0.heap.size ≤ g ∧ ∃ (A : Option Addr) (c : Nat), w.heap[g]? = some (.cells #[.slice A rest.length c, .bool bad] 99 (0, 0)) ∧ rest.length ≤ c ∧ Kd.C (Kd.int .u8) w0 A rest.length rest
theorem message_Decode.tk_len (rest : List Int) (bad : Bool) (n : Nat) : (message_Decode.tk rest bad n).1.length = n := by
 unfold message_Decode.tk
 split
 ·simp
 simp; omega
theorem message_Decode.St_below {w0 w w1 : World} {g : Nat} {rest : List Int} {bad : Bool} (h : message_Decode.St w0 w g rest bad) (hb : Below w.heap.size w w1) : message_Decode.St w0 w1 g rest bad := by
 obtain ⟨hB, hg, A, c, hblk, hl, hC⟩ := h
 exact ⟨below_step hB hb, hg, A, c, blk_below hblk hb, hl, hC⟩
theorem message_Decode.St_far {w0 w : World} {g q : Nat} {rest : List Int} {bad : Bool} (h : message_Decode.St w0 w g rest bad) (hq : w0.heap.size ≤ q) (hne : g ≠ q) (i : Nat) (u : Value) : message_Decode.St w0 (w.setCell ⟨q, i, none⟩ u) g rest bad := by
 obtain ⟨hB, hg, A, c, hblk, hl, hC⟩ := h
 exact ⟨below_set hB hq, hg, A, c, blk_far hblk (p := ⟨q, i, none⟩) hne u, hl, hC⟩
set_option maxHeartbeats 8000000 in
set_option maxRecDepth 100000 in
theorem message_Decode.take (w0 w : World) (g : Nat) (rest : List Int) (bad : Bool) (n : Nat) (hn : n ≤ 255) (hst : message_Decode.St w0 w g rest bad) :
  Calls Try.prog 83 #[.pointer (some ⟨g, 0, none⟩), .int .i64 n] w fun e w' => ∃ (A' : Option Addr) (c' : Nat), e = .returned (.slice A' n c') ∧ n ≤ c' ∧ Kd.C (Kd.int .u8) w' A' n (message_Decode.tk rest bad n).1 ∧ message_Decode.St w0 w' g (message_Decode.tk rest bad n).2.1 (message_Decode.tk rest bad n).2.2 ∧ KeepBut w w' g none := by
 obtain ⟨hB, hg, A, c, hblk, hl, hC⟩ := hst
 have hu99 := Try.underlying99; have hcz_0 : w.cell? ⟨g, 0, none⟩ = some (.slice A rest.length c) := (blk_cell hblk 0).trans rfl; have hcz_1 : w.cell? ⟨g, 1, none⟩ = some (.bool bad) := (blk_cell hblk 1).trans rfl; have hfz_0 := blk_frozen hblk 0; have hfz_1 := blk_frozen hblk 1; have HG := Aside0.mk hg; have HB := Aside0.mk hB; have BK := Aside0.mk hblk; have HL := Aside0.mk hl; have HC := Aside0.mk hC; clear hB hblk hl hC hg
 unfold message_Decode.tk
 by_cases hbn : bad = true ∨ rest.length < n
 ·rw [if_pos hbn]
  have hlen : (List.replicate (n : Int).toNat (0 : Int)).length = n := by simp
  have hfin : ∀ w1 w2, w1 = w.setCell ⟨g, 1, none⟩ (.bool true) → ∀ v1, Kd.R (Kd.int .u8) 5 w2 w1.heap.size (fun _ => True) v1 (List.replicate (n : Int).toNat (0 : Int)) → Below w1.heap.size w1 w2 → ∃ (A' : Option Addr) (c' : Nat), v1 = .slice A' n c' ∧ n ≤ c' ∧ Kd.C (Kd.int .u8) w2 A' n (List.replicate n 0) ∧ message_Decode.St w0 w2 g rest true ∧ KeepBut w w2 g none := by
   rintro w1 w2 rfl v1 hR hb
   obtain ⟨A1, c1, rfl, hle, hC1⟩ := Kd.R_reads hR
   rw [List.length_replicate, Int.toNat_natCast] at hle hC1
   refine ⟨A1, c1, by rw [hlen], hle, hC1, ⟨below_step (below_set HB.out HG.out) hb, HG.out, A, c, blk_below ((blk_set BK.out 1 _).trans rfl) hb, HL.out, HC.out⟩, KeepBut.trans ((KeepBut.refl w g none).set_ 1 _) (KeepBut.of_below hb g none) (.inl rfl)⟩
  have HFIN := Aside0.mk hfin; clear hfin; have harm : n ≤ 255 := hn
  cases bad
  ·have hlt : rest.length < n := hbn.resolve_left (by decide)
   have hltb : decide ((rest.length : Int) < (n : Int)) = true := decide_eq_true (by omega); clear hbn
   go_enter Try.func83, Try.ntmps83
   go_wp2_with ((with_reducible refine gate_dst (N := 27) rfl ?_); refine Kd.R_make (Kd.int .u8) _ 5 rfl (N := 27) rfl 35 _ _ rfl (n : Int) rfl rfl Try.underlying35 (.int .u8 0) 1 info5 rfl (by decide) (by decide) (0 : Int) (ok := fun _ => True) (okp := fun _ => False) rfl (fun _ h => h.elim) trivial (by omega) (by simp; omega) (Below.refl _ _) (Nat.le_refl _) ?_; intro v1 w1 hR hb hgr hat; have HQ := Aside0.mk (HFIN.out _ _ rfl _ hR hb); clear hR hb hgr hat)
   obtain ⟨A1, c1, rfl, hq⟩ := HQ.out
   have HQ2 := Aside0.mk hq; clear hq HQ
   go_wp2
   go_ret
   exact ⟨A1, c1, rfl, HQ2.out⟩
  clear hbn
  go_enter Try.func83, Try.ntmps83
  go_wp2_with ((with_reducible refine gate_dst (N := 27) rfl ?_); refine Kd.R_make (Kd.int .u8) _ 5 rfl (N := 27) rfl 35 _ _ rfl (n : Int) rfl rfl Try.underlying35 (.int .u8 0) 1 info5 rfl (by decide) (by decide) (0 : Int) (ok := fun _ => True) (okp := fun _ => False) rfl (fun _ h => h.elim) trivial (by omega) (by simp; omega) (Below.refl _ _) (Nat.le_refl _) ?_; intro v1 w1 hR hb hgr hat; have HQ := Aside0.mk (HFIN.out _ _ rfl _ hR hb); clear hR hb hgr hat)
  obtain ⟨A1, c1, rfl, hq⟩ := HQ.out
  have HQ2 := Aside0.mk hq; clear hq HQ
  go_wp2
  go_ret
  exact ⟨A1, c1, rfl, HQ2.out⟩
 rw [if_neg hbn]
 obtain rfl : bad = false := by cases bad; rfl; exact absurd (Or.inl rfl) hbn
 have hlt : ¬ rest.length < n := fun h => hbn (.inr h)
 have hltb : decide ((rest.length : Int) < (n : Int)) = false := decide_eq_false (by omega); clear hbn
 obtain ⟨i0, hi, hzz⟩ := Option.map_eq_some_iff.1 info5
 simp only [Prod.mk.injEq] at hzz
 have hto := fun W => Hand.run_slice_to (P := Try.prog) 35 5 .i64 Try.underlying35 hi A rest.length c n (by have := HL.out; omega) W
 have hfrom := cut_from (P := Try.prog) 35 5 .i64 Try.underlying35 hi 1 hzz.2.1 A rest.length c (n : Int) (by omega) (by omega)
 rw [Int.toNat_natCast] at hfrom
 have hd := Kd.C_drop HC.out (show n ≤ rest.length by omega) HL.out
 have ht := Kd.C_take HC.out (show n ≤ rest.length by omega)
 rw [show (Kd.int .u8).sz = 1 from rfl] at hd
 obtain ⟨A2, hA2⟩ : ∃ A2, (if c = n then A else A.map (·.add (n * 1))) = A2 := ⟨_, rfl⟩
 rw [hA2] at hd hfrom
 have HD := Aside0.mk hd; have HT := Aside0.mk ht; clear hd ht hA2 hzz
 go_enter Try.func83, Try.ntmps83
 go_wp2
 go_ret
 refine ⟨A, c, rfl, by have := HL.out; omega, ?_, ⟨below_set (below_set HB.out HG.out) HG.out, HG.out, A2, c - n, ?_, by rw [List.length_drop]; have := HL.out; omega, HD.out⟩, ((KeepBut.refl w g none).set_ 1 _).set_ 0 _⟩
 ·have h := HT.out
  rw [List.length_take, Nat.min_eq_left (by omega)] at h
  exact Kd.C_below h (below_set (below_set HB.out HG.out) HG.out)
 rw [List.length_drop]
 exact (blk_set (blk_set BK.out 1 _) 0 _).trans rfl
/-- The next number, the next byte. -/
def message_Decode.nm (rest : List Int) (bad : Bool) : Option (Int × List Int × Bool) := (num_U64.f (message_Decode.tk rest bad 8).1).map fun r => (r, (message_Decode.tk rest bad 8).2)
set_option maxHeartbeats 8000000 in
set_option maxRecDepth 100000 in
theorem message_Decode.number (w0 w : World) (g : Nat) (rest : List Int) (bad : Bool) (hst : message_Decode.St w0 w g rest bad) (r : Int × List Int × Bool) (h : message_Decode.nm rest bad = some r) :
  Calls Try.prog 45 #[.pointer (some ⟨g, 0, none⟩)] w fun e w' => e = .returned (.int .u64 r.1) ∧ message_Decode.St w0 w' g r.2.1 r.2.2 ∧ KeepBut w w' g none := by
 obtain ⟨v, hv, rfl⟩ := Option.map_eq_some_iff.1 h
 have HST := Aside0.mk hst; clear hst h
 go_enter Try.func45, Try.ntmps45
 go_wp2_with fail
 refine (message_Decode.take w0 _ g rest bad 8 (by omega) HST.out).mono ?_
 rintro e w1 ⟨A1, c1, rfl, hle, hC, hst, hkb⟩
 have hlen := message_Decode.tk_len rest bad 8; have hU := num_U64.calls A1 c1 (message_Decode.tk rest bad 8).1 v w1 (by rw [hlen]; exact hC) (by omega) hv
 rw [hlen] at hU
 have HU := Aside0.mk hU; have HST1 := Aside0.mk hst; have HKB := Aside0.mk hkb; clear hU hst hkb hC hlen hv
 go_wp2_with fail
 refine HU.out.mono ?_
 rintro e w2 ⟨rfl, hd⟩
 have HD := Aside0.mk hd; clear hd
 go_wp2
 go_ret
 exact ⟨rfl, message_Decode.St_below HST1.out (Drawn0.below HD.out), KeepBut.trans HKB.out (KeepBut.of_below (Drawn0.below HD.out) g none) (.inl rfl)⟩
set_option maxHeartbeats 8000000 in
set_option maxRecDepth 100000 in
theorem message_Decode.rsmall (w0 w : World) (g : Nat) (rest : List Int) (bad : Bool) (hst : message_Decode.St w0 w g rest bad) (out rest1 : List Int) (bad1 : Bool) (c : Int) (ht : message_Decode.tk rest bad 1 = (out, rest1, bad1)) (hc : rd out 0 = c) (hc0 : 0 ≤ c) (hc1 : c < 256) :
  Calls Try.prog 44 #[.pointer (some ⟨g, 0, none⟩)] w fun e w' => e = .returned (.int .i64 c) ∧ message_Decode.St w0 w' g rest1 bad1 ∧ KeepBut w w' g none := by
 have HST := Aside0.mk hst; clear hst
 go_enter Try.func44, Try.ntmps44
 go_wp2_with fail
 refine (message_Decode.take w0 _ g rest bad 1 (by omega) HST.out).mono ?_
 rintro e w1 ⟨A1, c1, rfl, hle, hC, hst, hkb⟩
 rw [ht] at hC hst
 obtain ⟨ad, rfl, hcell⟩ := Kd.at_int hC 0 (by omega) (by omega)
 rw [hc, show ad.add (Int.toNat 0) = ad from by simp [Addr.add]] at hcell
 have HST1 := Aside0.mk hst; have HKB := Aside0.mk hkb; clear hst hkb hC ht hc
 go_wp2
 go_ret
 exact ⟨rfl, HST1.out, HKB.out⟩
theorem message_Decode.verdict (w0 w : World) (g : Nat) (rest : List Int) (bad : Bool) (hst : message_Decode.St w0 w g rest bad) (out rest1 : List Int) (bad1 : Bool) (c : Int) (ht : message_Decode.tk rest bad 1 = (out, rest1, bad1)) (hc : rd out 0 = c) (hc0 : 0 ≤ c) (hc1 : c < 256) :
  Calls Try.prog 88 #[.pointer (some ⟨g, 0, none⟩)] w fun e w' => e = .returned (.int .i64 c) ∧ message_Decode.St w0 w' g rest1 bad1 ∧ KeepBut w w' g none := by
 have HST := Aside0.mk hst; clear hst
 go_enter Try.func88, Try.ntmps88
 go_wp2_with fail
 refine (message_Decode.rsmall w0 _ g rest bad HST.out out rest1 bad1 c ht hc hc0 hc1).mono ?_
 rintro e w1 ⟨rfl, hst, hkb⟩
 have HST1 := Aside0.mk hst; have HKB := Aside0.mk hkb; clear hst hkb
 go_wp2
 go_ret
 exact ⟨rfl, HST1.out, HKB.out⟩

set_option maxHeartbeats 8000000 in
set_option maxRecDepth 100000 in
theorem message_Decode.rest8 (w0 w : World) (g gp : Nat) (rest : List Int) (bad : Bool) (c1 c2 c3 c4 c5 c6 c7 c8 c9 c10 : Value) (hst : message_Decode.St w0 w g rest bad) (hp : w.heap[gp]? = some (.cells #[.int .i64 8, c1, c2, c3, c4, c5, c6, c7, c8, c9, c10] 30 (0, 0))) (hgp : w0.heap.size ≤ gp) (hne : gp ≠ g) (out rest1 : List Int) (bad1 : Bool) (c : Int) (ht : message_Decode.tk rest bad 1 = (out, rest1, bad1)) (hc : rd out 0 = c) (hc0 : 0 ≤ c) (hc1 : c < 256) :
  Calls Try.prog 46 #[.pointer (some ⟨g, 0, none⟩), .pointer (some ⟨gp, 0, none⟩)] w fun e w' => e = .returned (.tuple #[]) ∧ message_Decode.St w0 w' g rest1 bad1 ∧ w'.heap[gp]? = some (.cells #[.int .i64 8, c1, c2, c3, c4, c5, .int .i64 c, c7, c8, c9, c10] 30 (0, 0)) ∧ ∀ (q : Nat) (cs : Array Value) (t : TypeId), q ≠ g → q ≠ gp → w.heap[q]? = some (.cells cs t (0, 0)) → w'.heap[q]? = some (.cells cs t (0, 0)) := by
 have hu30 := Try.underlying30; have hu24 := Try.underlying24; have hu51 := Try.underlying51; have hu54 := Try.underlying54; have hu57 := Try.underlying57; have hu60 := Try.underlying60; have hu63 := Try.underlying63; have hu66 := Try.underlying66; have hu69 := Try.underlying69; have HST := Aside0.mk hst; have HP := Aside0.mk hp; have HT := Aside0.mk ht; have HC := Aside0.mk hc; have HGP := Aside0.mk hgp; have hne2 : g ≠ gp := hne.symm; clear hst ht hc hgp; have hcz_0 : w.cell? ⟨gp, 0, none⟩ = some (.int .i64 8) := (blk_cell hp 0).trans rfl; clear hp
 go_enter Try.func46, Try.ntmps46
 go_wp2_with fail
 refine (message_Decode.verdict w0 _ g rest bad HST.out out rest1 bad1 c HT.out HC.out hc0 hc1).mono ?_
 rintro e w1 ⟨rfl, hst, hkb⟩
 have HST1 := Aside0.mk hst; have HP1 := Aside0.mk ((hkb.2 gp (blk_lt HP.out) hne (by simp)).trans HP.out); have HKB := Aside0.mk hkb; clear hst hkb hcz_0
 obtain ⟨hq_0, hq_1, hq_2, hq_3, hq_4, hq_5, hq_6, hq_7, hq_8, hq_9, hq_10⟩ := Hand.Cz.c11 HP1.out
 obtain ⟨hf_0, hf_1, hf_2, hf_3, hf_4, hf_5, hf_6, hf_7, hf_8, hf_9, hf_10⟩ := Hand.Cz.f11 HP1.out
 go_wp2
 go_end0
 exact ⟨rfl, message_Decode.St_far HST1.out HGP.out hne2 _ _, (blk_set HP1.out 6 _).trans rfl, fun q cs t h1 h2 hq => blk_far ((HKB.out.2 q (blk_lt hq) h1 (by simp)).trans hq) (p := ⟨gp, 6, none⟩) h2 _⟩

set_option maxHeartbeats 8000000 in
set_option maxRecDepth 100000 in
theorem message_Decode.dec8 (A0 : Option Addr) (c0 : Nat) (l0 : List Int) (w : World) (hr0 : Kd.C (Kd.int .u8) w A0 l0.length l0) (hc0 : l0.length ≤ c0) (K : Nat) (d : List Int) (hcut : frame_Cut.f K l0 = some (d, [], 0)) (o1 d1 : List Int) (h1 : message_Decode.tk d false 1 = (o1, d1, false)) (hk : rd o1 0 = 8) (tr : Int) (d2 : List Int) (h2 : message_Decode.nm d1 false = some (tr, d2, false)) (o3 : List Int) (v : Int) (h3 : message_Decode.tk d2 false 1 = (o3, [], false)) (hv : rd o3 0 = v) (hv0 : 0 ≤ v) (hv1 : v < 256) (hR : message_Right.f 8 tr 0 0 0 0 v false [] [] [] = some 0) :
  Calls Try.prog 19 #[.slice A0 l0.length c0] w fun e w' => e = .returned (.tuple #[.agg #[.int .i64 8, .int .u64 tr, .int .u64 0, .int .u64 0, .int .u64 0, .int .u64 0, .int .i64 v, .bool false, .slice none 0 0, .slice none 0 0, .slice none 0 0], .int .i64 0]) ∧ Below w.heap.size w w' := by
 have hu30 := Try.underlying30; have hu24 := Try.underlying24; have hu51 := Try.underlying51; have hu54 := Try.underlying54; have hu57 := Try.underlying57; have hu60 := Try.underlying60; have hu63 := Try.underlying63; have hu66 := Try.underlying66; have hu69 := Try.underlying69; have hu99 := Try.underlying99; have HC := Aside0.mk hr0; have HCUT := Aside0.mk hcut; have H1 := Aside0.mk h1; have HK := Aside0.mk hk; have H2 := Aside0.mk h2; have H3 := Aside0.mk h3; have HV := Aside0.mk hv; have HR := Aside0.mk hR; clear hr0 hcut h1 hk h2 h3 hv hR
 go_enter Try.func19, Try.ntmps19
 go_wp2_with ((with_reducible refine gate_dst (N := 2) rfl ?_); refine box_event ?hg (N := 2) ?hd (cs := #[.int .i64 0, .int .u64 0, .int .u64 0, .int .u64 0, .int .u64 0, .int .u64 0, .int .i64 0, .bool false, .slice none 0 0, .slice none 0 0, .slice none 0 0]) (t := 30) ?hr ?_; (case hd => rfl); (case hg => rfl); (case hr => (go_simp; done)); intro g2 hg w1 hbox hb; have HG2 := Aside0.mk (show w.heap.size ≤ g2 from Nat.le_of_eq hg.symm); have B2 := Aside0.mk hbox; have HB1 := Aside0.mk hb; clear hg hbox hb)
 refine (frame_Cut.calls K A0 c0 l0 d [] 0 _ (Kd.C_below HC.out HB1.out) hc0 HCUT.out).mono ?_
 rintro e w2 ⟨v1, v2, rfl, hR1, hR2, hb⟩
 obtain ⟨A1, c1, rfl, hle1, hC1⟩ := Kd.R_reads hR1
 obtain ⟨A2, c2, rfl⟩ := Kd.R_slice hR2
 have HB2 := Aside0.mk (below_step HB1.out hb); have B22 := Aside0.mk (blk_below B2.out hb); have HC1 := Aside0.mk hC1; have HLE := Aside0.mk hle1; clear hR1 hR2 hb hle1 hC1
 go_wp2_with ((with_reducible refine gate_dst (N := 21) rfl ?_); refine box_event ?hg (N := 21) ?hd (cs := #[.slice A1 d.length c1, .bool false]) (t := 99) ?hr ?_; (case hd => rfl); (case hg => rfl); (case hr => (go_simp; done)); intro g hg w3 hbox hb; have hgs := hg.symm; have HST := Aside0.mk (show message_Decode.St w2 w3 g d false from ⟨hb, Nat.le_of_eq hg.symm, A1, c1, hbox, HLE.out, HC1.out⟩); have B23 := Aside0.mk (blk_below B22.out hb); have HNE := Aside0.mk (show g2 ≠ g from by have := blk_lt B22.out; omega); clear hg hbox hb hgs)
 refine (message_Decode.rsmall w2 _ g d false HST.out o1 d1 false 8 H1.out HK.out (by omega) (by omega)).mono ?_
 rintro e w4 ⟨rfl, hst, hkb⟩
 have HST4 := Aside0.mk hst; have B24 := Aside0.mk ((hkb.2 g2 (blk_lt B23.out) HNE.out (by simp)).trans B23.out); clear hst hkb
 go_upto_region 6 with ((with_reducible refine gate_dst (N := 8) rfl ?_); refine box_event ?hg (N := 8) ?hd (cs := #[.int .i64 0, .int .u64 0, .int .u64 0, .int .u64 0, .int .u64 0, .int .u64 0, .int .i64 0, .bool false, .slice none 0 0, .slice none 0 0, .slice none 0 0]) (t := 30) ?hr ?_; (case hd => rfl); (case hg => rfl); (case hr => (go_simp; done)); intro gp hg w5 hbox hb; have hgs := hg.symm; have HNP := Aside0.mk (show gp ≠ g from by have := blk_lt HST4.out.2.2.choose_spec.choose_spec.1; omega); have HNP2 := Aside0.mk (show gp ≠ g2 from by have := blk_lt B24.out; omega); have HGP := Aside0.mk (show w2.heap.size ≤ gp from by have := HST4.out.1.size; omega); have HST5 := Aside0.mk (message_Decode.St_below HST4.out hb); have B25 := Aside0.mk (blk_below B24.out hb); have BP := Aside0.mk hbox; clear hg hbox hb hgs; obtain ⟨hp_0, hp_1, hp_2, hp_3, hp_4, hp_5, hp_6, hp_7, hp_8, hp_9, hp_10⟩ := Hand.Cz.c11 BP.out; obtain ⟨hpf_0, hpf_1, hpf_2, hpf_3, hpf_4, hpf_5, hpf_6, hpf_7, hpf_8, hpf_9, hpf_10⟩ := Hand.Cz.f11 BP.out)
 generalize hW6 : World.setCell _ (Addr.mk gp 10 none) _ = w6
 have BP6 := Aside0.mk (show w6.heap[gp]? = some (.cells #[.int .i64 8, .int .u64 0, .int .u64 0, .int .u64 0, .int .u64 0, .int .u64 0, .int .i64 0, .bool false, .slice none 0 0, .slice none 0 0, .slice none 0 0] 30 (0, 0)) from by rw [← hW6]; exact Hand.Cz.p11 BP.out)
 have HST6 := Aside0.mk (show message_Decode.St w2 w6 g d1 false from by rw [← hW6]; exact (message_Decode.St_far (message_Decode.St_far (message_Decode.St_far (message_Decode.St_far (message_Decode.St_far (message_Decode.St_far (message_Decode.St_far (message_Decode.St_far (message_Decode.St_far (message_Decode.St_far (message_Decode.St_far HST5.out HGP.out HNP.out.symm 0 _) HGP.out HNP.out.symm 1 _) HGP.out HNP.out.symm 2 _) HGP.out HNP.out.symm 3 _) HGP.out HNP.out.symm 4 _) HGP.out HNP.out.symm 5 _) HGP.out HNP.out.symm 6 _) HGP.out HNP.out.symm 7 _) HGP.out HNP.out.symm 8 _) HGP.out HNP.out.symm 9 _) HGP.out HNP.out.symm 10 _))
 have B26 := Aside0.mk (show w6.heap[g2]? = some (.cells #[.int .i64 0, .int .u64 0, .int .u64 0, .int .u64 0, .int .u64 0, .int .u64 0, .int .i64 0, .bool false, .slice none 0 0, .slice none 0 0, .slice none 0 0] 30 (0, 0)) from by rw [← hW6]; exact Hand.Cz.o11 B25.out HNP2.out.symm)
 clear hW6 BP HST5 B25 HST4 B24 hp_0 hpf_0 hp_1 hpf_1 hp_2 hpf_2 hp_3 hpf_3 hp_4 hpf_4 hp_5 hpf_5 hp_6 hpf_6 hp_7 hpf_7 hp_8 hpf_8 hp_9 hpf_9 hp_10 hpf_10
 obtain ⟨hp_0, hp_1, hp_2, hp_3, hp_4, hp_5, hp_6, hp_7, hp_8, hp_9, hp_10⟩ := Hand.Cz.c11 BP6.out
 go_wp2_with fail
 refine (message_Decode.number w2 _ g d1 false HST6.out (tr, d2, false) H2.out).mono ?_
 rintro e w7 ⟨rfl, hst, hkb⟩
 have HST7 := Aside0.mk hst; have BP7 := Aside0.mk ((hkb.2 gp (blk_lt BP6.out) HNP.out (by simp)).trans BP6.out); have B27 := Aside0.mk ((hkb.2 g2 (blk_lt B26.out) HNE.out (by simp)).trans B26.out); clear hst hkb hp_0 hp_1 hp_2 hp_3 hp_4 hp_5 hp_6 hp_7 hp_8 hp_9 hp_10
 obtain ⟨hp_0, hp_1, hp_2, hp_3, hp_4, hp_5, hp_6, hp_7, hp_8, hp_9, hp_10⟩ := Hand.Cz.c11 BP7.out
 obtain ⟨hpf_0, hpf_1, hpf_2, hpf_3, hpf_4, hpf_5, hpf_6, hpf_7, hpf_8, hpf_9, hpf_10⟩ := Hand.Cz.f11 BP7.out
 go_wp2_with fail
 refine (message_Decode.rest8 w2 _ g gp d2 false (.int .u64 tr) (.int .u64 0) (.int .u64 0) (.int .u64 0) (.int .u64 0) (.int .i64 0) (.bool false) (.slice none 0 0) (.slice none 0 0) (.slice none 0 0) (message_Decode.St_far HST7.out HGP.out HNP.out.symm 1 _) ((blk_set BP7.out 1 (.int .u64 tr)).trans rfl) HGP.out HNP.out o3 [] false v H3.out HV.out hv0 hv1).mono ?_
 rintro e w8 ⟨rfl, hst, hp8, hkq⟩
 have BP8 := Aside0.mk hp8; have B28 := Aside0.mk (hkq g2 _ _ HNE.out HNP2.out.symm (blk_far B27.out (p := ⟨gp, 1, none⟩) HNP2.out.symm _))
 obtain ⟨hB8, hg8, A8, c8, hg8b, _, _⟩ := hst
 have HB8 := Aside0.mk hB8
 obtain ⟨hgz_0, hgz_1⟩ := Hand.Cz.c2 hg8b
 clear hg8b hB8 hg8 hp8 hkq hp_0 hpf_0 hp_1 hpf_1 hp_2 hpf_2 hp_3 hpf_3 hp_4 hpf_4 hp_5 hpf_5 hp_6 hpf_6 hp_7 hpf_7 hp_8 hpf_8 hp_9 hpf_9 hp_10 hpf_10
 obtain ⟨hp_0, hp_1, hp_2, hp_3, hp_4, hp_5, hp_6, hp_7, hp_8, hp_9, hp_10⟩ := Hand.Cz.c11 BP8.out
 go_wp2_with (go_at_call 13; refine (message_Right.calls 8 tr 0 0 0 0 v false none 0 [] none 0 [] none 0 [] 0 _ (Kd.C_nil _ _) (Nat.le_refl _) (Kd.C_nil _ _) (Nat.le_refl _) (Kd.C_nil _ _) (Nat.le_refl _) HR.out).mono ?_; rintro e w9 ⟨rfl, hb⟩; have BP9 := Aside0.mk (blk_below BP8.out hb); have B29 := Aside0.mk (blk_below B28.out hb); have HB9 := Aside0.mk (below_step HB8.out hb); clear hb; clear hp_0 hp_1 hp_2 hp_3 hp_4 hp_5 hp_6 hp_7 hp_8 hp_9 hp_10; obtain ⟨hp_0, hp_1, hp_2, hp_3, hp_4, hp_5, hp_6, hp_7, hp_8, hp_9, hp_10⟩ := Hand.Cz.c11 BP9.out; obtain ⟨hs_0, hs_1, hs_2, hs_3, hs_4, hs_5, hs_6, hs_7, hs_8, hs_9, hs_10⟩ := Hand.Cz.c11 B29.out; obtain ⟨hsf_0, hsf_1, hsf_2, hsf_3, hsf_4, hsf_5, hsf_6, hsf_7, hsf_8, hsf_9, hsf_10⟩ := Hand.Cz.f11 B29.out)
 refine bodyPost_ret (results_ct rfl _ _ g2 30 #[.int .i64 8, .int .u64 tr, .int .u64 0, .int .u64 0, .int .u64 0, .int .u64 0, .int .i64 v, .bool false, .slice none 0 0, .slice none 0 0, .slice none 0 0] (0, 0) _ rfl (Hand.Cz.p11 B29.out) Try.underlying30 rfl (by kernel_rfl)) rfl ?_
 exact ⟨rfl, Hand.Cz.b11 (below_step HB2.out HB9.out) HG2.out⟩

set_option maxHeartbeats 8000000 in
set_option maxRecDepth 100000 in
theorem message_Decode.dbad (A0 : Option Addr) (c0 : Nat) (l0 : List Int) (w : World) (hr0 : Kd.C (Kd.int .u8) w A0 l0.length l0) (hc0 : l0.length ≤ c0) (K : Nat) (d rest : List Int) (k : Int) (hk : k ≠ 0) (hcut : frame_Cut.f K l0 = some (d, rest, k)) :
  Calls Try.prog 19 #[.slice A0 l0.length c0] w fun e w' => e = .returned (.tuple #[.agg #[.int .i64 0, .int .u64 0, .int .u64 0, .int .u64 0, .int .u64 0, .int .u64 0, .int .i64 0, .bool false, .slice none 0 0, .slice none 0 0, .slice none 0 0], .int .i64 k]) ∧ Below w.heap.size w w' := by
 have hu30 := Try.underlying30; have hu24 := Try.underlying24; have hu51 := Try.underlying51; have hu54 := Try.underlying54; have hu57 := Try.underlying57; have hu60 := Try.underlying60; have hu63 := Try.underlying63; have hu66 := Try.underlying66; have hu69 := Try.underlying69; have hkb : (k != 0) = true := bne_iff_ne.mpr hk; have HC := Aside0.mk hr0; have HCUT := Aside0.mk hcut; clear hr0 hcut hk
 go_enter Try.func19, Try.ntmps19
 go_wp2_with ((with_reducible refine gate_dst (N := 2) rfl ?_); refine box_event ?hg (N := 2) ?hd (cs := #[.int .i64 0, .int .u64 0, .int .u64 0, .int .u64 0, .int .u64 0, .int .u64 0, .int .i64 0, .bool false, .slice none 0 0, .slice none 0 0, .slice none 0 0]) (t := 30) ?hr ?_; (case hd => rfl); (case hg => rfl); (case hr => (go_simp; done)); intro g2 hg w1 hbox hb; have HG2 := Aside0.mk (show w.heap.size ≤ g2 from Nat.le_of_eq hg.symm); have B2 := Aside0.mk hbox; have HB1 := Aside0.mk hb; clear hg hbox hb)
 refine (frame_Cut.calls K A0 c0 l0 d rest k _ (Kd.C_below HC.out HB1.out) hc0 HCUT.out).mono ?_
 rintro e w2 ⟨v1, v2, rfl, hR1, hR2, hb⟩
 have HB2 := Aside0.mk (below_step HB1.out hb); have B22 := Aside0.mk (blk_below B2.out hb); clear hR1 hR2 hb
 obtain ⟨hp_0, hp_1, hp_2, hp_3, hp_4, hp_5, hp_6, hp_7, hp_8, hp_9, hp_10⟩ := Hand.Cz.c11 B22.out
 obtain ⟨hf_0, hf_1, hf_2, hf_3, hf_4, hf_5, hf_6, hf_7, hf_8, hf_9, hf_10⟩ := Hand.Cz.f11 B22.out
 go_wp2
 refine bodyPost_ret (results_ct rfl _ _ g2 30 #[.int .i64 0, .int .u64 0, .int .u64 0, .int .u64 0, .int .u64 0, .int .u64 0, .int .i64 0, .bool false, .slice none 0 0, .slice none 0 0, .slice none 0 0] (0, 0) _ rfl (Hand.Cz.p11 B22.out) Try.underlying30 rfl (by kernel_rfl)) rfl ?_
 exact ⟨rfl, Hand.Cz.b11 HB2.out HG2.out⟩

def message_Decode.fin8 (d rest : List Int) : Option (Int × Int × Int × Int × Int × Int × Int × Bool × List S76 × List S92 × List Int × Int) :=
 if rest = [] ∧ (message_Decode.tk d false 1).2.2 = false ∧ rd (message_Decode.tk d false 1).1 0 = 8 then
  (message_Decode.nm (message_Decode.tk d false 1).2.1 false).bind fun n => if n.2.2 = false ∧ (message_Decode.tk n.2.1 false 1).2 = ([], false) ∧ 0 ≤ rd (message_Decode.tk n.2.1 false 1).1 0 ∧ rd (message_Decode.tk n.2.1 false 1).1 0 < 256 ∧ message_Right.f 8 n.1 0 0 0 0 (rd (message_Decode.tk n.2.1 false 1).1 0) false [] [] [] = some 0
   then some (8, n.1, 0, 0, 0, 0, rd (message_Decode.tk n.2.1 false 1).1 0, false, [], [], [], 0) else none
 else none
/-- The packet of bytes: where the frame does not stand, and of what is told. -/
def message_Decode.f (l0 : List Int) : Option (Int × Int × Int × Int × Int × Int × Int × Bool × List S76 × List S92 × List Int × Int) :=
 (frame_Cut.f 100000 l0).bind fun c => if c.2.2 = 0 then message_Decode.fin8 c.1 c.2.1 else some (0, 0, 0, 0, 0, 0, 0, false, [], [], [], c.2.2)

theorem message_Decode.calls (A0 : Option Addr) (c0 : Nat) (l0 : List Int) (r1 r2 r3 r4 r5 r6 r7 : Int) (r8 : Bool) (r9 : List S76) (r10 : List S92) (r11 : List Int) (r12 : Int) (w : World) (hr0 : Kd.C (Kd.int .u8) w A0 l0.length l0) (hc0 : l0.length ≤ c0) (h : message_Decode.f l0 = some (r1, r2, r3, r4, r5, r6, r7, r8, r9, r10, r11, r12)) :
  Calls Try.prog 19 #[.slice A0 l0.length c0] w fun e w' => ∃ v8_ v9_ v10_ : Value, e = .returned (.tuple #[.agg #[.int .i64 r1, .int .u64 r2, .int .u64 r3, .int .u64 r4, .int .u64 r5, .int .u64 r6, .int .i64 r7, .bool r8, v8_, v9_, v10_], .int .i64 r12]) ∧ Kd.R k76 76 w' w.heap.size (fun _ => True) v8_ r9 ∧ Kd.R k92 92 w' w.heap.size (fun _ => True) v9_ r10 ∧ Kd.R (Kd.int .u64) 22 w' w.heap.size (fun _ => True) v10_ r11 ∧ Below w.heap.size w w' := by
 unfold message_Decode.f at h
 obtain ⟨⟨d, rest, k⟩, hcut, h⟩ := Option.bind_eq_some_iff.1 h
 by_cases hk : k = 0
 ·subst hk
  simp only [if_true] at h
  unfold message_Decode.fin8 at h
  by_cases h1 : rest = [] ∧ (message_Decode.tk d false 1).2.2 = false ∧ rd (message_Decode.tk d false 1).1 0 = 8
  ·rw [if_pos h1] at h
   obtain ⟨rfl, h2, h3⟩ := h1
   obtain ⟨⟨n1, n2, n3⟩, hn, h⟩ := Option.bind_eq_some_iff.1 h
   by_cases h4 : n3 = false ∧ (message_Decode.tk n2 false 1).2 = ([], false) ∧ 0 ≤ rd (message_Decode.tk n2 false 1).1 0 ∧ rd (message_Decode.tk n2 false 1).1 0 < 256 ∧ message_Right.f 8 n1 0 0 0 0 (rd (message_Decode.tk n2 false 1).1 0) false [] [] [] = some 0
   ·rw [if_pos h4] at h
    obtain ⟨rfl, h5, h6, h7, h8⟩ := h4
    simp only [Option.some.injEq, Prod.mk.injEq] at h
    obtain ⟨rfl, rfl, rfl, rfl, rfl, rfl, rfl, rfl, rfl, rfl, rfl, rfl⟩ := h
    exact (message_Decode.dec8 A0 c0 l0 w hr0 hc0 100000 d hcut _ _ (Prod.ext rfl (Prod.ext rfl h2)) h3 n1 n2 hn _ _ (Prod.ext rfl h5) rfl h6 h7 h8).mono fun e w' ⟨he, hb⟩ => ⟨_, _, _, he, Kd.R_nil _ _ _ _ _, Kd.R_nil _ _ _ _ _, Kd.R_nil _ _ _ _ _, hb⟩
   rw [if_neg h4] at h
   exact absurd h (by simp)
  rw [if_neg h1] at h
  exact absurd h (by simp)
 simp only [if_neg hk, Option.some.injEq, Prod.mk.injEq] at h
 obtain ⟨rfl, rfl, rfl, rfl, rfl, rfl, rfl, rfl, rfl, rfl, rfl, rfl⟩ := h
 exact (message_Decode.dbad A0 c0 l0 w hr0 hc0 100000 d rest k hk hcut).mono fun e w' ⟨he, hb⟩ => ⟨_, _, _, he, Kd.R_nil _ _ _ _ _, Kd.R_nil _ _ _ _ _, Kd.R_nil _ _ _ _ _, hb⟩


end Go.Proofs.Ytlpnpnjjmpkapaa.PAll
