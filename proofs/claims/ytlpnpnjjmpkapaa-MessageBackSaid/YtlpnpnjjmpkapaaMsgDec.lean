/-
  message.Decode of bytes that are right: the reader's methods, what it reads by kind, and the packet.
  Conditions: given as hypotheses (what the bytes are read as).
-/
import Derived.Test.YtlpnpnjjmpkapaaPAllx12
namespace Go.Proofs.Ytlpnpnjjmpkapaa.PAll
open Go.RowKit Go.Proofs.YtlpnpnjjmpkapaaW.PrintWords Go.Proofs.YtlpnpnjjmpkapaaW.PrintLast Go.Proofs.YtlpnpnjjmpkapaaW.PrintMore message_Decode
attribute [local go_sem] max2_int min2_int max_two min_two max_three min_three max_four min_four
set_option linter.unusedVariables false
set_option linter.unusedSimpArgs false

theorem mdec.kb_far {w w1 : World} {g q : Nat} (h : KeepBut w w1 g none) (hq : w.heap.size ≤ q) (i : Nat) (u : Value) : KeepBut w (w1.setCell ⟨q, i, none⟩ u) g none :=
  ⟨by rw [show (w1.setCell ⟨q, i, none⟩ u).heap.size = w1.heap.size from by simp [World.setCell]]; exact h.1, fun k hk hg hr => (Below.heap_setCell w1 ⟨q, i, none⟩ u k (by show k ≠ q; omega)).trans (h.2 k hk hg hr)⟩
set_option maxHeartbeats 8000000 in
set_option maxRecDepth 100000 in
theorem mdec.ballot (w0 w : World) (g : Nat) (rest : List Int) (bad : Bool) (hst : St w0 w g rest bad) (n1 n2 : Int) (r1 r2 : List Int) (b1 b2 : Bool) (h1 : nm rest bad = some (n1, r1, b1)) (h2 : nm r1 b1 = some (n2, r2, b2)) :
    Calls Try.prog 86 #[.pointer (some ⟨g, 0, none⟩)] w fun e w' => e = .returned (.agg #[.int .u64 n1, .int .u64 n2]) ∧ St w0 w' g r2 b2 ∧ KeepBut w w' g none := by
  have hu24 := Try.underlying24
  have HST := Aside0.mk hst
  have H1 := Aside0.mk h1
  have H2 := Aside0.mk h2
  clear hst h1 h2
  go_enter Try.func86, Try.ntmps86
  go_wp2_with ((with_reducible refine gate_dst (N := 2) rfl ?_); refine box_event ?hg (N := 2) ?hd (cs := #[.int .u64 0, .int .u64 0]) (t := 24) ?hr ?_; (case hd => rfl); (case hg => rfl); (case hr => first | (go_simp; done) | (go_simp; rfl)); intro g2 hg w1 hbox hb; have HST1 := Aside0.mk (St_below HST.out hb); have HN := Aside0.mk (show g2 ≠ g from by obtain ⟨_, _, _, _, hk, _⟩ := HST.out; have := blk_lt hk; omega); have HGE := Aside0.mk (show w.heap.size ≤ g2 from Nat.le_of_eq hg.symm); have HG0 := Aside0.mk (show w0.heap.size ≤ g2 from by have := HST.out.1.size; omega); have HB1 := Aside0.mk hb; have B1 := Aside0.mk hbox; clear hg hbox hb)
  refine (number w0 _ g rest bad HST1.out (n1, r1, b1) H1.out).mono ?_
  rintro e w2 ⟨rfl, hst, hkb⟩
  have B2 := Aside0.mk ((hkb.2 g2 (blk_lt B1.out) HN.out (by simp)).trans B1.out)
  have K2 := Aside0.mk (KeepBut.trans (KeepBut.of_below HB1.out g none) hkb (.inl rfl))
  have HST2 := Aside0.mk hst
  clear hst hkb HB1 B1 HST1
  obtain ⟨ha_0, ha_1⟩ := Hand.Cz.c2 B2.out
  obtain ⟨hf_0, hf_1⟩ := Hand.Cz.f2 B2.out
  go_upto_region 2 with fail
  generalize hW : World.setCell _ (Addr.mk g2 0 none) _ = w3
  have B3 := Aside0.mk (show w3.heap[g2]? = some (.cells #[.int .u64 n1, .int .u64 0] 24 (0, 0)) from by rw [← hW]; exact (blk_set B2.out 0 _).trans rfl)
  have HST3 := Aside0.mk (show St w0 w3 g r1 b1 from by rw [← hW]; exact St_far HST2.out HG0.out HN.out.symm 0 _)
  have K3 := Aside0.mk (show KeepBut w w3 g none from by rw [← hW]; exact mdec.kb_far K2.out HGE.out _ _)
  clear hW B2 K2 HST2 ha_0 ha_1 hf_0 hf_1
  go_wp2_with fail
  refine (number w0 _ g r1 b1 HST3.out (n2, r2, b2) H2.out).mono ?_
  rintro e w4 ⟨rfl, hst, hkb⟩
  have B4 := Aside0.mk ((hkb.2 g2 (blk_lt B3.out) HN.out (by simp)).trans B3.out)
  have K4 := Aside0.mk (KeepBut.trans K3.out hkb (.inl rfl))
  have HST4 := Aside0.mk hst
  clear hst hkb B3 K3 HST3
  obtain ⟨ha_0, ha_1⟩ := Hand.Cz.c2 B4.out
  obtain ⟨hf_0, hf_1⟩ := Hand.Cz.f2 B4.out
  go_wp2
  refine bodyPost_ret (results_cell_row rfl _ _ g2 24 #[.int .u64 n1, .int .u64 n2] (0, 0) _ rfl ((blk_set (blk_set (blk_set B4.out 1 _) 0 _) 1 _).trans rfl) Try.underlying24 rfl (by kernel_rfl)) rfl ?_
  exact ⟨rfl, St_far (St_far (St_far HST4.out HG0.out HN.out.symm 1 _) HG0.out HN.out.symm 0 _) HG0.out HN.out.symm 1 _, mdec.kb_far (mdec.kb_far (mdec.kb_far K4.out HGE.out 1 _) HGE.out 0 _) HGE.out 1 _⟩

def okI (b : Bool) : Int := if b = true then 1 else 0
set_option maxHeartbeats 8000000 in
set_option maxRecDepth 100000 in
theorem mdec.truth (w0 w : World) (g : Nat) (rest : List Int) (hst : St w0 w g rest false) (ok : Bool) (o1 r1 : List Int) (ht : tk rest false 1 = (o1, r1, false)) (hc : rd o1 0 = okI ok) :
    Calls Try.prog 87 #[.pointer (some ⟨g, 0, none⟩)] w fun e w' => e = .returned (.bool ok) ∧ St w0 w' g r1 false ∧ KeepBut w w' g none := by
  have HST := Aside0.mk hst
  have HT := Aside0.mk ht
  have HC := Aside0.mk hc
  have hu99 := Try.underlying99
  have hgt : decide (1 < okI ok) = false := by cases ok <;> rfl
  have heq : (okI ok == 1) = ok := by cases ok <;> rfl
  have h0 : 0 ≤ okI ok := by cases ok <;> decide
  have h1 : okI ok < 256 := by cases ok <;> decide
  clear hst ht hc
  go_enter Try.func87, Try.ntmps87
  go_wp2_with fail
  refine (rsmall w0 _ g rest false HST.out o1 r1 false (okI ok) HT.out HC.out h0 h1).mono ?_
  rintro e w1 ⟨rfl, hst, hkb⟩
  obtain ⟨hB, hg, A, c, hk, hl, hC⟩ := hst
  have HST1 := Aside0.mk (show St w0 w1 g r1 false from ⟨hB, hg, A, c, hk, hl, hC⟩)
  have HKB := Aside0.mk hkb
  obtain ⟨ha_0, ha_1⟩ := Hand.Cz.c2 hk
  obtain ⟨hf_0, hf_1⟩ := Hand.Cz.f2 hk
  have BK := Aside0.mk hk
  have HG := Aside0.mk hg
  have HB := Aside0.mk hB
  have HL := Aside0.mk hl
  have HCC := Aside0.mk hC
  clear hkb hk hg hB hl hC
  generalize okI ok = t at *
  go_wp2
  go_ret
  refine ⟨rfl, ⟨below_set HB.out HG.out, HG.out, A, c, (blk_set BK.out 1 _).trans rfl, HL.out, HCC.out⟩, HKB.out.set_ 1 _⟩

/-- Spans that are cut one behind another; what is left. -/
def mdec.cuts : Nat → List Int → Option (List S76 × List Int)
  | 0, r => some ([], r)
  | n + 1, r => (span_Cut.f r).bind fun c => if c.2.2.2.2.2.2.2.2.2 = 0 then (mdec.cuts n c.2.2.2.2.2.2.2.2.1).map fun x => (⟨c.1, c.2.1, c.2.2.1, c.2.2.2.1, c.2.2.2.2.1, c.2.2.2.2.2.1, c.2.2.2.2.2.2.1, c.2.2.2.2.2.2.2.1⟩ :: x.1, x.2) else none
/-- Bytes that are read: ahead of w0, or a row of the call's own. -/
def mdec.RB (w0 w : World) (A : Option Addr) (c : Nat) (r : List Int) : Prop := Kd.C (Kd.int .u8) w0 A r.length r ∨ Kd.R (Kd.int .u8) 5 w w0.heap.size (fun _ => True) (.slice A r.length c) r
theorem mdec.RB_C {w0 w : World} {A : Option Addr} {c : Nat} {r : List Int} (h : mdec.RB w0 w A c r) (hb : Below w0.heap.size w0 w) : Kd.C (Kd.int .u8) w A r.length r := h.elim (fun h => Kd.C_below h hb) (fun h => (Kd.R_reads' h).2.2)
theorem mdec.R_new {α : Type} {d : Kd α} {e base : Nat} {ok : Nat → Prop} {v : Value} {xs : List α} {w w1 : World} {g : Nat} (h : d.R e w base ok v xs) (hb : Below w.heap.size w w1) (hg : w.heap.size ≤ g) : d.R e w1 base (fun k => k ≠ g) v xs :=
  Kd.R_below (Kd.R_mono (Kd.R_bound h) (fun k hk => by have := hk.2.2.1; omega)) hb
theorem mdec.kb_more {w W W2 : World} {g : Nat} (h : KeepBut w W g none) (hb : Below w.heap.size W W2) : KeepBut w W2 g none := ⟨Nat.le_trans h.1 hb.size, fun k hk hg hr => (hb.block k hk).trans (h.2 k hk hg hr)⟩
set_option maxHeartbeats 8000000 in
set_option maxRecDepth 100000 in
theorem mdec.spans (w0 w : World) (g : Nat) (rest : List Int) (hst : St w0 w g rest false) (o1 r1 : List Int) (n : Nat) (hn : n ≤ 255) (ht : tk rest false 1 = (o1, r1, false)) (hc : rd o1 0 = (n : Int)) (l : List S76) (fin : List Int) (hcut : mdec.cuts n r1 = some (l, fin)) :
    Calls Try.prog 85 #[.pointer (some ⟨g, 0, none⟩)] w fun e w' => ∃ v, e = .returned v ∧ Kd.R k76 76 w' w.heap.size (fun _ => True) v l ∧ (∃ (A : Option Addr) (c : Nat), w'.heap[g]? = some (.cells #[.slice A fin.length c, .bool false] 99 (0, 0))) ∧ Below w0.heap.size w0 w' ∧ KeepBut w w' g none := by
  have hu99 := Try.underlying99
  have hu76 := Try.underlying76
  have HWW := Aside0.mk hst.1.size
  have HG := Aside0.mk hst.2.1
  have HGL := Aside0.mk (show g < w.heap.size from by obtain ⟨_, _, _, _, hk, _⟩ := hst; exact blk_lt hk)
  have HST := Aside0.mk hst
  have HT := Aside0.mk ht
  have HC := Aside0.mk hc
  have HCT := Aside0.mk hcut
  clear hst ht hc hcut
  go_enter Try.func85, Try.ntmps85
  go_wp2_with fail
  refine (rsmall w0 _ g rest false HST.out o1 r1 false (n : Int) HT.out HC.out (by omega) (by omega)).mono ?_
  rintro e w1 ⟨rfl, hst, hkb⟩
  obtain ⟨hB, hg, A, c, hk, hl, hCC⟩ := hst
  have HB := Aside0.mk hB
  have HBG := Aside0.mk hk
  have HLE := Aside0.mk hl
  have HRB := Aside0.mk (show mdec.RB w0 w1 A c r1 from .inl hCC)
  have HK := Aside0.mk hkb
  clear hkb hB hg hk hl hCC HST HT HC
  go_wp2
  go_loopw [2, 8] (fun v i wr => ∃ k : Nat, k ≤ n ∧ i = .int .i64 k ∧ ∃ (pre post : List S76) (rst : List Int) (A : Option Addr) (c : Nat), Aside0 (mdec.cuts (n - k) rst = some (post, fin)) ∧ Aside0 (pre ++ post = l) ∧ Aside0 (wr.heap[g]? = some (.cells #[.slice A rst.length c, .bool false] 99 (0, 0))) ∧ Aside0 (rst.length ≤ c) ∧ Aside0 (mdec.RB w0 wr A c rst) ∧ Aside0 (Kd.R k76 76 wr w.heap.size (fun _ => True) v pre) ∧ Aside0 (Below w0.heap.size w0 wr) ∧ Aside0 (KeepBut w wr g none) ∧ Aside0 (pre.length = k)) (fun _ i _ => n - (intOf i).toNat)
  case atStart => exact ⟨0, Nat.zero_le _, rfl, [], l, r1, A, c, HCT, ⟨rfl⟩, HBG, HLE, HRB, ⟨Kd.R_nil _ _ _ _ _⟩, HB, HK, ⟨rfl⟩⟩
  case round =>
    clear HCT HBG HLE HRB HB HK
    obtain ⟨k, hk, rfl, pre, post, rst, A, c, HCT, HPL, HBG, HLE, HRB, HO, HB, HK, HLN⟩ := hrel
    by_cases hlt : k < n
    · have hct := HCT.out
      rw [show n - k = (n - (k + 1)) + 1 by omega, mdec.cuts] at hct
      obtain ⟨⟨s0, s1, s2, s3, s4, s5, s6, s7, r9, kd⟩, hcu, hct⟩ := Option.bind_eq_some_iff.1 hct
      simp only at hct
      obtain rfl : kd = 0 := by by_cases q : kd = 0; exact q; (rw [if_neg q] at hct; exact absurd hct (by simp))
      rw [if_pos rfl] at hct
      obtain ⟨⟨post2, fin2⟩, hct2, he⟩ := Option.map_eq_some_iff.1 hct
      obtain ⟨rfl, rfl⟩ := Prod.mk.inj he
      have HCU := Aside0.mk hcu
      have HCT2 := Aside0.mk hct2
      have HCC := Aside0.mk (mdec.RB_C HRB.out HB.out)
      clear HCT HRB hct hct2 hcu he
      obtain ⟨ha_0, ha_1⟩ := Hand.Cz.c2 HBG.out
      have hltb : decide ((k : Int) < (n : Int)) = true := decide_eq_true (by omega)
      go_wp2_with fail
      refine (span_Cut.calls A c rst s0 s1 s2 s3 s4 s5 s6 s7 r9 0 _ HCC.out HLE.out HCU.out).mono ?_
      rintro e w5 ⟨v8, rfl, hR, hb⟩
      obtain ⟨A8, c8, rfl⟩ := Kd.R_slice hR
      have BG5 := Aside0.mk (blk_below HBG.out hb)
      have HO5 := Aside0.mk (Kd.R_below HO.out hb)
      have HR5 := Aside0.mk (Kd.R_lower hR HB.out.size)
      have HB5 := Aside0.mk (below_step HB.out hb)
      have HK5 := Aside0.mk (KeepBut.trans HK.out (KeepBut.of_below hb g none) (.inl rfl))
      clear hR hb HBG HO HB HK HCC HCU HLE ha_0 ha_1
      go_upto_region 4 with ((with_reducible refine gate_dst (N := 3) rfl ?_); refine box_event ?hg (N := 3) ?hd (cs := #[.int .u64 0, .int .u64 0, .int .u64 0, .int .u64 0, .int .u64 0, .string ⟨#[]⟩, .string ⟨#[]⟩, .bool false]) (t := 76) ?hr ?_; (case hd => rfl); (case hg => rfl); (case hr => first | (go_simp; done) | (go_simp; rfl)); intro gx hg w6 hbox hb; have NG := Aside0.mk (show g ≠ gx from by have := blk_lt BG5.out; omega); have GW := Aside0.mk (show w.heap.size ≤ gx from by rw [hg]; exact HK5.out.1); have GO := Aside0.mk (show w0.heap.size ≤ gx from by rw [hg]; exact HB5.out.size); have BG6 := Aside0.mk (blk_below BG5.out hb); have HO6 := Aside0.mk (mdec.R_new HO5.out hb (Nat.le_of_eq hg.symm)); have HR6 := Aside0.mk (mdec.R_new HR5.out hb (Nat.le_of_eq hg.symm)); have HB6 := Aside0.mk (below_step HB5.out hb); have HK6 := Aside0.mk (KeepBut.trans HK5.out (KeepBut.of_below hb g none) (.inl rfl)); have BX6 := Aside0.mk hbox; clear hbox hb hg; obtain ⟨hx_0, hx_1, hx_2, hx_3, hx_4, hx_5, hx_6, hx_7⟩ := Hand.Cz.c8 BX6.out; obtain ⟨hf_0, hf_1, hf_2, hf_3, hf_4, hf_5, hf_6, hf_7⟩ := Hand.Cz.f8 BX6.out)
      generalize hW7 : World.setCell _ (Addr.mk gx 7 none) _ = w7
      have BX7 := Aside0.mk (show w7.heap[gx]? = some (.cells #[.int .u64 s0, .int .u64 s1, .int .u64 s2, .int .u64 s3, .int .u64 s4, .string s5, .string s6, .bool s7] 76 (0, 0)) from by rw [← hW7]; exact Hand.Cz.p8 BX6.out)
      have BG7 := Aside0.mk (show w7.heap[g]? = some (.cells #[.slice A rst.length c, .bool false] 99 (0, 0)) from by rw [← hW7]; exact Hand.Cz.o8 BG6.out NG.out)
      have HO7 := Aside0.mk (show Kd.R k76 76 w7 w.heap.size (fun k => k ≠ gx) _ pre from by rw [← hW7]; exact Hand.Cz.r8 HO6.out)
      have HR7 := Aside0.mk (show Kd.R (Kd.int .u8) 5 w7 w0.heap.size (fun k => k ≠ gx) (.slice A8 r9.length c8) r9 from by rw [← hW7]; exact Hand.Cz.r8 HR6.out)
      have HB7 := Aside0.mk (show Below w0.heap.size w0 w7 from by rw [← hW7]; exact Hand.Cz.b8 HB6.out GO.out)
      have HK7 := Aside0.mk (show KeepBut w w7 g none from by rw [← hW7]; exact (mdec.kb_far (mdec.kb_far (mdec.kb_far (mdec.kb_far (mdec.kb_far (mdec.kb_far (mdec.kb_far (mdec.kb_far HK6.out GW.out 0 _) GW.out 1 _) GW.out 2 _) GW.out 3 _) GW.out 4 _) GW.out 5 _) GW.out 6 _) GW.out 7 _))
      clear hW7 BX6 BG6 HO6 HR6 HB6 HK6 HB5 HK5 HO5 HR5 BG5 hx_0 hx_1 hx_2 hx_3 hx_4 hx_5 hx_6 hx_7 hf_0 hf_1 hf_2 hf_3 hf_4 hf_5 hf_6 hf_7
      obtain ⟨ha_0, ha_1⟩ := Hand.Cz.c2 BG7.out
      obtain ⟨hf_0, hf_1⟩ := Hand.Cz.f2 BG7.out
      obtain ⟨hx_0, hx_1, hx_2, hx_3, hx_4, hx_5, hx_6, hx_7⟩ := Hand.Cz.c8 BX7.out
      go_upto_region 8 with fail
      generalize hW8 : World.setCell _ (Addr.mk g 0 none) _ = w8
      have BG8 := Aside0.mk (show w8.heap[g]? = some (.cells #[.slice A8 r9.length c8, .bool false] 99 (0, 0)) from by rw [← hW8]; exact (blk_set (blk_set BG7.out 1 _) 0 _).trans rfl)
      have BX8 := Aside0.mk (show w8.heap[gx]? = some (.cells #[.int .u64 s0, .int .u64 s1, .int .u64 s2, .int .u64 s3, .int .u64 s4, .string s5, .string s6, .bool s7] 76 (0, 0)) from by rw [← hW8]; exact blk_far (blk_far BX7.out (p := ⟨g, 1, none⟩) NG.out.symm _) (p := ⟨g, 0, none⟩) NG.out.symm _)
      have HO8 := Aside0.mk (show Kd.R k76 76 w8 w.heap.size (fun _ => True) _ pre from by rw [← hW8]; exact Kd.R_mono (Kd.R_far (p := ⟨g, 0, none⟩) (Kd.R_far (p := ⟨g, 1, none⟩) (Kd.R_types HO7.out BG7.out (by decide)) (fun _ h => h.2) _) (fun _ h => h.2) _) (fun _ _ => trivial))
      have HR8 := Aside0.mk (show Kd.R (Kd.int .u8) 5 w8 w0.heap.size (fun _ => True) (.slice A8 r9.length c8) r9 from by rw [← hW8]; exact Kd.R_mono (Kd.R_far (p := ⟨g, 0, none⟩) (Kd.R_far (p := ⟨g, 1, none⟩) (Kd.R_types HR7.out BG7.out (by decide)) (fun _ h => h.2) _) (fun _ h => h.2) _) (fun _ _ => trivial))
      have HB8 := Aside0.mk (show Below w0.heap.size w0 w8 from by rw [← hW8]; exact below_set (below_set HB7.out HG.out) HG.out)
      have HK8 := Aside0.mk (show KeepBut w w8 g none from by rw [← hW8]; exact (HK7.out.set_ 1 _).set_ 0 _)
      clear hW8 BX7 BG7 HO7 HR7 HB7 HK7 ha_0 ha_1 hf_0 hf_1 hx_0 hx_1 hx_2 hx_3 hx_4 hx_5 hx_6 hx_7
      obtain ⟨hx_0, hx_1, hx_2, hx_3, hx_4, hx_5, hx_6, hx_7⟩ := Hand.Cz.c8 BX8.out
      have HLA := Aside0.mk (show (pre.length + 1) * 80 ≤ 140737488355328 by have := HLN.out; omega)
      go_wp2_with (at_builtin; refine Kd.R_append k76 (w0 := w8) w.heap.size rfl (.tmp 38) (.tmp 40) 26 76 (.agg #[.int .u64 0, .int .u64 0, .int .u64 0, .int .u64 0, .int .u64 0, .string ⟨#[]⟩, .string ⟨#[]⟩, .bool false]) 80 rfl Try.underlying26 info76 rfl (by decide) (by decide) _ pre ⟨s0, s1, s2, s3, s4, s5, s6, s7⟩ [.int .u64 s0, .int .u64 s1, .int .u64 s2, .int .u64 s3, .int .u64 s4, .string s5, .string s6, .bool s7] (fun _ => True) (fun _ => False) rfl rfl (k76_mkM _ _ _ ⟨s0, s1, s2, s3, s4, s5, s6, s7⟩) (fun _ hk => hk.elim) (fun _ _ => trivial) HO8.out (Below.refl _ _) HK8.out.1 HLA.out ?_; intro v9 w9 ho hb hg hat; have HO9 := Aside0.mk ho; have HR9 := Aside0.mk (Kd.R_over HR8.out HO8.out (by decide) hg); have HB9 := Aside0.mk (HB8.out.trans (hb.mono HWW.out)); have HK9 := Aside0.mk (mdec.kb_more HK8.out hb); have BG9 := Aside0.mk ((hb.block g HGL.out).trans BG8.out); clear ho hb hg hat)
      go_roundw
      case rel => exact ⟨k + 1, by omega, by go_num, pre ++ [⟨s0, s1, s2, s3, s4, s5, s6, s7⟩], post2, r9, A8, c8, HCT2, ⟨by rw [List.append_assoc]; exact HPL.out⟩, BG9, ⟨(Kd.R_reads' HR9.out).2.1⟩, ⟨.inr HR9.out⟩, HO9, HB9, HK9, ⟨by rw [List.length_append, List.length_singleton, HLN.out]⟩⟩
      case measure => simp [intOf]; omega
    · obtain rfl : k = n := by omega
      have hct := HCT.out
      rw [Nat.sub_self, mdec.cuts] at hct
      obtain ⟨rfl, rfl⟩ := Prod.mk.inj (Option.some.inj hct)
      have hpl := HPL.out
      rw [List.append_nil] at hpl
      subst hpl
      clear hct HCT HPL
      have hltb : decide ((k : Int) < (k : Int)) = false := decide_eq_false (by omega)
      go_wp2
      go_ret
      exact ⟨_, rfl, HO.out, ⟨A, c, HBG.out⟩, HB.out, HK.out⟩

/-- What stands behind 'rest': the reader at its end, the packet, its rows; all else is as it was. -/
def mdec.RP (w0 W w' : World) (g gp : Nat) (kd tr bn bd sn sd v : Int) (ok : Bool) (l8 : List S76) (l9 : List S92) (l10 : List Int) : Prop :=
  Below w0.heap.size w0 w' ∧ (∃ (A : Option Addr) (c : Nat), w'.heap[g]? = some (.cells #[.slice A 0 c, .bool false] 99 (0, 0))) ∧ (W.heap.size ≤ w'.heap.size ∧ ∀ q, q < W.heap.size → q ≠ g → q ≠ gp → w'.heap[q]? = W.heap[q]?) ∧
  ∃ v8 v9 v10 : Value, w'.heap[gp]? = some (.cells #[.int .i64 kd, .int .u64 tr, .int .u64 bn, .int .u64 bd, .int .u64 sn, .int .u64 sd, .int .i64 v, .bool ok, v8, v9, v10] 30 (0, 0)) ∧ Kd.R k76 76 w' W.heap.size (fun _ => True) v8 l8 ∧ Kd.R k92 92 w' W.heap.size (fun _ => True) v9 l9 ∧ Kd.R (Kd.int .u64) 22 w' W.heap.size (fun _ => True) v10 l10
def mdec.KP (w W : World) (g gp : Nat) : Prop := w.heap.size ≤ W.heap.size ∧ ∀ q, q < w.heap.size → q ≠ g → q ≠ gp → W.heap[q]? = w.heap[q]?
theorem mdec.KP.kb {w a b : World} {g gp : Nat} (h : mdec.KP w a g gp) (k : KeepBut a b g none) : mdec.KP w b g gp := ⟨Nat.le_trans h.1 k.1, fun q hq h1 h2 => (k.2 q (Nat.lt_of_lt_of_le hq h.1) h1 (by simp)).trans (h.2 q hq h1 h2)⟩
theorem mdec.KP.set {w a : World} {g gp : Nat} (h : mdec.KP w a g gp) (i : Nat) (u : Value) : mdec.KP w (a.setCell ⟨gp, i, none⟩ u) g gp := ⟨by rw [show (a.setCell ⟨gp, i, none⟩ u).heap.size = a.heap.size from by simp [World.setCell]]; exact h.1, fun q hq h1 h2 => (Below.heap_setCell a ⟨gp, i, none⟩ u q (by show q ≠ gp; exact h2)).trans (h.2 q hq h1 h2)⟩
theorem mdec.KP.far {w a : World} {g gp x : Nat} (h : mdec.KP w a g gp) (hx : w.heap.size ≤ x) (i : Nat) (u : Value) : mdec.KP w (a.setCell ⟨x, i, none⟩ u) g gp := ⟨by rw [show (a.setCell ⟨x, i, none⟩ u).heap.size = a.heap.size from by simp [World.setCell]]; exact h.1, fun q hq h1 h2 => (Below.heap_setCell a ⟨x, i, none⟩ u q (by show q ≠ x; omega)).trans (h.2 q hq h1 h2)⟩
theorem mdec.KP.below {w a b : World} {g gp : Nat} (h : mdec.KP w a g gp) (hb : Below w.heap.size a b) : mdec.KP w b g gp := ⟨Nat.le_trans h.1 hb.size, fun q hq h1 h2 => (hb.block q hq).trans (h.2 q hq h1 h2)⟩
theorem mdec.St_more {w0 w w1 : World} {g B : Nat} {rest : List Int} {bad : Bool} (h : St w0 w g rest bad) (hg : g < B) (h0 : w0.heap.size ≤ B) (hb : Below B w w1) : St w0 w1 g rest bad := by
  obtain ⟨hB, hg0, A, c, hblk, hl, hC⟩ := h
  exact ⟨hB.trans (hb.mono h0), hg0, A, c, (hb.block g hg).trans hblk, hl, hC⟩
set_option maxHeartbeats 8000000 in
set_option maxRecDepth 100000 in
theorem mdec.rest4 (w0 w : World) (g gp : Nat) (rest : List Int) (tr : Int) (bn bd : Int) (r1 : List Int) (hst : St w0 w g rest false) (hp : w.heap[gp]? = some (.cells #[.int .i64 4, .int .u64 tr, .int .u64 0, .int .u64 0, .int .u64 0, .int .u64 0, .int .i64 0, .bool false, .slice none 0 0, .slice none 0 0, .slice none 0 0] 30 (0, 0))) (hgp : w0.heap.size ≤ gp) (hne : gp ≠ g) (h1a : nm rest false = some (bn, r1, false)) (h1b : nm r1 false = some (bd, [], false)) :
    Calls Try.prog 46 #[.pointer (some ⟨g, 0, none⟩), .pointer (some ⟨gp, 0, none⟩)] w fun e w' => e = .returned (.tuple #[]) ∧ mdec.RP w0 w w' g gp 4 tr bn bd 0 0 0 false [] [] [] := by
  have hu30 := Try.underlying30
  have hu24 := Try.underlying24
  have hu51 := Try.underlying51
  have hu54 := Try.underlying54
  have hu57 := Try.underlying57
  have hu60 := Try.underlying60
  have hu63 := Try.underlying63
  have hu66 := Try.underlying66
  have hu69 := Try.underlying69
  have HST0 := Aside0.mk hst
  have HP0 := Aside0.mk hp
  have HGP := Aside0.mk hgp
  have hne2 : g ≠ gp := hne.symm
  have HKP0 := Aside0.mk (show mdec.KP w w g gp from ⟨Nat.le_refl _, fun _ _ _ _ => rfl⟩)
  have H1a := Aside0.mk h1a
  have H1b := Aside0.mk h1b
  clear hst hp hgp h1a h1b
  go_enter Try.func46, Try.ntmps46
  obtain ⟨hp_0, hp_1, hp_2, hp_3, hp_4, hp_5, hp_6, hp_7, hp_8, hp_9, hp_10⟩ := Hand.Cz.c11 HP0.out
  go_wp2_with fail
  refine (mdec.ballot w0 _ g rest false HST0.out bn bd r1 [] false false H1a.out H1b.out).mono ?_
  rintro e y0 ⟨rfl, hst, hkb⟩
  have HST1 := Aside0.mk hst
  have HP1 := Aside0.mk ((hkb.2 gp (blk_lt HP0.out) hne (by simp)).trans HP0.out)
  have HKP1 := Aside0.mk (HKP0.out.kb hkb)
  clear hst hkb HST0 HP0 HKP0 hp_0 hp_1 hp_2 hp_3 hp_4 hp_5 hp_6 hp_7 hp_8 hp_9 hp_10
  obtain ⟨hp_0, hp_1, hp_2, hp_3, hp_4, hp_5, hp_6, hp_7, hp_8, hp_9, hp_10⟩ := Hand.Cz.c11 HP1.out
  obtain ⟨hf_0, hf_1, hf_2, hf_3, hf_4, hf_5, hf_6, hf_7, hf_8, hf_9, hf_10⟩ := Hand.Cz.f11 HP1.out
  go_wp2
  go_end0
  obtain ⟨hB, _, A, c, hk, _⟩ := (St_far (St_far HST1.out HGP.out hne2 2 _) HGP.out hne2 3 _)
  exact ⟨rfl, hB, ⟨A, c, hk⟩, (mdec.KP.set (mdec.KP.set HKP1.out 2 _) 3 _), _, _, _, (blk_set (blk_set HP1.out 2 _) 3 _).trans rfl, Kd.R_nil _ _ _ _ _, Kd.R_nil _ _ _ _ _, Kd.R_nil _ _ _ _ _⟩

set_option maxHeartbeats 8000000 in
set_option maxRecDepth 100000 in
theorem mdec.rest6 (w0 w : World) (g gp : Nat) (rest : List Int) (tr : Int) (bn bd v : Int) (r1 r2 o2 : List Int) (hst : St w0 w g rest false) (hp : w.heap[gp]? = some (.cells #[.int .i64 6, .int .u64 tr, .int .u64 0, .int .u64 0, .int .u64 0, .int .u64 0, .int .i64 0, .bool false, .slice none 0 0, .slice none 0 0, .slice none 0 0] 30 (0, 0))) (hgp : w0.heap.size ≤ gp) (hne : gp ≠ g) (hv0 : 0 ≤ v) (hv1 : v < 256) (h1a : nm rest false = some (bn, r1, false)) (h1b : nm r1 false = some (bd, r2, false)) (h2a : tk r2 false 1 = (o2, [], false)) (h2b : rd o2 0 = v) :
    Calls Try.prog 46 #[.pointer (some ⟨g, 0, none⟩), .pointer (some ⟨gp, 0, none⟩)] w fun e w' => e = .returned (.tuple #[]) ∧ mdec.RP w0 w w' g gp 6 tr bn bd 0 0 v false [] [] [] := by
  have hu30 := Try.underlying30
  have hu24 := Try.underlying24
  have hu51 := Try.underlying51
  have hu54 := Try.underlying54
  have hu57 := Try.underlying57
  have hu60 := Try.underlying60
  have hu63 := Try.underlying63
  have hu66 := Try.underlying66
  have hu69 := Try.underlying69
  have HST0 := Aside0.mk hst
  have HP0 := Aside0.mk hp
  have HGP := Aside0.mk hgp
  have hne2 : g ≠ gp := hne.symm
  have HKP0 := Aside0.mk (show mdec.KP w w g gp from ⟨Nat.le_refl _, fun _ _ _ _ => rfl⟩)
  have H1a := Aside0.mk h1a
  have H1b := Aside0.mk h1b
  have H2a := Aside0.mk h2a
  have H2b := Aside0.mk h2b
  clear hst hp hgp h1a h1b h2a h2b
  go_enter Try.func46, Try.ntmps46
  obtain ⟨hp_0, hp_1, hp_2, hp_3, hp_4, hp_5, hp_6, hp_7, hp_8, hp_9, hp_10⟩ := Hand.Cz.c11 HP0.out
  go_wp2_with fail
  refine (mdec.ballot w0 _ g rest false HST0.out bn bd r1 r2 false false H1a.out H1b.out).mono ?_
  rintro e y0 ⟨rfl, hst, hkb⟩
  have HST1 := Aside0.mk hst
  have HP1 := Aside0.mk ((hkb.2 gp (blk_lt HP0.out) hne (by simp)).trans HP0.out)
  have HKP1 := Aside0.mk (HKP0.out.kb hkb)
  clear hst hkb HST0 HP0 HKP0 hp_0 hp_1 hp_2 hp_3 hp_4 hp_5 hp_6 hp_7 hp_8 hp_9 hp_10
  obtain ⟨hp_0, hp_1, hp_2, hp_3, hp_4, hp_5, hp_6, hp_7, hp_8, hp_9, hp_10⟩ := Hand.Cz.c11 HP1.out
  obtain ⟨hf_0, hf_1, hf_2, hf_3, hf_4, hf_5, hf_6, hf_7, hf_8, hf_9, hf_10⟩ := Hand.Cz.f11 HP1.out
  go_upto_region 21 with fail
  generalize hW : World.setCell _ (Addr.mk gp 3 none) _ = x2
  have HP2 := Aside0.mk (show x2.heap[gp]? = some (.cells #[.int .i64 6, .int .u64 tr, .int .u64 bn, .int .u64 bd, .int .u64 0, .int .u64 0, .int .i64 0, .bool false, .slice none 0 0, .slice none 0 0, .slice none 0 0] 30 (0, 0)) from by rw [← hW]; exact (blk_set (blk_set HP1.out 2 _) 3 _).trans rfl)
  have HST2 := Aside0.mk (show St w0 x2 g r2 false from by rw [← hW]; exact (St_far (St_far HST1.out HGP.out hne2 2 _) HGP.out hne2 3 _))
  have HKP2 := Aside0.mk (show mdec.KP w x2 g gp from by rw [← hW]; exact (mdec.KP.set (mdec.KP.set HKP1.out 2 _) 3 _))
  clear hW HST1 HP1 HKP1 hp_0 hp_1 hp_2 hp_3 hp_4 hp_5 hp_6 hp_7 hp_8 hp_9 hp_10 hf_0 hf_1 hf_2 hf_3 hf_4 hf_5 hf_6 hf_7 hf_8 hf_9 hf_10
  obtain ⟨hp_0, hp_1, hp_2, hp_3, hp_4, hp_5, hp_6, hp_7, hp_8, hp_9, hp_10⟩ := Hand.Cz.c11 HP2.out
  go_wp2_with fail
  refine (verdict w0 _ g r2 false HST2.out o2 [] false v H2a.out H2b.out (by omega) (by omega)).mono ?_
  rintro e y2 ⟨rfl, hst, hkb⟩
  have HST3 := Aside0.mk hst
  have HP3 := Aside0.mk ((hkb.2 gp (blk_lt HP2.out) hne (by simp)).trans HP2.out)
  have HKP3 := Aside0.mk (HKP2.out.kb hkb)
  clear hst hkb HST2 HP2 HKP2 hp_0 hp_1 hp_2 hp_3 hp_4 hp_5 hp_6 hp_7 hp_8 hp_9 hp_10
  obtain ⟨hp_0, hp_1, hp_2, hp_3, hp_4, hp_5, hp_6, hp_7, hp_8, hp_9, hp_10⟩ := Hand.Cz.c11 HP3.out
  obtain ⟨hf_0, hf_1, hf_2, hf_3, hf_4, hf_5, hf_6, hf_7, hf_8, hf_9, hf_10⟩ := Hand.Cz.f11 HP3.out
  go_wp2
  go_end0
  obtain ⟨hB, _, A, c, hk, _⟩ := (St_far HST3.out HGP.out hne2 6 _)
  exact ⟨rfl, hB, ⟨A, c, hk⟩, (mdec.KP.set HKP3.out 6 _), _, _, _, (blk_set HP3.out 6 _).trans rfl, Kd.R_nil _ _ _ _ _, Kd.R_nil _ _ _ _ _, Kd.R_nil _ _ _ _ _⟩

set_option maxHeartbeats 8000000 in
set_option maxRecDepth 100000 in
theorem mdec.rest8 (w0 w : World) (g gp : Nat) (rest : List Int) (tr : Int) (v : Int) (o2 : List Int) (hst : St w0 w g rest false) (hp : w.heap[gp]? = some (.cells #[.int .i64 8, .int .u64 tr, .int .u64 0, .int .u64 0, .int .u64 0, .int .u64 0, .int .i64 0, .bool false, .slice none 0 0, .slice none 0 0, .slice none 0 0] 30 (0, 0))) (hgp : w0.heap.size ≤ gp) (hne : gp ≠ g) (hv0 : 0 ≤ v) (hv1 : v < 256) (h2a : tk rest false 1 = (o2, [], false)) (h2b : rd o2 0 = v) :
    Calls Try.prog 46 #[.pointer (some ⟨g, 0, none⟩), .pointer (some ⟨gp, 0, none⟩)] w fun e w' => e = .returned (.tuple #[]) ∧ mdec.RP w0 w w' g gp 8 tr 0 0 0 0 v false [] [] [] := by
  have hu30 := Try.underlying30
  have hu24 := Try.underlying24
  have hu51 := Try.underlying51
  have hu54 := Try.underlying54
  have hu57 := Try.underlying57
  have hu60 := Try.underlying60
  have hu63 := Try.underlying63
  have hu66 := Try.underlying66
  have hu69 := Try.underlying69
  have HST0 := Aside0.mk hst
  have HP0 := Aside0.mk hp
  have HGP := Aside0.mk hgp
  have hne2 : g ≠ gp := hne.symm
  have HKP0 := Aside0.mk (show mdec.KP w w g gp from ⟨Nat.le_refl _, fun _ _ _ _ => rfl⟩)
  have H2a := Aside0.mk h2a
  have H2b := Aside0.mk h2b
  clear hst hp hgp h2a h2b
  go_enter Try.func46, Try.ntmps46
  obtain ⟨hp_0, hp_1, hp_2, hp_3, hp_4, hp_5, hp_6, hp_7, hp_8, hp_9, hp_10⟩ := Hand.Cz.c11 HP0.out
  go_wp2_with fail
  refine (verdict w0 _ g rest false HST0.out o2 [] false v H2a.out H2b.out (by omega) (by omega)).mono ?_
  rintro e y0 ⟨rfl, hst, hkb⟩
  have HST1 := Aside0.mk hst
  have HP1 := Aside0.mk ((hkb.2 gp (blk_lt HP0.out) hne (by simp)).trans HP0.out)
  have HKP1 := Aside0.mk (HKP0.out.kb hkb)
  clear hst hkb HST0 HP0 HKP0 hp_0 hp_1 hp_2 hp_3 hp_4 hp_5 hp_6 hp_7 hp_8 hp_9 hp_10
  obtain ⟨hp_0, hp_1, hp_2, hp_3, hp_4, hp_5, hp_6, hp_7, hp_8, hp_9, hp_10⟩ := Hand.Cz.c11 HP1.out
  obtain ⟨hf_0, hf_1, hf_2, hf_3, hf_4, hf_5, hf_6, hf_7, hf_8, hf_9, hf_10⟩ := Hand.Cz.f11 HP1.out
  go_wp2
  go_end0
  obtain ⟨hB, _, A, c, hk, _⟩ := (St_far HST1.out HGP.out hne2 6 _)
  exact ⟨rfl, hB, ⟨A, c, hk⟩, (mdec.KP.set HKP1.out 6 _), _, _, _, (blk_set HP1.out 6 _).trans rfl, Kd.R_nil _ _ _ _ _, Kd.R_nil _ _ _ _ _, Kd.R_nil _ _ _ _ _⟩

set_option maxHeartbeats 8000000 in
set_option maxRecDepth 100000 in
theorem mdec.rest5 (w0 w : World) (g gp : Nat) (rest : List Int) (tr : Int) (bn bd sn sd v : Int) (ok : Bool) (r1 r2 r3 r4 r5 o2 o4 : List Int) (hst : St w0 w g rest false) (hp : w.heap[gp]? = some (.cells #[.int .i64 5, .int .u64 tr, .int .u64 0, .int .u64 0, .int .u64 0, .int .u64 0, .int .i64 0, .bool false, .slice none 0 0, .slice none 0 0, .slice none 0 0] 30 (0, 0))) (hgp : w0.heap.size ≤ gp) (hne : gp ≠ g) (hv0 : 0 ≤ v) (hv1 : v < 256) (h1a : nm rest false = some (bn, r1, false)) (h1b : nm r1 false = some (bd, r2, false)) (h2a : tk r2 false 1 = (o2, r4, false)) (h2b : rd o2 0 = okI ok) (h3a : nm r4 false = some (sn, r3, false)) (h3b : nm r3 false = some (sd, r5, false)) (h4a : tk r5 false 1 = (o4, [], false)) (h4b : rd o4 0 = v) :
    Calls Try.prog 46 #[.pointer (some ⟨g, 0, none⟩), .pointer (some ⟨gp, 0, none⟩)] w fun e w' => e = .returned (.tuple #[]) ∧ mdec.RP w0 w w' g gp 5 tr bn bd sn sd v ok [] [] [] := by
  have hu30 := Try.underlying30
  have hu24 := Try.underlying24
  have hu51 := Try.underlying51
  have hu54 := Try.underlying54
  have hu57 := Try.underlying57
  have hu60 := Try.underlying60
  have hu63 := Try.underlying63
  have hu66 := Try.underlying66
  have hu69 := Try.underlying69
  have HST0 := Aside0.mk hst
  have HP0 := Aside0.mk hp
  have HGP := Aside0.mk hgp
  have hne2 : g ≠ gp := hne.symm
  have HKP0 := Aside0.mk (show mdec.KP w w g gp from ⟨Nat.le_refl _, fun _ _ _ _ => rfl⟩)
  have H1a := Aside0.mk h1a
  have H1b := Aside0.mk h1b
  have H2a := Aside0.mk h2a
  have H2b := Aside0.mk h2b
  have H3a := Aside0.mk h3a
  have H3b := Aside0.mk h3b
  have H4a := Aside0.mk h4a
  have H4b := Aside0.mk h4b
  clear hst hp hgp h1a h1b h2a h2b h3a h3b h4a h4b
  go_enter Try.func46, Try.ntmps46
  obtain ⟨hp_0, hp_1, hp_2, hp_3, hp_4, hp_5, hp_6, hp_7, hp_8, hp_9, hp_10⟩ := Hand.Cz.c11 HP0.out
  go_wp2_with fail
  refine (mdec.ballot w0 _ g rest false HST0.out bn bd r1 r2 false false H1a.out H1b.out).mono ?_
  rintro e y0 ⟨rfl, hst, hkb⟩
  have HST1 := Aside0.mk hst
  have HP1 := Aside0.mk ((hkb.2 gp (blk_lt HP0.out) hne (by simp)).trans HP0.out)
  have HKP1 := Aside0.mk (HKP0.out.kb hkb)
  clear hst hkb HST0 HP0 HKP0 hp_0 hp_1 hp_2 hp_3 hp_4 hp_5 hp_6 hp_7 hp_8 hp_9 hp_10
  obtain ⟨hp_0, hp_1, hp_2, hp_3, hp_4, hp_5, hp_6, hp_7, hp_8, hp_9, hp_10⟩ := Hand.Cz.c11 HP1.out
  go_wp2_with fail
  refine (mdec.truth w0 _ g r2 HST1.out ok o2 r4 H2a.out H2b.out).mono ?_
  rintro e y1 ⟨rfl, hst, hkb⟩
  have HST2 := Aside0.mk hst
  have HP2 := Aside0.mk ((hkb.2 gp (blk_lt HP1.out) hne (by simp)).trans HP1.out)
  have HKP2 := Aside0.mk (HKP1.out.kb hkb)
  clear hst hkb HST1 HP1 HKP1 hp_0 hp_1 hp_2 hp_3 hp_4 hp_5 hp_6 hp_7 hp_8 hp_9 hp_10
  obtain ⟨hp_0, hp_1, hp_2, hp_3, hp_4, hp_5, hp_6, hp_7, hp_8, hp_9, hp_10⟩ := Hand.Cz.c11 HP2.out
  obtain ⟨hf_0, hf_1, hf_2, hf_3, hf_4, hf_5, hf_6, hf_7, hf_8, hf_9, hf_10⟩ := Hand.Cz.f11 HP2.out
  go_upto_region 16 with fail
  generalize hW : World.setCell _ (Addr.mk gp 7 none) _ = x3
  have HP3 := Aside0.mk (show x3.heap[gp]? = some (.cells #[.int .i64 5, .int .u64 tr, .int .u64 bn, .int .u64 bd, .int .u64 0, .int .u64 0, .int .i64 0, .bool ok, .slice none 0 0, .slice none 0 0, .slice none 0 0] 30 (0, 0)) from by rw [← hW]; exact (blk_set (blk_set (blk_set HP2.out 2 _) 3 _) 7 _).trans rfl)
  have HST3 := Aside0.mk (show St w0 x3 g r4 false from by rw [← hW]; exact (St_far (St_far (St_far HST2.out HGP.out hne2 2 _) HGP.out hne2 3 _) HGP.out hne2 7 _))
  have HKP3 := Aside0.mk (show mdec.KP w x3 g gp from by rw [← hW]; exact (mdec.KP.set (mdec.KP.set (mdec.KP.set HKP2.out 2 _) 3 _) 7 _))
  clear hW HST2 HP2 HKP2 hp_0 hp_1 hp_2 hp_3 hp_4 hp_5 hp_6 hp_7 hp_8 hp_9 hp_10 hf_0 hf_1 hf_2 hf_3 hf_4 hf_5 hf_6 hf_7 hf_8 hf_9 hf_10
  obtain ⟨hp_0, hp_1, hp_2, hp_3, hp_4, hp_5, hp_6, hp_7, hp_8, hp_9, hp_10⟩ := Hand.Cz.c11 HP3.out
  go_wp2_with fail
  refine (mdec.ballot w0 _ g r4 false HST3.out sn sd r3 r5 false false H3a.out H3b.out).mono ?_
  rintro e y3 ⟨rfl, hst, hkb⟩
  have HST4 := Aside0.mk hst
  have HP4 := Aside0.mk ((hkb.2 gp (blk_lt HP3.out) hne (by simp)).trans HP3.out)
  have HKP4 := Aside0.mk (HKP3.out.kb hkb)
  clear hst hkb HST3 HP3 HKP3 hp_0 hp_1 hp_2 hp_3 hp_4 hp_5 hp_6 hp_7 hp_8 hp_9 hp_10
  obtain ⟨hp_0, hp_1, hp_2, hp_3, hp_4, hp_5, hp_6, hp_7, hp_8, hp_9, hp_10⟩ := Hand.Cz.c11 HP4.out
  obtain ⟨hf_0, hf_1, hf_2, hf_3, hf_4, hf_5, hf_6, hf_7, hf_8, hf_9, hf_10⟩ := Hand.Cz.f11 HP4.out
  go_upto_region 18 with fail
  generalize hW : World.setCell _ (Addr.mk gp 5 none) _ = x5
  have HP5 := Aside0.mk (show x5.heap[gp]? = some (.cells #[.int .i64 5, .int .u64 tr, .int .u64 bn, .int .u64 bd, .int .u64 sn, .int .u64 sd, .int .i64 0, .bool ok, .slice none 0 0, .slice none 0 0, .slice none 0 0] 30 (0, 0)) from by rw [← hW]; exact (blk_set (blk_set HP4.out 4 _) 5 _).trans rfl)
  have HST5 := Aside0.mk (show St w0 x5 g r5 false from by rw [← hW]; exact (St_far (St_far HST4.out HGP.out hne2 4 _) HGP.out hne2 5 _))
  have HKP5 := Aside0.mk (show mdec.KP w x5 g gp from by rw [← hW]; exact (mdec.KP.set (mdec.KP.set HKP4.out 4 _) 5 _))
  clear hW HST4 HP4 HKP4 hp_0 hp_1 hp_2 hp_3 hp_4 hp_5 hp_6 hp_7 hp_8 hp_9 hp_10 hf_0 hf_1 hf_2 hf_3 hf_4 hf_5 hf_6 hf_7 hf_8 hf_9 hf_10
  obtain ⟨hp_0, hp_1, hp_2, hp_3, hp_4, hp_5, hp_6, hp_7, hp_8, hp_9, hp_10⟩ := Hand.Cz.c11 HP5.out
  go_wp2_with fail
  refine (verdict w0 _ g r5 false HST5.out o4 [] false v H4a.out H4b.out (by omega) (by omega)).mono ?_
  rintro e y5 ⟨rfl, hst, hkb⟩
  have HST6 := Aside0.mk hst
  have HP6 := Aside0.mk ((hkb.2 gp (blk_lt HP5.out) hne (by simp)).trans HP5.out)
  have HKP6 := Aside0.mk (HKP5.out.kb hkb)
  clear hst hkb HST5 HP5 HKP5 hp_0 hp_1 hp_2 hp_3 hp_4 hp_5 hp_6 hp_7 hp_8 hp_9 hp_10
  obtain ⟨hp_0, hp_1, hp_2, hp_3, hp_4, hp_5, hp_6, hp_7, hp_8, hp_9, hp_10⟩ := Hand.Cz.c11 HP6.out
  obtain ⟨hf_0, hf_1, hf_2, hf_3, hf_4, hf_5, hf_6, hf_7, hf_8, hf_9, hf_10⟩ := Hand.Cz.f11 HP6.out
  go_wp2
  go_end0
  obtain ⟨hB, _, A, c, hk, _⟩ := (St_far HST6.out HGP.out hne2 6 _)
  exact ⟨rfl, hB, ⟨A, c, hk⟩, (mdec.KP.set HKP6.out 6 _), _, _, _, (blk_set HP6.out 6 _).trans rfl, Kd.R_nil _ _ _ _ _, Kd.R_nil _ _ _ _ _, Kd.R_nil _ _ _ _ _⟩

set_option maxHeartbeats 8000000 in
set_option maxRecDepth 100000 in
theorem mdec.rest7 (w0 w : World) (g gp : Nat) (rest : List Int) (tr : Int) (bn bd sn sd : Int) (ok : Bool) (r1 r2 r3 r4 o2 : List Int) (hst : St w0 w g rest false) (hp : w.heap[gp]? = some (.cells #[.int .i64 7, .int .u64 tr, .int .u64 0, .int .u64 0, .int .u64 0, .int .u64 0, .int .i64 0, .bool false, .slice none 0 0, .slice none 0 0, .slice none 0 0] 30 (0, 0))) (hgp : w0.heap.size ≤ gp) (hne : gp ≠ g) (h1a : nm rest false = some (bn, r1, false)) (h1b : nm r1 false = some (bd, r2, false)) (h2a : tk r2 false 1 = (o2, r4, false)) (h2b : rd o2 0 = okI ok) (h3a : nm r4 false = some (sn, r3, false)) (h3b : nm r3 false = some (sd, [], false)) :
    Calls Try.prog 46 #[.pointer (some ⟨g, 0, none⟩), .pointer (some ⟨gp, 0, none⟩)] w fun e w' => e = .returned (.tuple #[]) ∧ mdec.RP w0 w w' g gp 7 tr bn bd sn sd 0 ok [] [] [] := by
  have hu30 := Try.underlying30
  have hu24 := Try.underlying24
  have hu51 := Try.underlying51
  have hu54 := Try.underlying54
  have hu57 := Try.underlying57
  have hu60 := Try.underlying60
  have hu63 := Try.underlying63
  have hu66 := Try.underlying66
  have hu69 := Try.underlying69
  have HST0 := Aside0.mk hst
  have HP0 := Aside0.mk hp
  have HGP := Aside0.mk hgp
  have hne2 : g ≠ gp := hne.symm
  have HKP0 := Aside0.mk (show mdec.KP w w g gp from ⟨Nat.le_refl _, fun _ _ _ _ => rfl⟩)
  have H1a := Aside0.mk h1a
  have H1b := Aside0.mk h1b
  have H2a := Aside0.mk h2a
  have H2b := Aside0.mk h2b
  have H3a := Aside0.mk h3a
  have H3b := Aside0.mk h3b
  clear hst hp hgp h1a h1b h2a h2b h3a h3b
  go_enter Try.func46, Try.ntmps46
  obtain ⟨hp_0, hp_1, hp_2, hp_3, hp_4, hp_5, hp_6, hp_7, hp_8, hp_9, hp_10⟩ := Hand.Cz.c11 HP0.out
  go_wp2_with fail
  refine (mdec.ballot w0 _ g rest false HST0.out bn bd r1 r2 false false H1a.out H1b.out).mono ?_
  rintro e y0 ⟨rfl, hst, hkb⟩
  have HST1 := Aside0.mk hst
  have HP1 := Aside0.mk ((hkb.2 gp (blk_lt HP0.out) hne (by simp)).trans HP0.out)
  have HKP1 := Aside0.mk (HKP0.out.kb hkb)
  clear hst hkb HST0 HP0 HKP0 hp_0 hp_1 hp_2 hp_3 hp_4 hp_5 hp_6 hp_7 hp_8 hp_9 hp_10
  obtain ⟨hp_0, hp_1, hp_2, hp_3, hp_4, hp_5, hp_6, hp_7, hp_8, hp_9, hp_10⟩ := Hand.Cz.c11 HP1.out
  go_wp2_with fail
  refine (mdec.truth w0 _ g r2 HST1.out ok o2 r4 H2a.out H2b.out).mono ?_
  rintro e y1 ⟨rfl, hst, hkb⟩
  have HST2 := Aside0.mk hst
  have HP2 := Aside0.mk ((hkb.2 gp (blk_lt HP1.out) hne (by simp)).trans HP1.out)
  have HKP2 := Aside0.mk (HKP1.out.kb hkb)
  clear hst hkb HST1 HP1 HKP1 hp_0 hp_1 hp_2 hp_3 hp_4 hp_5 hp_6 hp_7 hp_8 hp_9 hp_10
  obtain ⟨hp_0, hp_1, hp_2, hp_3, hp_4, hp_5, hp_6, hp_7, hp_8, hp_9, hp_10⟩ := Hand.Cz.c11 HP2.out
  obtain ⟨hf_0, hf_1, hf_2, hf_3, hf_4, hf_5, hf_6, hf_7, hf_8, hf_9, hf_10⟩ := Hand.Cz.f11 HP2.out
  go_upto_region 16 with fail
  generalize hW : World.setCell _ (Addr.mk gp 7 none) _ = x3
  have HP3 := Aside0.mk (show x3.heap[gp]? = some (.cells #[.int .i64 7, .int .u64 tr, .int .u64 bn, .int .u64 bd, .int .u64 0, .int .u64 0, .int .i64 0, .bool ok, .slice none 0 0, .slice none 0 0, .slice none 0 0] 30 (0, 0)) from by rw [← hW]; exact (blk_set (blk_set (blk_set HP2.out 2 _) 3 _) 7 _).trans rfl)
  have HST3 := Aside0.mk (show St w0 x3 g r4 false from by rw [← hW]; exact (St_far (St_far (St_far HST2.out HGP.out hne2 2 _) HGP.out hne2 3 _) HGP.out hne2 7 _))
  have HKP3 := Aside0.mk (show mdec.KP w x3 g gp from by rw [← hW]; exact (mdec.KP.set (mdec.KP.set (mdec.KP.set HKP2.out 2 _) 3 _) 7 _))
  clear hW HST2 HP2 HKP2 hp_0 hp_1 hp_2 hp_3 hp_4 hp_5 hp_6 hp_7 hp_8 hp_9 hp_10 hf_0 hf_1 hf_2 hf_3 hf_4 hf_5 hf_6 hf_7 hf_8 hf_9 hf_10
  obtain ⟨hp_0, hp_1, hp_2, hp_3, hp_4, hp_5, hp_6, hp_7, hp_8, hp_9, hp_10⟩ := Hand.Cz.c11 HP3.out
  go_wp2_with fail
  refine (mdec.ballot w0 _ g r4 false HST3.out sn sd r3 [] false false H3a.out H3b.out).mono ?_
  rintro e y3 ⟨rfl, hst, hkb⟩
  have HST4 := Aside0.mk hst
  have HP4 := Aside0.mk ((hkb.2 gp (blk_lt HP3.out) hne (by simp)).trans HP3.out)
  have HKP4 := Aside0.mk (HKP3.out.kb hkb)
  clear hst hkb HST3 HP3 HKP3 hp_0 hp_1 hp_2 hp_3 hp_4 hp_5 hp_6 hp_7 hp_8 hp_9 hp_10
  obtain ⟨hp_0, hp_1, hp_2, hp_3, hp_4, hp_5, hp_6, hp_7, hp_8, hp_9, hp_10⟩ := Hand.Cz.c11 HP4.out
  obtain ⟨hf_0, hf_1, hf_2, hf_3, hf_4, hf_5, hf_6, hf_7, hf_8, hf_9, hf_10⟩ := Hand.Cz.f11 HP4.out
  go_wp2
  go_end0
  obtain ⟨hB, _, A, c, hk, _⟩ := (St_far (St_far HST4.out HGP.out hne2 4 _) HGP.out hne2 5 _)
  exact ⟨rfl, hB, ⟨A, c, hk⟩, (mdec.KP.set (mdec.KP.set HKP4.out 4 _) 5 _), _, _, _, (blk_set (blk_set HP4.out 4 _) 5 _).trans rfl, Kd.R_nil _ _ _ _ _, Kd.R_nil _ _ _ _ _, Kd.R_nil _ _ _ _ _⟩

set_option maxHeartbeats 8000000 in
set_option maxRecDepth 100000 in
theorem mdec.rest1 (w0 w : World) (g gp : Nat) (rest : List Int) (tr : Int) (n : Nat) (l : List S76) (r1 o1 : List Int) (hst : St w0 w g rest false) (hp : w.heap[gp]? = some (.cells #[.int .i64 1, .int .u64 tr, .int .u64 0, .int .u64 0, .int .u64 0, .int .u64 0, .int .i64 0, .bool false, .slice none 0 0, .slice none 0 0, .slice none 0 0] 30 (0, 0))) (hgp : w0.heap.size ≤ gp) (hne : gp ≠ g) (hn : n ≤ 255) (h1a : tk rest false 1 = (o1, r1, false)) (h1b : rd o1 0 = (n : Int)) (h1c : mdec.cuts n r1 = some (l, [])) :
    Calls Try.prog 46 #[.pointer (some ⟨g, 0, none⟩), .pointer (some ⟨gp, 0, none⟩)] w fun e w' => e = .returned (.tuple #[]) ∧ mdec.RP w0 w w' g gp 1 tr 0 0 0 0 0 false l [] [] := by
  have hu30 := Try.underlying30
  have hu24 := Try.underlying24
  have hu51 := Try.underlying51
  have hu54 := Try.underlying54
  have hu57 := Try.underlying57
  have hu60 := Try.underlying60
  have hu63 := Try.underlying63
  have hu66 := Try.underlying66
  have hu69 := Try.underlying69
  have HST0 := Aside0.mk hst
  have HP0 := Aside0.mk hp
  have HGP := Aside0.mk hgp
  have hne2 : g ≠ gp := hne.symm
  have HKP0 := Aside0.mk (show mdec.KP w w g gp from ⟨Nat.le_refl _, fun _ _ _ _ => rfl⟩)
  have H1a := Aside0.mk h1a
  have H1b := Aside0.mk h1b
  have H1c := Aside0.mk h1c
  clear hst hp hgp h1a h1b h1c
  go_enter Try.func46, Try.ntmps46
  obtain ⟨hp_0, hp_1, hp_2, hp_3, hp_4, hp_5, hp_6, hp_7, hp_8, hp_9, hp_10⟩ := Hand.Cz.c11 HP0.out
  go_wp2_with fail
  refine (mdec.spans w0 _ g rest HST0.out o1 r1 n hn H1a.out H1b.out l [] H1c.out).mono ?_
  rintro e z1 ⟨vs, rfl, hR, ⟨A, c, hk⟩, hB, hkb⟩
  have HBG := Aside0.mk hk
  have HB := Aside0.mk hB
  have HR := Aside0.mk (Kd.R_lower hR HKP0.out.1)
  have HPz := Aside0.mk ((hkb.2 gp (blk_lt HP0.out) hne (by simp)).trans HP0.out)
  have HKz := Aside0.mk (HKP0.out.kb hkb)
  obtain ⟨As, cs_, rfl⟩ := Kd.R_slice hR
  clear hR hk hB hkb HST0 HP0 HKP0 hp_0 hp_1 hp_2 hp_3 hp_4 hp_5 hp_6 hp_7 hp_8 hp_9 hp_10
  obtain ⟨hp_0, hp_1, hp_2, hp_3, hp_4, hp_5, hp_6, hp_7, hp_8, hp_9, hp_10⟩ := Hand.Cz.c11 HPz.out
  obtain ⟨hf_0, hf_1, hf_2, hf_3, hf_4, hf_5, hf_6, hf_7, hf_8, hf_9, hf_10⟩ := Hand.Cz.f11 HPz.out
  go_wp2
  go_end0
  exact ⟨rfl, below_set HB.out HGP.out, ⟨A, c, blk_far HBG.out (p := ⟨gp, 8, none⟩) hne2 _⟩, HKz.out.set 8 _, _, _, _, (blk_set HPz.out 8 _).trans rfl, Kd.R_mono (Kd.R_far (p := ⟨gp, 8, none⟩) (Kd.R_types HR.out HPz.out (by decide)) (fun _ h => h.2) _) (fun _ _ => trivial), Kd.R_nil _ _ _ _ _, Kd.R_nil _ _ _ _ _⟩

set_option maxHeartbeats 8000000 in
set_option maxRecDepth 100000 in
theorem mdec.rest2 (w0 w : World) (g gp : Nat) (rest : List Int) (tr : Int) (n : Nat) (l : List S76) (r1 o1 : List Int) (hst : St w0 w g rest false) (hp : w.heap[gp]? = some (.cells #[.int .i64 2, .int .u64 tr, .int .u64 0, .int .u64 0, .int .u64 0, .int .u64 0, .int .i64 0, .bool false, .slice none 0 0, .slice none 0 0, .slice none 0 0] 30 (0, 0))) (hgp : w0.heap.size ≤ gp) (hne : gp ≠ g) (hn : n ≤ 255) (h1a : tk rest false 1 = (o1, r1, false)) (h1b : rd o1 0 = (n : Int)) (h1c : mdec.cuts n r1 = some (l, [])) :
    Calls Try.prog 46 #[.pointer (some ⟨g, 0, none⟩), .pointer (some ⟨gp, 0, none⟩)] w fun e w' => e = .returned (.tuple #[]) ∧ mdec.RP w0 w w' g gp 2 tr 0 0 0 0 0 false l [] [] := by
  have hu30 := Try.underlying30
  have hu24 := Try.underlying24
  have hu51 := Try.underlying51
  have hu54 := Try.underlying54
  have hu57 := Try.underlying57
  have hu60 := Try.underlying60
  have hu63 := Try.underlying63
  have hu66 := Try.underlying66
  have hu69 := Try.underlying69
  have HST0 := Aside0.mk hst
  have HP0 := Aside0.mk hp
  have HGP := Aside0.mk hgp
  have hne2 : g ≠ gp := hne.symm
  have HKP0 := Aside0.mk (show mdec.KP w w g gp from ⟨Nat.le_refl _, fun _ _ _ _ => rfl⟩)
  have H1a := Aside0.mk h1a
  have H1b := Aside0.mk h1b
  have H1c := Aside0.mk h1c
  clear hst hp hgp h1a h1b h1c
  go_enter Try.func46, Try.ntmps46
  obtain ⟨hp_0, hp_1, hp_2, hp_3, hp_4, hp_5, hp_6, hp_7, hp_8, hp_9, hp_10⟩ := Hand.Cz.c11 HP0.out
  go_wp2_with fail
  refine (mdec.spans w0 _ g rest HST0.out o1 r1 n hn H1a.out H1b.out l [] H1c.out).mono ?_
  rintro e z1 ⟨vs, rfl, hR, ⟨A, c, hk⟩, hB, hkb⟩
  have HBG := Aside0.mk hk
  have HB := Aside0.mk hB
  have HR := Aside0.mk (Kd.R_lower hR HKP0.out.1)
  have HPz := Aside0.mk ((hkb.2 gp (blk_lt HP0.out) hne (by simp)).trans HP0.out)
  have HKz := Aside0.mk (HKP0.out.kb hkb)
  obtain ⟨As, cs_, rfl⟩ := Kd.R_slice hR
  clear hR hk hB hkb HST0 HP0 HKP0 hp_0 hp_1 hp_2 hp_3 hp_4 hp_5 hp_6 hp_7 hp_8 hp_9 hp_10
  obtain ⟨hp_0, hp_1, hp_2, hp_3, hp_4, hp_5, hp_6, hp_7, hp_8, hp_9, hp_10⟩ := Hand.Cz.c11 HPz.out
  obtain ⟨hf_0, hf_1, hf_2, hf_3, hf_4, hf_5, hf_6, hf_7, hf_8, hf_9, hf_10⟩ := Hand.Cz.f11 HPz.out
  go_wp2
  go_end0
  exact ⟨rfl, below_set HB.out HGP.out, ⟨A, c, blk_far HBG.out (p := ⟨gp, 8, none⟩) hne2 _⟩, HKz.out.set 8 _, _, _, _, (blk_set HPz.out 8 _).trans rfl, Kd.R_mono (Kd.R_far (p := ⟨gp, 8, none⟩) (Kd.R_types HR.out HPz.out (by decide)) (fun _ h => h.2) _) (fun _ _ => trivial), Kd.R_nil _ _ _ _ _, Kd.R_nil _ _ _ _ _⟩

set_option maxHeartbeats 8000000 in
set_option maxRecDepth 100000 in
theorem mdec.rest9 (w0 w : World) (g gp : Nat) (rest : List Int) (tr : Int) (bn bd : Int) (n : Nat) (l : List S76) (r1 r2 r3 o3 : List Int) (hst : St w0 w g rest false) (hp : w.heap[gp]? = some (.cells #[.int .i64 9, .int .u64 tr, .int .u64 0, .int .u64 0, .int .u64 0, .int .u64 0, .int .i64 0, .bool false, .slice none 0 0, .slice none 0 0, .slice none 0 0] 30 (0, 0))) (hgp : w0.heap.size ≤ gp) (hne : gp ≠ g) (hn : n ≤ 255) (h1a : nm rest false = some (bn, r1, false)) (h1b : nm r1 false = some (bd, r2, false)) (h3a : tk r2 false 1 = (o3, r3, false)) (h3b : rd o3 0 = (n : Int)) (h3c : mdec.cuts n r3 = some (l, [])) :
    Calls Try.prog 46 #[.pointer (some ⟨g, 0, none⟩), .pointer (some ⟨gp, 0, none⟩)] w fun e w' => e = .returned (.tuple #[]) ∧ mdec.RP w0 w w' g gp 9 tr bn bd 0 0 0 false l [] [] := by
  have hu30 := Try.underlying30
  have hu24 := Try.underlying24
  have hu51 := Try.underlying51
  have hu54 := Try.underlying54
  have hu57 := Try.underlying57
  have hu60 := Try.underlying60
  have hu63 := Try.underlying63
  have hu66 := Try.underlying66
  have hu69 := Try.underlying69
  have HST0 := Aside0.mk hst
  have HP0 := Aside0.mk hp
  have HGP := Aside0.mk hgp
  have hne2 : g ≠ gp := hne.symm
  have HKP0 := Aside0.mk (show mdec.KP w w g gp from ⟨Nat.le_refl _, fun _ _ _ _ => rfl⟩)
  have H1a := Aside0.mk h1a
  have H1b := Aside0.mk h1b
  have H3a := Aside0.mk h3a
  have H3b := Aside0.mk h3b
  have H3c := Aside0.mk h3c
  clear hst hp hgp h1a h1b h3a h3b h3c
  go_enter Try.func46, Try.ntmps46
  obtain ⟨hp_0, hp_1, hp_2, hp_3, hp_4, hp_5, hp_6, hp_7, hp_8, hp_9, hp_10⟩ := Hand.Cz.c11 HP0.out
  go_wp2_with fail
  refine (mdec.ballot w0 _ g rest false HST0.out bn bd r1 r2 false false H1a.out H1b.out).mono ?_
  rintro e y0 ⟨rfl, hst, hkb⟩
  have HST1 := Aside0.mk hst
  have HP1 := Aside0.mk ((hkb.2 gp (blk_lt HP0.out) hne (by simp)).trans HP0.out)
  have HKP1 := Aside0.mk (HKP0.out.kb hkb)
  clear hst hkb HST0 HP0 HKP0 hp_0 hp_1 hp_2 hp_3 hp_4 hp_5 hp_6 hp_7 hp_8 hp_9 hp_10
  obtain ⟨hp_0, hp_1, hp_2, hp_3, hp_4, hp_5, hp_6, hp_7, hp_8, hp_9, hp_10⟩ := Hand.Cz.c11 HP1.out
  obtain ⟨hf_0, hf_1, hf_2, hf_3, hf_4, hf_5, hf_6, hf_7, hf_8, hf_9, hf_10⟩ := Hand.Cz.f11 HP1.out
  go_upto_region 26 with fail
  generalize hW : World.setCell _ (Addr.mk gp 3 none) _ = x2
  have HP2 := Aside0.mk (show x2.heap[gp]? = some (.cells #[.int .i64 9, .int .u64 tr, .int .u64 bn, .int .u64 bd, .int .u64 0, .int .u64 0, .int .i64 0, .bool false, .slice none 0 0, .slice none 0 0, .slice none 0 0] 30 (0, 0)) from by rw [← hW]; exact (blk_set (blk_set HP1.out 2 _) 3 _).trans rfl)
  have HST2 := Aside0.mk (show St w0 x2 g r2 false from by rw [← hW]; exact (St_far (St_far HST1.out HGP.out hne2 2 _) HGP.out hne2 3 _))
  have HKP2 := Aside0.mk (show mdec.KP w x2 g gp from by rw [← hW]; exact (mdec.KP.set (mdec.KP.set HKP1.out 2 _) 3 _))
  clear hW HST1 HP1 HKP1 hp_0 hp_1 hp_2 hp_3 hp_4 hp_5 hp_6 hp_7 hp_8 hp_9 hp_10 hf_0 hf_1 hf_2 hf_3 hf_4 hf_5 hf_6 hf_7 hf_8 hf_9 hf_10
  obtain ⟨hp_0, hp_1, hp_2, hp_3, hp_4, hp_5, hp_6, hp_7, hp_8, hp_9, hp_10⟩ := Hand.Cz.c11 HP2.out
  go_wp2_with fail
  refine (mdec.spans w0 _ g r2 HST2.out o3 r3 n hn H3a.out H3b.out l [] H3c.out).mono ?_
  rintro e z1 ⟨vs, rfl, hR, ⟨A, c, hk⟩, hB, hkb⟩
  have HBG := Aside0.mk hk
  have HB := Aside0.mk hB
  have HR := Aside0.mk (Kd.R_lower hR HKP2.out.1)
  have HPz := Aside0.mk ((hkb.2 gp (blk_lt HP2.out) hne (by simp)).trans HP2.out)
  have HKz := Aside0.mk (HKP2.out.kb hkb)
  obtain ⟨As, cs_, rfl⟩ := Kd.R_slice hR
  clear hR hk hB hkb HST2 HP2 HKP2 hp_0 hp_1 hp_2 hp_3 hp_4 hp_5 hp_6 hp_7 hp_8 hp_9 hp_10
  obtain ⟨hp_0, hp_1, hp_2, hp_3, hp_4, hp_5, hp_6, hp_7, hp_8, hp_9, hp_10⟩ := Hand.Cz.c11 HPz.out
  obtain ⟨hf_0, hf_1, hf_2, hf_3, hf_4, hf_5, hf_6, hf_7, hf_8, hf_9, hf_10⟩ := Hand.Cz.f11 HPz.out
  go_wp2
  go_end0
  exact ⟨rfl, below_set HB.out HGP.out, ⟨A, c, blk_far HBG.out (p := ⟨gp, 8, none⟩) hne2 _⟩, HKz.out.set 8 _, _, _, _, (blk_set HPz.out 8 _).trans rfl, Kd.R_mono (Kd.R_far (p := ⟨gp, 8, none⟩) (Kd.R_types HR.out HPz.out (by decide)) (fun _ h => h.2) _) (fun _ _ => trivial), Kd.R_nil _ _ _ _ _, Kd.R_nil _ _ _ _ _⟩

/-- Numbers that are read one behind another; what is left. -/
def mdec.nks : Nat → List Int → Option (List Int × List Int)
  | 0, r => some ([], r)
  | n + 1, r => (nm r false).bind fun x => if x.2.2 = false then (mdec.nks n x.2.1).map fun y => (x.1 :: y.1, y.2) else none
def mdec.T46_30 : Bool × List (List Nat × List Nat) := (true, [([], []), ([], []), ([1], [1]), ([2], [2]), ([3], [3]), ([], []), ([5], [5]), ([6], [6]), ([4, 7, 6], [4, 7]), ([0, 0, 1, 2, 3, 4, 5, 6, 7, 8], [0]), ([9, 0, 1, 2, 3, 4, 5, 6, 7, 8], [9]), ([10, 8, 8, 0, 1, 2, 3, 4, 5, 6, 7, 8], [8, 10])])
def mdec.B46_30 : List Nat := [0, 0, 2, 6, 14, 0, 32, 96, 254, 511, 1023, 2047]
theorem mdec.tab46_30 : rtab .any (opsOf Try.f46 30) = mdec.T46_30 := by kernel_rfl
theorem mdec.bits46_30 : waitsOk mdec.T46_30.2 mdec.B46_30 = true := by kernel_rfl
set_option maxHeartbeats 8000000 in
set_option maxRecDepth 100000 in
theorem mdec.rest10 (w0 w : World) (g gp : Nat) (rest : List Int) (tr : Int) (n : Nat) (l : List Int) (r1 o1 : List Int) (hst : St w0 w g rest false) (hp : w.heap[gp]? = some (.cells #[.int .i64 10, .int .u64 tr, .int .u64 0, .int .u64 0, .int .u64 0, .int .u64 0, .int .i64 0, .bool false, .slice none 0 0, .slice none 0 0, .slice none 0 0] 30 (0, 0))) (hgp : w0.heap.size ≤ gp) (hne : gp ≠ g) (hn : n ≤ 255) (h1a : tk rest false 1 = (o1, r1, false)) (h1b : rd o1 0 = (n : Int)) (h1c : mdec.nks n r1 = some (l, [])) :
    Calls Try.prog 46 #[.pointer (some ⟨g, 0, none⟩), .pointer (some ⟨gp, 0, none⟩)] w fun e w' => e = .returned (.tuple #[]) ∧ mdec.RP w0 w w' g gp 10 tr 0 0 0 0 0 false [] [] l := by
  have hu30 := Try.underlying30
  have hu24 := Try.underlying24
  have hu51 := Try.underlying51
  have hu54 := Try.underlying54
  have hu57 := Try.underlying57
  have hu60 := Try.underlying60
  have hu63 := Try.underlying63
  have hu66 := Try.underlying66
  have hu69 := Try.underlying69
  have HST0 := Aside0.mk hst
  have HP0 := Aside0.mk hp
  have HGP := Aside0.mk hgp
  have hne2 : g ≠ gp := hne.symm
  have HKP0 := Aside0.mk (show mdec.KP w w g gp from ⟨Nat.le_refl _, fun _ _ _ _ => rfl⟩)
  have H1a := Aside0.mk h1a
  have H1b := Aside0.mk h1b
  have H1c := Aside0.mk h1c
  clear hst hp hgp h1a h1b h1c
  go_enter Try.func46, Try.ntmps46
  obtain ⟨hp_0, hp_1, hp_2, hp_3, hp_4, hp_5, hp_6, hp_7, hp_8, hp_9, hp_10⟩ := Hand.Cz.c11 HP0.out
  have HGL := Aside0.mk (show gp < w.heap.size from blk_lt HP0.out)
  have HGR := Aside0.mk (show g < w.heap.size from by obtain ⟨_, _, _, _, hk, _⟩ := HST0.out; exact blk_lt hk)
  have H0W := Aside0.mk HST0.out.1.size
  go_wp2_with fail
  refine (rsmall w0 _ g rest false HST0.out o1 r1 false (n : Int) H1a.out H1b.out (by omega) (by omega)).mono ?_
  rintro e y0 ⟨rfl, hst, hkb⟩
  have HST1 := Aside0.mk hst
  have HP1 := Aside0.mk ((hkb.2 gp (blk_lt HP0.out) hne (by simp)).trans HP0.out)
  have HKP1 := Aside0.mk (HKP0.out.kb hkb)
  clear hst hkb HST0 HP0 HKP0 hp_0 hp_1 hp_2 hp_3 hp_4 hp_5 hp_6 hp_7 hp_8 hp_9 hp_10
  obtain ⟨hp_0, hp_1, hp_2, hp_3, hp_4, hp_5, hp_6, hp_7, hp_8, hp_9, hp_10⟩ := Hand.Cz.c11 HP1.out
  clear hp_0 hp_1 hp_2 hp_3 hp_4 hp_5 hp_6 hp_7 hp_8 hp_9 hp_10
  go_wp2
  go_loopw [113] (fun i wr => ∃ k : Nat, k ≤ n ∧ i = .int .i64 k ∧ ∃ (pre post : List Int) (rst : List Int) (v : Value), Aside0 (mdec.nks (n - k) rst = some (post, [])) ∧ Aside0 (pre ++ post = l) ∧ Aside0 (St w0 wr g rst false) ∧ Aside0 (wr.heap[gp]? = some (.cells #[.int .i64 10, .int .u64 tr, .int .u64 0, .int .u64 0, .int .u64 0, .int .u64 0, .int .i64 0, .bool false, .slice none 0 0, .slice none 0 0, v] 30 (0, 0))) ∧ Aside0 (mdec.KP w wr g gp) ∧ Aside0 (Kd.R (Kd.int .u64) 22 wr w.heap.size (fun _ => True) v pre) ∧ Aside0 (pre.length = k)) (fun i _ => n - (intOf i).toNat)
  case atStart => exact ⟨0, Nat.zero_le _, rfl, [], l, r1, _, H1c, ⟨rfl⟩, HST1, HP1, HKP1, ⟨Kd.R_nil _ _ _ _ _⟩, ⟨rfl⟩⟩
  case round =>
    clear H1c HST1 HP1 HKP1
    obtain ⟨k, hk, rfl, pre, post, rst, v, HCT, HPL, HST, HP, HKP, HO, HLN⟩ := hrel
    by_cases hlt : k < n
    · have hct := HCT.out
      rw [show n - k = (n - (k + 1)) + 1 by omega, mdec.nks] at hct
      obtain ⟨⟨x, r9, kd⟩, hcu, hct⟩ := Option.bind_eq_some_iff.1 hct
      simp only at hct
      obtain rfl : kd = false := by cases kd; rfl; (rw [if_neg (by decide)] at hct; exact absurd hct (by simp))
      rw [if_pos rfl] at hct
      obtain ⟨⟨post2, fin2⟩, hct2, he⟩ := Option.map_eq_some_iff.1 hct
      obtain ⟨rfl, rfl⟩ := Prod.mk.inj he
      have HCU := Aside0.mk hcu
      have HCT2 := Aside0.mk hct2
      clear HCT hct hct2 hcu he
      obtain ⟨Av, cv, rfl⟩ := Kd.R_slice HO.out
      have hltb : decide ((k : Int) < (n : Int)) = true := decide_eq_true (by omega)
      have HLA := Aside0.mk (show (pre.length + 1) * 8 ≤ 140737488355328 by have := HLN.out; omega)
      go_wp2
      have HSTd := Aside0.mk (St_below HST.out (below_drew1 (Below.refl _ _)))
      have HOd := Aside0.mk (Kd.R_drew HO.out)
      have HKPd := Aside0.mk (mdec.KP.below HKP.out (below_drew1 (Below.refl _ _)))
      refine start_ (n := 12) (S := fun w' => w'.heap[gp]? = some (.cells #[.int .i64 10, .int .u64 tr, .int .u64 0, .int .u64 0, .int .u64 0, .int .u64 0, .int .i64 0, .bool false, .slice none 0 0, .slice none 0 0, .slice Av pre.length cv] 30 (0, 0))) (ds := [11]) #[false, false, false, false, false, false, false, false, false, false, false, false] (by kernel_rfl) rfl rfl (blk_drew HP.out) (fun hHeld => ?_)
      refine with_tabW mdec.tab46_30 mdec.bits46_30 (fun HT_ HW_ => ?_)
      generalize wr.drew = wd at hHeld HSTd HOd HKPd ⊢
      clear HST HP HO HKP
      refine pure_ (i := 0) (N := some 115) (v := ?_) (a' := ?_) #[true, false, false, false, false, false, false, false, false, false, false, false] rfl rfl (any_of HT_.out (by kernel_rfl)) (fun _ _ _ h => h) (Or.inl ⟨by rfl, ?_⟩) ?_ ?_
      rotate_left
      · intro w'
        go_simp
        with_reducible rfl
      rotate_left
      · simp only [Act.put, List.setIfInBounds_toArray, List.set_cons_zero, List.set_cons_succ, i64_w, i32_w]
        rfl
      refine pure_ (i := 1) (N := some 116) (v := ?_) (a' := ?_) #[true, true, false, false, false, false, false, false, false, false, false, false] rfl rfl (any_of HT_.out (by kernel_rfl)) (fun _ _ _ h => h) (Or.inl ⟨by rfl, ?_⟩) ?_ ?_
      rotate_left
      · intro w'
        go_simp
        with_reducible rfl
      rotate_left
      · simp only [Act.put, List.setIfInBounds_toArray, List.set_cons_zero, List.set_cons_succ, i64_w, i32_w]
        rfl
      refine pure_ (i := 2) (N := some 117) (v := ?_) (a' := ?_) #[true, true, true, false, false, false, false, false, false, false, false, false] rfl rfl (any_of HT_.out (by kernel_rfl)) (fun _ _ _ h => h) (Or.inl ⟨by rfl, ?_⟩) ?_ ?_
      rotate_left
      · intro w'
        go_simp
        with_reducible rfl
      rotate_left
      · simp only [Act.put, List.setIfInBounds_toArray, List.set_cons_zero, List.set_cons_succ, i64_w, i32_w]
        rfl
      refine pure_ (i := 3) (N := some 118) (v := ?_) (a' := ?_) #[true, true, true, true, false, false, false, false, false, false, false, false] rfl rfl (any_of HT_.out (by kernel_rfl)) (fun _ _ _ h => h) (Or.inl ⟨by rfl, ?_⟩) ?_ ?_
      rotate_left
      · intro w'
        go_simp
        with_reducible rfl
      rotate_left
      · simp only [Act.put, List.setIfInBounds_toArray, List.set_cons_zero, List.set_cons_succ, i64_w, i32_w]
        rfl
      refine take_ (i := 4) (N := some 119) (v := ?_) (a' := ?_) #[true, true, true, true, true, false, false, false, false, false, false, false] rfl rfl (take_ofW HT_.out HW_.out (by kernel_rfl)) (fun _ _ _ h => h) (Or.inl ⟨by rfl, ?_⟩) hHeld ?_ ?_
      rotate_left
      · rintro w' E
        have z10 : w'.cell? ⟨gp, 10, none⟩ = some (.slice Av pre.length cv) := (blk_cell E 10).trans rfl
        go_simp
        with_reducible rfl
      rotate_left
      · simp only [Act.put, List.setIfInBounds_toArray, List.set_cons_zero, List.set_cons_succ, i64_w, i32_w]
        rfl
      refine pure_ (i := 5) (N := some 120) (v := ?_) (a' := ?_) #[true, true, true, true, true, true, false, false, false, false, false, false] rfl rfl (any_of HT_.out (by kernel_rfl)) (fun _ _ _ h => h) (Or.inl ⟨by rfl, ?_⟩) ?_ ?_
      rotate_left
      · intro w'
        go_simp
        with_reducible rfl
      rotate_left
      · simp only [Act.put, List.setIfInBounds_toArray, List.set_cons_zero, List.set_cons_succ, i64_w, i32_w]
        rfl
      refine one_ (i := 6) (N := some 121) #[true, true, true, true, true, true, true, false, false, false, false, false] rfl rfl (one_of HT_.out (by kernel_rfl)) (by decide) (fun K hK => ?_)
      refine goes_ Try.func45 (by kernel_rfl) rfl #[.pointer (some ⟨g, 0, none⟩)] (by rfl) rfl rfl (by (try simp only [List.map_toArray, List.map_cons, List.map_nil]); first | done | rfl) ?_
      with_reducible refine (number w0 _ g rst false HSTd.out (x, r9, false) HCU.out).mono ?_
      rintro e w5 ⟨rfl, hst, hkb⟩
      refine ⟨_, rfl, ?_⟩
      have HP5 := Aside0.mk ((hkb.2 gp (blk_lt hHeld) hne (by simp)).trans hHeld)
      have HST5 := Aside0.mk hst
      have HKP5 := Aside0.mk (HKPd.out.kb hkb)
      have HO5 := Aside0.mk (Kd.R_mono (ok' := fun _ => True) (Kd.R_keep (Kd.R_types HOd.out HSTd.out.2.2.choose_spec.choose_spec.1 (by decide)) hkb (fun _ h => h.2)) (fun _ _ => trivial))
      refine hK.out _ _ ((hkb.2 gp (blk_lt hHeld) hne (by simp)).trans hHeld) (fun hHeld => ?_)
      clear hK K
      refine norm_ (a' := ?_) ?_ ?_
      rotate_left
      · show Act.put _ (some 121) _ = _
        simp only [Act.put, List.setIfInBounds_toArray, List.set_cons_zero, List.set_cons_succ, i64_w, i32_w]
        rfl
      refine one_ (i := 7) (N := some 122) #[true, true, true, true, true, true, true, true, false, false, false, false] rfl rfl (one_of HT_.out (by kernel_rfl)) (by decide) (fun K hK => ?_)
      refine value_ (w1 := ?_) (v := ?_) (by rfl) rfl ?_ ?_
      rotate_left 2
      · go_simp
        constructor
        · rfl
        · rfl
      refine hK.out _ _ (blk_alloc hHeld _) (fun hHeld => ?_)
      clear hK K
      refine norm_ (a' := ?_) ?_ ?_
      rotate_left
      · show Act.put _ (some 122) _ = _
        simp only [Act.put, List.setIfInBounds_toArray, List.set_cons_zero, List.set_cons_succ, i64_w, i32_w]
        rfl
      refine one_ (i := 8) (N := some 123) #[true, true, true, true, true, true, true, true, true, false, false, false] rfl rfl (one_of HT_.out (by kernel_rfl)) (by decide) (fun K hK => ?_)
      refine Kd.R_append_step (Kd.int .u64) (w0 := w5) w.heap.size (by rfl) (.tmp 119) (.tmp 122) 28 22 (.int .u64 0) 8 rfl Try.underlying28 info22 rfl (by decide) (by decide) (.slice Av pre.length cv) pre x [.int .u64 x] (fun _ => True) (fun _ => False) rfl rfl rfl (fun _ hk => hk.elim) (fun _ _ => trivial) HO5.out (Below.refl _ _) HKP5.out.1 HLA.out ?_
      intro v9 w9 ho hb hg hat
      obtain ⟨Aw, cw, rfl⟩ := Kd.R_slice ho
      have HO9 := Aside0.mk ho
      have HB9 := Aside0.mk hb
      clear ho hg hat
      refine hK.out _ _ ((hb.block gp HGL.out).trans HP5.out) (fun hHeld => ?_)
      clear hK K
      refine norm_ (a' := ?_) ?_ ?_
      rotate_left
      · show Act.put _ (some 123) _ = _
        simp only [Act.put, List.setIfInBounds_toArray, List.set_cons_zero, List.set_cons_succ, i64_w, i32_w]
        rfl
      refine pure_ (i := 9) (N := some 124) (v := ?_) (a' := ?_) #[true, true, true, true, true, true, true, true, true, true, false, false] rfl rfl (any_of HT_.out (by kernel_rfl)) (fun _ _ _ h => h) (Or.inl ⟨by rfl, ?_⟩) ?_ ?_
      rotate_left
      · intro w'
        go_simp
        with_reducible rfl
      rotate_left
      · simp only [Act.put, List.setIfInBounds_toArray, List.set_cons_zero, List.set_cons_succ, i64_w, i32_w]
        rfl
      refine pure_ (i := 10) (N := some 125) (v := ?_) (a' := ?_) #[true, true, true, true, true, true, true, true, true, true, true, false] rfl rfl (any_of HT_.out (by kernel_rfl)) (fun _ _ _ h => h) (Or.inl ⟨by rfl, ?_⟩) ?_ ?_
      rotate_left
      · intro w'
        go_simp
        with_reducible rfl
      rotate_left
      · simp only [Act.put, List.setIfInBounds_toArray, List.set_cons_zero, List.set_cons_succ, i64_w, i32_w]
        rfl
      refine last_ (i := 11) (N := none) #[true, true, true, true, true, true, true, true, true, true, true, true] rfl rfl (one_of HT_.out (by kernel_rfl)) (by decide) (fun K hK => ?_)
      obtain ⟨hs_0, hs_1, hs_2, hs_3, hs_4, hs_5, hs_6, hs_7, hs_8, hs_9, hs_10⟩ := Hand.Cz.c11 hHeld
      obtain ⟨hf_0, hf_1, hf_2, hf_3, hf_4, hf_5, hf_6, hf_7, hf_8, hf_9, hf_10⟩ := Hand.Cz.f11 hHeld
      refine skip_ (w1 := ?_) (by rfl) rfl ?_ ?_
      rotate_left
      · go_simp
        rfl
      refine hK.out _ _ ?_
      clear hK K
      refine done_ (done_of HT_.out (by kernel_rfl)) ?_
      have HH := Aside0.mk hHeld
      clear hHeld hs_0 hs_1 hs_2 hs_3 hs_4 hs_5 hs_6 hs_7 hs_8 hs_9 hs_10 hf_0 hf_1 hf_2 hf_3 hf_4 hf_5 hf_6 hf_7 hf_8 hf_9 hf_10
      go_wp2
      go_roundw
      case rel =>
        refine ⟨k + 1, by omega, by go_num, pre ++ [x], post2, r9, _, HCT2, ⟨by rw [List.append_assoc]; exact HPL.out⟩, ⟨St_far (mdec.St_more HST5.out HGR.out H0W.out HB9.out) HGP.out hne2 10 _⟩, ⟨(blk_set HH.out 10 _).trans rfl⟩, ⟨(HKP5.out.below HB9.out).set 10 _⟩, ⟨?_⟩, ⟨by rw [List.length_append, List.length_singleton, HLN.out]⟩⟩
        have hq := Kd.R_far (p := ⟨gp, 10, none⟩) (Kd.R_types HO9.out HH.out (by decide)) (fun _ h => h.2) (.slice Aw (pre ++ [x]).length cw)
        rw [List.length_append, List.length_singleton] at hq
        exact Kd.R_mono hq (fun _ _ => trivial)
      case measure => simp [intOf]; omega
    · obtain rfl : k = n := by omega
      have hct := HCT.out
      rw [Nat.sub_self, mdec.nks] at hct
      obtain ⟨rfl, rfl⟩ := Prod.mk.inj (Option.some.inj hct)
      have hpl := HPL.out
      rw [List.append_nil] at hpl
      subst hpl
      clear hct HCT HPL
      have hltb : decide ((k : Int) < (k : Int)) = false := decide_eq_false (by omega)
      go_wp2
      go_end0
      obtain ⟨hB, _, A, c, hk, _⟩ := HST.out
      exact ⟨rfl, hB, ⟨A, c, hk⟩, HKP.out, _, _, _, HP.out, Kd.R_nil _ _ _ _ _, Kd.R_nil _ _ _ _ _, HO.out⟩

/-- Members that are read one behind another; what is left. -/
def mdec.mks : Nat → List Int → Option (List S92 × List Int)
  | 0, r => some ([], r)
  | n + 1, r => (nm r false).bind fun x => if x.2.2 = false then (nm x.2.1 false).bind fun y => if y.2.2 = false ∧ (tk y.2.1 false 1).2.2 = false ∧ 0 ≤ rd (tk y.2.1 false 1).1 0 ∧ rd (tk y.2.1 false 1).1 0 < 256 then (mdec.mks n (tk y.2.1 false 1).2.1).map fun z => (⟨x.1, y.1, rd (tk y.2.1 false 1).1 0⟩ :: z.1, z.2) else none else none
def mdec.T46_9 : Bool × List (List Nat × List Nat) := (true, [([], []), ([], []), ([1], [1]), ([2], [2]), ([3], [3]), ([], []), ([5], [5]), ([4, 6], [4, 6]), ([0, 0, 1, 2, 3, 4, 5, 6, 7], [0]), ([8, 0, 1, 2, 3, 4, 5, 6, 7], [8]), ([9, 7, 7, 0, 1, 2, 3, 4, 5, 6, 7], [7, 9])])
def mdec.B46_9 : List Nat := [0, 0, 2, 6, 14, 0, 32, 126, 255, 511, 1023]
theorem mdec.tab46_9 : rtab .any (opsOf Try.f46 9) = mdec.T46_9 := by kernel_rfl
theorem mdec.bits46_9 : waitsOk mdec.T46_9.2 mdec.B46_9 = true := by kernel_rfl
set_option maxHeartbeats 8000000 in
set_option maxRecDepth 100000 in
theorem mdec.rest3 (w0 w : World) (g gp : Nat) (rest : List Int) (n : Nat) (l : List S92) (r1 o1 : List Int) (hst : St w0 w g rest false) (hp : w.heap[gp]? = some (.cells #[.int .i64 3, .int .u64 0, .int .u64 0, .int .u64 0, .int .u64 0, .int .u64 0, .int .i64 0, .bool false, .slice none 0 0, .slice none 0 0, .slice none 0 0] 30 (0, 0))) (hgp : w0.heap.size ≤ gp) (hne : gp ≠ g) (hn : n ≤ 255) (h1a : tk rest false 1 = (o1, r1, false)) (h1b : rd o1 0 = (n : Int)) (h1c : mdec.mks n r1 = some (l, [])) :
    Calls Try.prog 46 #[.pointer (some ⟨g, 0, none⟩), .pointer (some ⟨gp, 0, none⟩)] w fun e w' => e = .returned (.tuple #[]) ∧ mdec.RP w0 w w' g gp 3 0 0 0 0 0 0 false [] l [] := by
  have hu30 := Try.underlying30
  have hu24 := Try.underlying24
  have hu51 := Try.underlying51
  have hu54 := Try.underlying54
  have hu57 := Try.underlying57
  have hu60 := Try.underlying60
  have hu63 := Try.underlying63
  have hu66 := Try.underlying66
  have hu69 := Try.underlying69
  have hu92 := Try.underlying92
  have HST0 := Aside0.mk hst
  have HP0 := Aside0.mk hp
  have HGP := Aside0.mk hgp
  have hne2 : g ≠ gp := hne.symm
  have HKP0 := Aside0.mk (show mdec.KP w w g gp from ⟨Nat.le_refl _, fun _ _ _ _ => rfl⟩)
  have H1a := Aside0.mk h1a
  have H1b := Aside0.mk h1b
  have H1c := Aside0.mk h1c
  have HGL := Aside0.mk (show gp < w.heap.size from blk_lt HP0.out)
  have HGR := Aside0.mk (show g < w.heap.size from by obtain ⟨_, _, _, _, hk, _⟩ := HST0.out; exact blk_lt hk)
  have H0W := Aside0.mk HST0.out.1.size
  clear hst hp hgp h1a h1b h1c
  go_enter Try.func46, Try.ntmps46
  obtain ⟨hp_0, hp_1, hp_2, hp_3, hp_4, hp_5, hp_6, hp_7, hp_8, hp_9, hp_10⟩ := Hand.Cz.c11 HP0.out
  go_wp2_with fail
  refine (rsmall w0 _ g rest false HST0.out o1 r1 false (n : Int) H1a.out H1b.out (by omega) (by omega)).mono ?_
  rintro e y0 ⟨rfl, hst, hkb⟩
  have HST1 := Aside0.mk hst
  have HP1 := Aside0.mk ((hkb.2 gp (blk_lt HP0.out) hne (by simp)).trans HP0.out)
  have HKP1 := Aside0.mk (HKP0.out.kb hkb)
  clear hst hkb HST0 HP0 HKP0 hp_0 hp_1 hp_2 hp_3 hp_4 hp_5 hp_6 hp_7 hp_8 hp_9 hp_10
  go_wp2
  go_loopw [21] (fun i wr => ∃ k : Nat, k ≤ n ∧ i = .int .i64 k ∧ ∃ (pre post : List S92) (rst : List Int) (v : Value), Aside0 (mdec.mks (n - k) rst = some (post, [])) ∧ Aside0 (pre ++ post = l) ∧ Aside0 (St w0 wr g rst false) ∧ Aside0 (wr.heap[gp]? = some (.cells #[.int .i64 3, .int .u64 0, .int .u64 0, .int .u64 0, .int .u64 0, .int .u64 0, .int .i64 0, .bool false, .slice none 0 0, v, .slice none 0 0] 30 (0, 0))) ∧ Aside0 (mdec.KP w wr g gp) ∧ Aside0 (Kd.R k92 92 wr w.heap.size (fun _ => True) v pre) ∧ Aside0 (pre.length = k)) (fun i _ => n - (intOf i).toNat)
  case atStart => exact ⟨0, Nat.zero_le _, rfl, [], l, r1, _, H1c, ⟨rfl⟩, HST1, HP1, HKP1, ⟨Kd.R_nil _ _ _ _ _⟩, ⟨rfl⟩⟩
  case round =>
    clear H1c HST1 HP1 HKP1
    obtain ⟨k, hk, rfl, pre, post, rst, v, HCT, HPL, HST, HP, HKP, HO, HLN⟩ := hrel
    by_cases hlt : k < n
    · have hct := HCT.out
      rw [show n - k = (n - (k + 1)) + 1 by omega, mdec.mks] at hct
      obtain ⟨⟨x, r8, b8⟩, hcu, hct⟩ := Option.bind_eq_some_iff.1 hct
      simp only at hct
      obtain rfl : b8 = false := by cases b8; rfl; (rw [if_neg (by decide)] at hct; exact absurd hct (by simp))
      rw [if_pos rfl] at hct
      obtain ⟨⟨y, r9, b9⟩, hcv, hct⟩ := Option.bind_eq_some_iff.1 hct
      simp only at hct
      have hcc : b9 = false ∧ (tk r9 false 1).2.2 = false ∧ 0 ≤ rd (tk r9 false 1).1 0 ∧ rd (tk r9 false 1).1 0 < 256 := by by_cases q : b9 = false ∧ (tk r9 false 1).2.2 = false ∧ 0 ≤ rd (tk r9 false 1).1 0 ∧ rd (tk r9 false 1).1 0 < 256; exact q; (rw [if_neg q] at hct; exact absurd hct (by simp))
      rw [if_pos hcc] at hct
      obtain ⟨rfl, hb1, z0, z1⟩ := hcc
      have htk : tk r9 false 1 = ((tk r9 false 1).1, (tk r9 false 1).2.1, false) := Prod.ext rfl (Prod.ext rfl hb1)
      generalize (tk r9 false 1).1 = ob at *
      generalize (tk r9 false 1).2.1 = r10 at *
      obtain ⟨zz, hz⟩ : ∃ zz, zz = rd ob 0 := ⟨_, rfl⟩
      rw [← hz] at hct z0 z1
      obtain ⟨⟨post2, fin2⟩, hct2, he⟩ := Option.map_eq_some_iff.1 hct
      obtain ⟨rfl, rfl⟩ := Prod.mk.inj he
      have HCU := Aside0.mk hcu
      have HCV := Aside0.mk hcv
      have HTK := Aside0.mk htk
      have HZ := Aside0.mk hz.symm
      have HCT2 := Aside0.mk hct2
      clear HCT hct hct2 hcu hcv he hb1 htk hz
      obtain ⟨Av, cv, rfl⟩ := Kd.R_slice HO.out
      have hltb : decide ((k : Int) < (n : Int)) = true := decide_eq_true (by omega)
      have HLA := Aside0.mk (show (pre.length + 1) * 24 ≤ 140737488355328 by have := HLN.out; omega)
      go_wp2_with fail
      refine (number w0 _ g rst false HST.out (x, r8, false) HCU.out).mono ?_
      rintro e y1 ⟨rfl, hst, hkb⟩
      have HO1 := Aside0.mk (Kd.R_keep (Kd.R_types HO.out HST.out.2.2.choose_spec.choose_spec.1 (by decide)) hkb (fun _ h => h.2))
      have HSTa := Aside0.mk hst
      have HPa := Aside0.mk ((hkb.2 gp (blk_lt HP.out) hne (by simp)).trans HP.out)
      have HKPa := Aside0.mk (HKP.out.kb hkb)
      clear hst hkb HST HP HKP HO
      go_upto_region 8 with ((with_reducible refine gate_dst (N := 4) rfl ?_); refine box_event ?hg (N := 4) ?hd (cs := #[.int .u64 0, .int .u64 0, .int .i64 0]) (t := 92) ?hr ?_; (case hd => rfl); (case hg => rfl); (case hr => first | (go_simp; done) | (go_simp; rfl)); intro gm hg y2 hbox hb; have NG := Aside0.mk (show g ≠ gm from by have := HGR.out; have := HKPa.out.1; omega); have NP := Aside0.mk (show gp ≠ gm from by have := HGL.out; have := HKPa.out.1; omega); have GW := Aside0.mk (show w.heap.size ≤ gm from by rw [hg]; exact HKPa.out.1); have GO := Aside0.mk (show w0.heap.size ≤ gm from by rw [hg]; exact HSTa.out.1.size); have HSTb := Aside0.mk (St_below HSTa.out hb); have HPb := Aside0.mk (blk_below HPa.out hb); have HKPb := Aside0.mk (HKPa.out.kb (KeepBut.of_below hb g none)); have HOb := Aside0.mk (mdec.R_new HO1.out hb (Nat.le_of_eq hg.symm)); have BX := Aside0.mk hbox; clear hbox hb hg; obtain ⟨hx_0, hx_1, hx_2⟩ := Hand.Cz.c3 BX.out; obtain ⟨hf_0, hf_1, hf_2⟩ := Hand.Cz.f3 BX.out)
      generalize hW : World.setCell _ (Addr.mk gm 2 none) _ = y3
      have BX3 := Aside0.mk (show y3.heap[gm]? = some (.cells #[.int .u64 x, .int .u64 0, .int .i64 0] 92 (0, 0)) from by rw [← hW]; exact Hand.Cz.p3 BX.out)
      have HST3 := Aside0.mk (show St w0 y3 g r8 false from by rw [← hW]; exact St_far (St_far (St_far HSTb.out GO.out NG.out 0 _) GO.out NG.out 1 _) GO.out NG.out 2 _)
      have HP3 := Aside0.mk (show y3.heap[gp]? = some (.cells #[.int .i64 3, .int .u64 0, .int .u64 0, .int .u64 0, .int .u64 0, .int .u64 0, .int .i64 0, .bool false, .slice none 0 0, .slice Av pre.length cv, .slice none 0 0] 30 (0, 0)) from by rw [← hW]; exact Hand.Cz.o3 HPb.out NP.out)
      have HKP3 := Aside0.mk (show mdec.KP w y3 g gp from by rw [← hW]; exact ((HKPb.out.far GW.out 0 _).far GW.out 1 _).far GW.out 2 _)
      have HO3 := Aside0.mk (show Kd.R k92 92 y3 w.heap.size (fun k => k ≠ gm) (.slice Av pre.length cv) pre from by rw [← hW]; exact Hand.Cz.r3 HOb.out)
      clear hW BX HSTb HPb HKPb HOb HSTa HPa HKPa HO1 hx_0 hx_1 hx_2 hf_0 hf_1 hf_2
      go_wp2_with fail
      refine (number w0 _ g r8 false HST3.out (y, r9, false) HCV.out).mono ?_
      rintro e y4 ⟨rfl, hst, hkb⟩
      have HO4 := Aside0.mk (Kd.R_mono (ok' := fun k => k ≠ gm) (Kd.R_keep (Kd.R_types HO3.out HST3.out.2.2.choose_spec.choose_spec.1 (by decide)) hkb (fun _ h => h.2)) (fun _ h => h.1))
      have HST4 := Aside0.mk hst
      have HP4 := Aside0.mk ((hkb.2 gp (blk_lt HP3.out) hne (by simp)).trans HP3.out)
      have HKP4 := Aside0.mk (HKP3.out.kb hkb)
      have BX4 := Aside0.mk ((hkb.2 gm (blk_lt BX3.out) NG.out.symm (by simp)).trans BX3.out)
      clear hst hkb HST3 HP3 HKP3 HO3 BX3
      go_wp2_with fail
      refine (rsmall w0 _ g r9 false HST4.out ob r10 false zz HTK.out HZ.out z0 z1).mono ?_
      rintro e y5 ⟨rfl, hst, hkb⟩
      have HO5 := Aside0.mk (Kd.R_mono (ok' := fun k => k ≠ gm) (Kd.R_keep (Kd.R_types HO4.out HST4.out.2.2.choose_spec.choose_spec.1 (by decide)) hkb (fun _ h => h.2)) (fun _ h => h.1))
      have HST5 := Aside0.mk hst
      have HP5 := Aside0.mk ((hkb.2 gp (blk_lt HP4.out) hne (by simp)).trans HP4.out)
      have HKP5 := Aside0.mk (HKP4.out.kb hkb)
      have BX5 := Aside0.mk ((hkb.2 gm (blk_lt BX4.out) NG.out.symm (by simp)).trans BX4.out)
      clear hst hkb HST4 HP4 HKP4 HO4 BX4
      obtain ⟨hx_0, hx_1, hx_2⟩ := Hand.Cz.c3 BX5.out
      obtain ⟨hf_0, hf_1, hf_2⟩ := Hand.Cz.f3 BX5.out
      go_upto_region 9 with fail
      generalize hW : World.setCell _ (Addr.mk gm 2 none) _ = y6
      have BX6 := Aside0.mk (show y6.heap[gm]? = some (.cells #[.int .u64 x, .int .u64 y, .int .i64 zz] 92 (0, 0)) from by rw [← hW]; exact (blk_set (blk_set BX5.out 1 _) 2 _).trans rfl)
      have HST6 := Aside0.mk (show St w0 y6 g r10 false from by rw [← hW]; exact St_far (St_far HST5.out GO.out NG.out 1 _) GO.out NG.out 2 _)
      have HP6 := Aside0.mk (show y6.heap[gp]? = some (.cells #[.int .i64 3, .int .u64 0, .int .u64 0, .int .u64 0, .int .u64 0, .int .u64 0, .int .i64 0, .bool false, .slice none 0 0, .slice Av pre.length cv, .slice none 0 0] 30 (0, 0)) from by rw [← hW]; exact blk_far (blk_far HP5.out (p := ⟨gm, 1, none⟩) NP.out _) (p := ⟨gm, 2, none⟩) NP.out _)
      have HKP6 := Aside0.mk (show mdec.KP w y6 g gp from by rw [← hW]; exact (HKP5.out.far GW.out 1 _).far GW.out 2 _)
      have HO6 := Aside0.mk (show Kd.R k92 92 y6 w.heap.size (fun k => k ≠ gm) (.slice Av pre.length cv) pre from by rw [← hW]; exact Kd.R_far (p := ⟨gm, 2, none⟩) (Kd.R_far (p := ⟨gm, 1, none⟩) HO5.out (fun _ h => h) _) (fun _ h => h) _)
      clear hW BX5 HST5 HP5 HKP5 HO5 hx_0 hx_1 hx_2 hf_0 hf_1 hf_2
      have HSTd := Aside0.mk (St_below HST6.out (below_drew1 (Below.refl _ _)))
      have HOd := Aside0.mk (Kd.R_drew HO6.out)
      have HKPd := Aside0.mk (mdec.KP.below HKP6.out (below_drew1 (Below.refl _ _)))
      refine start_ (n := 11) (S := fun w' => w'.heap[gp]? = some (.cells #[.int .i64 3, .int .u64 0, .int .u64 0, .int .u64 0, .int .u64 0, .int .u64 0, .int .i64 0, .bool false, .slice none 0 0, .slice Av pre.length cv, .slice none 0 0] 30 (0, 0)) ∧ w'.heap[gm]? = some (.cells #[.int .u64 x, .int .u64 y, .int .i64 zz] 92 (0, 0))) (ds := [10]) #[false, false, false, false, false, false, false, false, false, false, false] (by kernel_rfl) rfl rfl ⟨blk_drew HP6.out, blk_drew BX6.out⟩ (fun hHeld => ?_)
      refine with_tabW mdec.tab46_9 mdec.bits46_9 (fun HT_ HW_ => ?_)
      generalize y6.drew = wd at hHeld HSTd HOd HKPd ⊢
      clear HST6 HP6 HO6 HKP6 BX6
      have HHd := Aside0.mk hHeld
      have GML := Aside0.mk (show gm < wd.heap.size from blk_lt hHeld.2)
      refine pure_ (i := 0) (N := some 32) (v := ?_) (a' := ?_) #[true, false, false, false, false, false, false, false, false, false, false] rfl rfl (any_of HT_.out (by kernel_rfl)) (fun _ _ _ h => h) (Or.inl ⟨by rfl, ?_⟩) ?_ ?_
      rotate_left
      · intro w'
        go_simp
        with_reducible rfl
      rotate_left
      · simp only [Act.put, List.setIfInBounds_toArray, List.set_cons_zero, List.set_cons_succ, i64_w, i32_w]
        rfl
      refine pure_ (i := 1) (N := some 33) (v := ?_) (a' := ?_) #[true, true, false, false, false, false, false, false, false, false, false] rfl rfl (any_of HT_.out (by kernel_rfl)) (fun _ _ _ h => h) (Or.inl ⟨by rfl, ?_⟩) ?_ ?_
      rotate_left
      · intro w'
        go_simp
        with_reducible rfl
      rotate_left
      · simp only [Act.put, List.setIfInBounds_toArray, List.set_cons_zero, List.set_cons_succ, i64_w, i32_w]
        rfl
      refine pure_ (i := 2) (N := some 34) (v := ?_) (a' := ?_) #[true, true, true, false, false, false, false, false, false, false, false] rfl rfl (any_of HT_.out (by kernel_rfl)) (fun _ _ _ h => h) (Or.inl ⟨by rfl, ?_⟩) ?_ ?_
      rotate_left
      · intro w'
        go_simp
        with_reducible rfl
      rotate_left
      · simp only [Act.put, List.setIfInBounds_toArray, List.set_cons_zero, List.set_cons_succ, i64_w, i32_w]
        rfl
      refine pure_ (i := 3) (N := some 35) (v := ?_) (a' := ?_) #[true, true, true, true, false, false, false, false, false, false, false] rfl rfl (any_of HT_.out (by kernel_rfl)) (fun _ _ _ h => h) (Or.inl ⟨by rfl, ?_⟩) ?_ ?_
      rotate_left
      · intro w'
        go_simp
        with_reducible rfl
      rotate_left
      · simp only [Act.put, List.setIfInBounds_toArray, List.set_cons_zero, List.set_cons_succ, i64_w, i32_w]
        rfl
      refine take_ (i := 4) (N := some 36) (v := ?_) (a' := ?_) #[true, true, true, true, true, false, false, false, false, false, false] rfl rfl (take_ofW HT_.out HW_.out (by kernel_rfl)) (fun _ _ _ h => h) (Or.inl ⟨by rfl, ?_⟩) hHeld ?_ ?_
      rotate_left
      · rintro w' ⟨E, X⟩
        have z9 : w'.cell? ⟨gp, 9, none⟩ = some (.slice Av pre.length cv) := (blk_cell E 9).trans rfl
        go_simp
        with_reducible rfl
      rotate_left
      · simp only [Act.put, List.setIfInBounds_toArray, List.set_cons_zero, List.set_cons_succ, i64_w, i32_w]
        rfl
      refine take_ (i := 5) (N := some 37) (v := ?_) (a' := ?_) #[true, true, true, true, true, true, false, false, false, false, false] rfl rfl (take_ofW HT_.out HW_.out (by kernel_rfl)) (fun _ _ _ h => h) (Or.inl ⟨by rfl, ?_⟩) hHeld ?_ ?_
      rotate_left
      · rintro w' ⟨E, X⟩
        have z0 : w'.cell? ⟨gm, 0, none⟩ = some (.int .u64 x) := (blk_cell X 0).trans rfl
        have z1 : w'.cell? ⟨gm, 1, none⟩ = some (.int .u64 y) := (blk_cell X 1).trans rfl
        have z2 : w'.cell? ⟨gm, 2, none⟩ = some (.int .i64 zz) := (blk_cell X 2).trans rfl
        go_simp
        with_reducible rfl
      rotate_left
      · simp only [Act.put, List.setIfInBounds_toArray, List.set_cons_zero, List.set_cons_succ, i64_w, i32_w]
        rfl
      refine one_ (i := 6) (N := some 38) #[true, true, true, true, true, true, true, false, false, false, false] rfl rfl (one_of HT_.out (by kernel_rfl)) (by decide) (fun K hK => ?_)
      refine value_ (w1 := ?_) (v := ?_) (by rfl) rfl ?_ ?_
      rotate_left 2
      · go_simp
        constructor
        · rfl
        · rfl
      refine hK.out _ _ ⟨blk_alloc hHeld.1 _, blk_alloc hHeld.2 _⟩ (fun hHeld => ?_)
      clear hK K
      refine norm_ (a' := ?_) ?_ ?_
      rotate_left
      · show Act.put _ (some 38) _ = _
        simp only [Act.put, List.setIfInBounds_toArray, List.set_cons_zero, List.set_cons_succ, i64_w, i32_w]
        rfl
      refine one_ (i := 7) (N := some 39) #[true, true, true, true, true, true, true, true, false, false, false] rfl rfl (one_of HT_.out (by kernel_rfl)) (by decide) (fun K hK => ?_)
      refine Kd.R_append_step k92 (w0 := wd) w.heap.size (by rfl) (.tmp 36) (.tmp 38) 27 92 (.agg #[.int .u64 0, .int .u64 0, .int .i64 0]) 24 rfl Try.underlying27 info92 rfl (by decide) (by decide) (.slice Av pre.length cv) pre ⟨x, y, zz⟩ [.int .u64 x, .int .u64 y, .int .i64 zz] (fun k => k ≠ gm) (fun _ => False) rfl rfl (k92_mkM _ _ _ ⟨x, y, zz⟩) (fun _ hk => hk.elim) (fun k hk => by have := GML.out; omega) HOd.out (Below.refl _ _) HKPd.out.1 HLA.out ?_
      intro v9 w9 ho hb hg hat
      obtain ⟨Aw, cw, rfl⟩ := Kd.R_slice ho
      have HO9 := Aside0.mk ho
      have HB9 := Aside0.mk hb
      have HX9 := Aside0.mk (blk_grown HHd.out.2 hg (Kd.R_away HOd.out (fun k hk e => hk (by first | exact e | exact e.symm))))
      clear ho hg hat
      refine hK.out _ _ ⟨(hb.block gp HGL.out).trans HHd.out.1, HX9.out⟩ (fun hHeld => ?_)
      clear hK K
      refine norm_ (a' := ?_) ?_ ?_
      rotate_left
      · show Act.put _ (some 39) _ = _
        simp only [Act.put, List.setIfInBounds_toArray, List.set_cons_zero, List.set_cons_succ, i64_w, i32_w]
        rfl
      refine pure_ (i := 8) (N := some 40) (v := ?_) (a' := ?_) #[true, true, true, true, true, true, true, true, true, false, false] rfl rfl (any_of HT_.out (by kernel_rfl)) (fun _ _ _ h => h) (Or.inl ⟨by rfl, ?_⟩) ?_ ?_
      rotate_left
      · intro w'
        go_simp
        with_reducible rfl
      rotate_left
      · simp only [Act.put, List.setIfInBounds_toArray, List.set_cons_zero, List.set_cons_succ, i64_w, i32_w]
        rfl
      refine pure_ (i := 9) (N := some 41) (v := ?_) (a' := ?_) #[true, true, true, true, true, true, true, true, true, true, false] rfl rfl (any_of HT_.out (by kernel_rfl)) (fun _ _ _ h => h) (Or.inl ⟨by rfl, ?_⟩) ?_ ?_
      rotate_left
      · intro w'
        go_simp
        with_reducible rfl
      rotate_left
      · simp only [Act.put, List.setIfInBounds_toArray, List.set_cons_zero, List.set_cons_succ, i64_w, i32_w]
        rfl
      refine last_ (i := 10) (N := none) #[true, true, true, true, true, true, true, true, true, true, true] rfl rfl (one_of HT_.out (by kernel_rfl)) (by decide) (fun K hK => ?_)
      obtain ⟨hs_0, hs_1, hs_2, hs_3, hs_4, hs_5, hs_6, hs_7, hs_8, hs_9, hs_10⟩ := Hand.Cz.c11 hHeld.1
      obtain ⟨hf_0, hf_1, hf_2, hf_3, hf_4, hf_5, hf_6, hf_7, hf_8, hf_9, hf_10⟩ := Hand.Cz.f11 hHeld.1
      refine skip_ (w1 := ?_) (by rfl) rfl ?_ ?_
      rotate_left
      · go_simp
        rfl
      refine hK.out _ _ ?_
      clear hK K
      refine done_ (done_of HT_.out (by kernel_rfl)) ?_
      have HH := Aside0.mk hHeld.1
      clear hHeld hs_0 hs_1 hs_2 hs_3 hs_4 hs_5 hs_6 hs_7 hs_8 hs_9 hs_10 hf_0 hf_1 hf_2 hf_3 hf_4 hf_5 hf_6 hf_7 hf_8 hf_9 hf_10
      go_wp2
      go_roundw
      case rel =>
        refine ⟨k + 1, by omega, by go_num, pre ++ [⟨x, y, zz⟩], post2, r10, _, HCT2, ⟨by rw [List.append_assoc]; exact HPL.out⟩, ⟨St_far (mdec.St_more HSTd.out HGR.out H0W.out HB9.out) HGP.out hne2 9 _⟩, ⟨(blk_set HH.out 9 _).trans rfl⟩, ⟨(HKPd.out.below HB9.out).set 9 _⟩, ⟨?_⟩, ⟨by rw [List.length_append, List.length_singleton, HLN.out]⟩⟩
        have hq := Kd.R_far (p := ⟨gp, 9, none⟩) (Kd.R_types HO9.out HH.out (by decide)) (fun _ h => h.2) (.slice Aw (pre ++ ([⟨x, y, zz⟩] : List S92)).length cw)
        rw [List.length_append, List.length_singleton] at hq
        exact Kd.R_mono hq (fun _ _ => trivial)
      case measure => simp [intOf]; omega
    · obtain rfl : k = n := by omega
      have hct := HCT.out
      rw [Nat.sub_self, mdec.mks] at hct
      obtain ⟨rfl, rfl⟩ := Prod.mk.inj (Option.some.inj hct)
      have hpl := HPL.out
      rw [List.append_nil] at hpl
      subst hpl
      clear hct HCT HPL
      have hltb : decide ((k : Int) < (k : Int)) = false := decide_eq_false (by omega)
      go_wp2
      go_end0
      obtain ⟨hB, _, A, c, hk, _⟩ := HST.out
      exact ⟨rfl, hB, ⟨A, c, hk⟩, HKP.out, _, _, _, HP.out, Kd.R_nil _ _ _ _ _, HO.out, Kd.R_nil _ _ _ _ _⟩

set_option maxHeartbeats 8000000 in
set_option maxRecDepth 100000 in
theorem mdec.main (kd tr : Int) (bn bd sn sd v : Int) (ok : Bool) (l8 : List S76) (l9 : List S92) (l10 : List Int) (A0 : Option Addr) (c0 : Nat) (l0 : List Int) (w : World) (hr0 : Kd.C (Kd.int .u8) w A0 l0.length l0) (hc0 : l0.length ≤ c0) (K : Nat) (d : List Int) (hcut : frame_Cut.f K l0 = some (d, [], 0)) (o1 d1 : List Int) (h1 : tk d false 1 = (o1, d1, false)) (hk : rd o1 0 = kd) (hk0 : 0 ≤ kd) (hk1 : kd < 256) (hk3 : kd ≠ 3) (d2 : List Int) (h2 : nm d1 false = some (tr, d2, false)) 
    (hRest : ∀ (w0 W : World) (g gp : Nat), St w0 W g d2 false → W.heap[gp]? = some (.cells #[.int .i64 kd, .int .u64 tr, .int .u64 0, .int .u64 0, .int .u64 0, .int .u64 0, .int .i64 0, .bool false, .slice none 0 0, .slice none 0 0, .slice none 0 0] 30 (0, 0)) → w0.heap.size ≤ gp → gp ≠ g → Calls Try.prog 46 #[.pointer (some ⟨g, 0, none⟩), .pointer (some ⟨gp, 0, none⟩)] W fun e w' => e = .returned (.tuple #[]) ∧ mdec.RP w0 W w' g gp kd tr bn bd sn sd v ok l8 l9 l10) (hR : message_Right.f kd tr bn bd sn sd v ok l8 l9 l10 = some 0) :
    Calls Try.prog 19 #[.slice A0 l0.length c0] w fun e w' => ∃ v8 v9 v10 : Value, e = .returned (.tuple #[.agg #[.int .i64 kd, .int .u64 tr, .int .u64 bn, .int .u64 bd, .int .u64 sn, .int .u64 sd, .int .i64 v, .bool ok, v8, v9, v10], .int .i64 0]) ∧ Kd.R k76 76 w' w.heap.size (fun _ => True) v8 l8 ∧ Kd.R k92 92 w' w.heap.size (fun _ => True) v9 l9 ∧ Kd.R (Kd.int .u64) 22 w' w.heap.size (fun _ => True) v10 l10 ∧ Below w.heap.size w w' := by
  have hu30 := Try.underlying30
  have hu24 := Try.underlying24
  have hu51 := Try.underlying51
  have hu54 := Try.underlying54
  have hu57 := Try.underlying57
  have hu60 := Try.underlying60
  have hu63 := Try.underlying63
  have hu66 := Try.underlying66
  have hu69 := Try.underlying69
  have hu99 := Try.underlying99
  have k3b : (kd != 3) = true := bne_iff_ne.mpr hk3
  have HC := Aside0.mk hr0
  have HCUT := Aside0.mk hcut
  have H1 := Aside0.mk h1
  have HK := Aside0.mk hk
  have HRS := Aside0.mk hRest
  have H2 := Aside0.mk h2
  have HR := Aside0.mk hR
  clear hr0 hcut h1 hk hRest h2 hk3 hR 
  go_enter Try.func19, Try.ntmps19
  go_wp2_with ((with_reducible refine gate_dst (N := 2) rfl ?_); refine box_event ?hg (N := 2) ?hd (cs := #[.int .i64 0, .int .u64 0, .int .u64 0, .int .u64 0, .int .u64 0, .int .u64 0, .int .i64 0, .bool false, .slice none 0 0, .slice none 0 0, .slice none 0 0]) (t := 30) ?hr ?_; (case hd => rfl); (case hg => rfl); (case hr => first | (go_simp; done) | (go_simp; rfl)); intro g2 hg w1 hbox hb; have HG2 := Aside0.mk (show w.heap.size ≤ g2 from Nat.le_of_eq hg.symm); have B2 := Aside0.mk hbox; have HB1 := Aside0.mk hb; clear hg hbox hb)
  refine (frame_Cut.calls K A0 c0 l0 d [] 0 _ (Kd.C_below HC.out HB1.out) hc0 HCUT.out).mono ?_
  rintro e w2 ⟨v1, v2, rfl, hR1, hR2, hb⟩
  obtain ⟨A1, c1, rfl, hle1, hC1⟩ := Kd.R_reads hR1
  obtain ⟨A2, c2, rfl⟩ := Kd.R_slice hR2
  have HB2 := Aside0.mk (below_step HB1.out hb)
  have B22 := Aside0.mk (blk_below B2.out hb)
  have HC1 := Aside0.mk hC1
  have HLE := Aside0.mk hle1
  clear hR1 hR2 hb hle1 hC1
  go_wp2_with ((with_reducible refine gate_dst (N := 21) rfl ?_); refine box_event ?hg (N := 21) ?hd (cs := #[.slice A1 d.length c1, .bool false]) (t := 99) ?hr ?_; (case hd => rfl); (case hg => rfl); (case hr => first | (go_simp; done) | (go_simp; rfl)); intro g hg w3 hbox hb; have hgs := hg.symm; have HST := Aside0.mk (show St w2 w3 g d false from ⟨hb, Nat.le_of_eq hg.symm, A1, c1, hbox, HLE.out, HC1.out⟩); have B23 := Aside0.mk (blk_below B22.out hb); have HNE := Aside0.mk (show g2 ≠ g from by have := blk_lt B22.out; omega); clear hg hbox hb hgs)
  refine (rsmall w2 _ g d false HST.out o1 d1 false kd H1.out HK.out (by omega) (by omega)).mono ?_
  rintro e w4 ⟨rfl, hst, hkb⟩
  have HST4 := Aside0.mk hst
  have B24 := Aside0.mk ((hkb.2 g2 (blk_lt B23.out) HNE.out (by simp)).trans B23.out)
  clear hst hkb
  go_upto_region 6 with ((with_reducible refine gate_dst (N := 8) rfl ?_); refine box_event ?hg (N := 8) ?hd (cs := #[.int .i64 0, .int .u64 0, .int .u64 0, .int .u64 0, .int .u64 0, .int .u64 0, .int .i64 0, .bool false, .slice none 0 0, .slice none 0 0, .slice none 0 0]) (t := 30) ?hr ?_; (case hd => rfl); (case hg => rfl); (case hr => first | (go_simp; done) | (go_simp; rfl)); intro gp hg w5 hbox hb; have hgs := hg.symm; have HNP := Aside0.mk (show gp ≠ g from by have := blk_lt HST4.out.2.2.choose_spec.choose_spec.1; omega); have HNP2 := Aside0.mk (show gp ≠ g2 from by have := blk_lt B24.out; omega); have HGP := Aside0.mk (show w2.heap.size ≤ gp from by have := HST4.out.1.size; omega); have HST5 := Aside0.mk (St_below HST4.out hb); have B25 := Aside0.mk (blk_below B24.out hb); have BP := Aside0.mk hbox; clear hg hbox hb hgs; obtain ⟨hp_0, hp_1, hp_2, hp_3, hp_4, hp_5, hp_6, hp_7, hp_8, hp_9, hp_10⟩ := Hand.Cz.c11 BP.out; obtain ⟨hpf_0, hpf_1, hpf_2, hpf_3, hpf_4, hpf_5, hpf_6, hpf_7, hpf_8, hpf_9, hpf_10⟩ := Hand.Cz.f11 BP.out)
  generalize hW6 : World.setCell _ (Addr.mk gp 10 none) _ = w6
  have BP6 := Aside0.mk (show w6.heap[gp]? = some (.cells #[.int .i64 kd, .int .u64 0, .int .u64 0, .int .u64 0, .int .u64 0, .int .u64 0, .int .i64 0, .bool false, .slice none 0 0, .slice none 0 0, .slice none 0 0] 30 (0, 0)) from by rw [← hW6]; exact Hand.Cz.p11 BP.out)
  have HST6 := Aside0.mk (show St w2 w6 g d1 false from by rw [← hW6]; exact (St_far (St_far (St_far (St_far (St_far (St_far (St_far (St_far (St_far (St_far (St_far HST5.out HGP.out HNP.out.symm 0 _) HGP.out HNP.out.symm 1 _) HGP.out HNP.out.symm 2 _) HGP.out HNP.out.symm 3 _) HGP.out HNP.out.symm 4 _) HGP.out HNP.out.symm 5 _) HGP.out HNP.out.symm 6 _) HGP.out HNP.out.symm 7 _) HGP.out HNP.out.symm 8 _) HGP.out HNP.out.symm 9 _) HGP.out HNP.out.symm 10 _))
  have B26 := Aside0.mk (show w6.heap[g2]? = some (.cells #[.int .i64 0, .int .u64 0, .int .u64 0, .int .u64 0, .int .u64 0, .int .u64 0, .int .i64 0, .bool false, .slice none 0 0, .slice none 0 0, .slice none 0 0] 30 (0, 0)) from by rw [← hW6]; exact Hand.Cz.o11 B25.out HNP2.out.symm)
  clear hW6 BP HST5 B25 HST4 B24 hp_0 hp_1 hp_2 hp_3 hp_4 hp_5 hp_6 hp_7 hp_8 hp_9 hp_10 hpf_0 hpf_1 hpf_2 hpf_3 hpf_4 hpf_5 hpf_6 hpf_7 hpf_8 hpf_9 hpf_10
  obtain ⟨hp_0, hp_1, hp_2, hp_3, hp_4, hp_5, hp_6, hp_7, hp_8, hp_9, hp_10⟩ := Hand.Cz.c11 BP6.out
  go_wp2_with fail
  refine (number w2 _ g d1 false HST6.out (tr, d2, false) H2.out).mono ?_
  rintro e w7 ⟨rfl, hst, hkb⟩
  have HST7 := Aside0.mk hst
  have BP7 := Aside0.mk ((hkb.2 gp (blk_lt BP6.out) HNP.out (by simp)).trans BP6.out)
  have B27 := Aside0.mk ((hkb.2 g2 (blk_lt B26.out) HNE.out (by simp)).trans B26.out)
  clear hst hkb HST6 BP6 B26 hp_0 hp_1 hp_2 hp_3 hp_4 hp_5 hp_6 hp_7 hp_8 hp_9 hp_10
  obtain ⟨hp_0, hp_1, hp_2, hp_3, hp_4, hp_5, hp_6, hp_7, hp_8, hp_9, hp_10⟩ := Hand.Cz.c11 BP7.out
  obtain ⟨hpf_0, hpf_1, hpf_2, hpf_3, hpf_4, hpf_5, hpf_6, hpf_7, hpf_8, hpf_9, hpf_10⟩ := Hand.Cz.f11 BP7.out
  go_upto_region 8 with fail
  generalize hW8 : World.setCell _ (Addr.mk gp 1 none) _ = w8
  have HST8 := Aside0.mk (show St w2 w8 g d2 false from by rw [← hW8]; exact St_far HST7.out HGP.out HNP.out.symm 1 _)
  have BP8 := Aside0.mk (show w8.heap[gp]? = some (.cells #[.int .i64 kd, .int .u64 tr, .int .u64 0, .int .u64 0, .int .u64 0, .int .u64 0, .int .i64 0, .bool false, .slice none 0 0, .slice none 0 0, .slice none 0 0] 30 (0, 0)) from by rw [← hW8]; exact (blk_set BP7.out 1 _).trans rfl)
  have B28 := Aside0.mk (show w8.heap[g2]? = some (.cells #[.int .i64 0, .int .u64 0, .int .u64 0, .int .u64 0, .int .u64 0, .int .u64 0, .int .i64 0, .bool false, .slice none 0 0, .slice none 0 0, .slice none 0 0] 30 (0, 0)) from by rw [← hW8]; exact blk_far B27.out (p := ⟨gp, 1, none⟩) HNP2.out.symm _)
  clear hW8 HST7 BP7 B27 hp_0 hp_1 hp_2 hp_3 hp_4 hp_5 hp_6 hp_7 hp_8 hp_9 hp_10 hpf_0 hpf_1 hpf_2 hpf_3 hpf_4 hpf_5 hpf_6 hpf_7 hpf_8 hpf_9 hpf_10
  go_wp2_with fail
  refine (HRS.out w2 _ g gp HST8.out BP8.out HGP.out HNP.out).mono ?_
  rintro e w9 ⟨rfl, hB9, ⟨A9, c9, hk9⟩, ⟨hs9, hq9⟩, v8, v9, v10, hp9, r8, r9, r10⟩
  have HB9 := Aside0.mk hB9
  have HS := Aside0.mk HST8.out.1.size
  have B29 := Aside0.mk ((hq9 g2 (blk_lt B28.out) HNE.out HNP2.out.symm).trans B28.out)
  have BP9 := Aside0.mk hp9
  obtain ⟨A8x, c8x, rfl⟩ := Kd.R_slice r8
  have R8 := Aside0.mk (Kd.R_lower r8 (Nat.le_trans HB2.out.size HS.out))
  obtain ⟨A9x, c9x, rfl⟩ := Kd.R_slice r9
  have R9 := Aside0.mk (Kd.R_lower r9 (Nat.le_trans HB2.out.size HS.out))
  obtain ⟨A10x, c10x, rfl⟩ := Kd.R_slice r10
  have R10 := Aside0.mk (Kd.R_lower r10 (Nat.le_trans HB2.out.size HS.out))
  obtain ⟨hgz_0, hgz_1⟩ := Hand.Cz.c2 hk9
  clear hB9 hk9 hs9 hq9 hp9 r8 r9 r10 HST8 BP8 B28 HRS
  obtain ⟨hp_0, hp_1, hp_2, hp_3, hp_4, hp_5, hp_6, hp_7, hp_8, hp_9, hp_10⟩ := Hand.Cz.c11 BP9.out
  go_wp2_with (go_at_call 13; refine (message_Right.calls kd tr bn bd sn sd v ok A8x c8x l8 A9x c9x l9 A10x c10x l10 0 _ (Kd.R_reads' R8.out).2.2 (Kd.R_reads' R8.out).2.1 (Kd.R_reads' R9.out).2.2 (Kd.R_reads' R9.out).2.1 (Kd.R_reads' R10.out).2.2 (Kd.R_reads' R10.out).2.1 HR.out).mono ?_; rintro e wA ⟨rfl, hb⟩; have BPA := Aside0.mk (blk_below BP9.out hb); have B2A := Aside0.mk (blk_below B29.out hb); have HBA := Aside0.mk (below_step HB9.out hb); have R8A := Aside0.mk (Kd.R_below R8.out hb); have R9A := Aside0.mk (Kd.R_below R9.out hb); have R10A := Aside0.mk (Kd.R_below R10.out hb); clear hb; clear hp_0 hp_1 hp_2 hp_3 hp_4 hp_5 hp_6 hp_7 hp_8 hp_9 hp_10; obtain ⟨hp_0, hp_1, hp_2, hp_3, hp_4, hp_5, hp_6, hp_7, hp_8, hp_9, hp_10⟩ := Hand.Cz.c11 BPA.out; obtain ⟨hs_0, hs_1, hs_2, hs_3, hs_4, hs_5, hs_6, hs_7, hs_8, hs_9, hs_10⟩ := Hand.Cz.c11 B2A.out; obtain ⟨hsf_0, hsf_1, hsf_2, hsf_3, hsf_4, hsf_5, hsf_6, hsf_7, hsf_8, hsf_9, hsf_10⟩ := Hand.Cz.f11 B2A.out)
  refine bodyPost_ret (results_ct rfl _ _ g2 30 #[.int .i64 kd, .int .u64 tr, .int .u64 bn, .int .u64 bd, .int .u64 sn, .int .u64 sd, .int .i64 v, .bool ok, .slice A8x l8.length c8x, .slice A9x l9.length c9x, .slice A10x l10.length c10x] (0, 0) _ rfl (Hand.Cz.p11 B2A.out) Try.underlying30 rfl (by kernel_rfl)) rfl ?_
  exact ⟨_, _, _, rfl, Kd.R_mono (Hand.Cz.r11 (Kd.R_mono (Kd.R_types R8A.out B2A.out (by decide)) (fun _ hk => hk.2))) (fun _ _ => trivial), Kd.R_mono (Hand.Cz.r11 (Kd.R_mono (Kd.R_types R9A.out B2A.out (by decide)) (fun _ hk => hk.2))) (fun _ _ => trivial), Kd.R_mono (Hand.Cz.r11 (Kd.R_mono (Kd.R_types R10A.out B2A.out (by decide)) (fun _ hk => hk.2))) (fun _ _ => trivial), Hand.Cz.b11 (below_step HB2.out HBA.out) HG2.out⟩

set_option maxHeartbeats 8000000 in
set_option maxRecDepth 100000 in
theorem mdec.more (kd tr : Int) (bn bd sn sd v : Int) (ok : Bool) (l8 : List S76) (l9 : List S92) (l10 : List Int) (A0 : Option Addr) (c0 : Nat) (l0 : List Int) (w : World) (hr0 : Kd.C (Kd.int .u8) w A0 l0.length l0) (hc0 : l0.length ≤ c0) (K : Nat) (d : List Int) (rest2 : List Int) (hm : 0 < rest2.length) (hm2 : rest2.length ≤ 1000000) (hcut : frame_Cut.f K l0 = some (d, rest2, 0)) (o1 d1 : List Int) (h1 : tk d false 1 = (o1, d1, false)) (hk : rd o1 0 = kd) (hk0 : 0 ≤ kd) (hk1 : kd < 256) (hk3 : kd ≠ 3) (d2 : List Int) (h2 : nm d1 false = some (tr, d2, false)) 
    (hRest : ∀ (w0 W : World) (g gp : Nat), St w0 W g d2 false → W.heap[gp]? = some (.cells #[.int .i64 kd, .int .u64 tr, .int .u64 0, .int .u64 0, .int .u64 0, .int .u64 0, .int .i64 0, .bool false, .slice none 0 0, .slice none 0 0, .slice none 0 0] 30 (0, 0)) → w0.heap.size ≤ gp → gp ≠ g → Calls Try.prog 46 #[.pointer (some ⟨g, 0, none⟩), .pointer (some ⟨gp, 0, none⟩)] W fun e w' => e = .returned (.tuple #[]) ∧ mdec.RP w0 W w' g gp kd tr bn bd sn sd v ok l8 l9 l10) :
    Calls Try.prog 19 #[.slice A0 l0.length c0] w fun e w' => e = .returned (.tuple #[.agg #[.int .i64 0, .int .u64 0, .int .u64 0, .int .u64 0, .int .u64 0, .int .u64 0, .int .i64 0, .bool false, .slice none 0 0, .slice none 0 0, .slice none 0 0], .int .i64 6]) ∧ Below w.heap.size w w' := by
  have hu30 := Try.underlying30
  have hu24 := Try.underlying24
  have hu51 := Try.underlying51
  have hu54 := Try.underlying54
  have hu57 := Try.underlying57
  have hu60 := Try.underlying60
  have hu63 := Try.underlying63
  have hu66 := Try.underlying66
  have hu69 := Try.underlying69
  have hu99 := Try.underlying99
  have k3b : (kd != 3) = true := bne_iff_ne.mpr hk3
  have HC := Aside0.mk hr0
  have HCUT := Aside0.mk hcut
  have H1 := Aside0.mk h1
  have HK := Aside0.mk hk
  have HRS := Aside0.mk hRest
  have H2 := Aside0.mk h2
  have HM := Aside0.mk hm
  clear hr0 hcut h1 hk hRest h2 hk3  hm
  go_enter Try.func19, Try.ntmps19
  go_wp2_with ((with_reducible refine gate_dst (N := 2) rfl ?_); refine box_event ?hg (N := 2) ?hd (cs := #[.int .i64 0, .int .u64 0, .int .u64 0, .int .u64 0, .int .u64 0, .int .u64 0, .int .i64 0, .bool false, .slice none 0 0, .slice none 0 0, .slice none 0 0]) (t := 30) ?hr ?_; (case hd => rfl); (case hg => rfl); (case hr => first | (go_simp; done) | (go_simp; rfl)); intro g2 hg w1 hbox hb; have HG2 := Aside0.mk (show w.heap.size ≤ g2 from Nat.le_of_eq hg.symm); have B2 := Aside0.mk hbox; have HB1 := Aside0.mk hb; clear hg hbox hb)
  refine (frame_Cut.calls K A0 c0 l0 d rest2 0 _ (Kd.C_below HC.out HB1.out) hc0 HCUT.out).mono ?_
  rintro e w2 ⟨v1, v2, rfl, hR1, hR2, hb⟩
  obtain ⟨A1, c1, rfl, hle1, hC1⟩ := Kd.R_reads hR1
  obtain ⟨A2, c2, rfl⟩ := Kd.R_slice hR2
  have HB2 := Aside0.mk (below_step HB1.out hb)
  have B22 := Aside0.mk (blk_below B2.out hb)
  have HC1 := Aside0.mk hC1
  have HLE := Aside0.mk hle1
  clear hR1 hR2 hb hle1 hC1
  go_wp2_with ((with_reducible refine gate_dst (N := 21) rfl ?_); refine box_event ?hg (N := 21) ?hd (cs := #[.slice A1 d.length c1, .bool false]) (t := 99) ?hr ?_; (case hd => rfl); (case hg => rfl); (case hr => first | (go_simp; done) | (go_simp; rfl)); intro g hg w3 hbox hb; have hgs := hg.symm; have HST := Aside0.mk (show St w2 w3 g d false from ⟨hb, Nat.le_of_eq hg.symm, A1, c1, hbox, HLE.out, HC1.out⟩); have B23 := Aside0.mk (blk_below B22.out hb); have HNE := Aside0.mk (show g2 ≠ g from by have := blk_lt B22.out; omega); clear hg hbox hb hgs)
  refine (rsmall w2 _ g d false HST.out o1 d1 false kd H1.out HK.out (by omega) (by omega)).mono ?_
  rintro e w4 ⟨rfl, hst, hkb⟩
  have HST4 := Aside0.mk hst
  have B24 := Aside0.mk ((hkb.2 g2 (blk_lt B23.out) HNE.out (by simp)).trans B23.out)
  clear hst hkb
  go_upto_region 6 with ((with_reducible refine gate_dst (N := 8) rfl ?_); refine box_event ?hg (N := 8) ?hd (cs := #[.int .i64 0, .int .u64 0, .int .u64 0, .int .u64 0, .int .u64 0, .int .u64 0, .int .i64 0, .bool false, .slice none 0 0, .slice none 0 0, .slice none 0 0]) (t := 30) ?hr ?_; (case hd => rfl); (case hg => rfl); (case hr => first | (go_simp; done) | (go_simp; rfl)); intro gp hg w5 hbox hb; have hgs := hg.symm; have HNP := Aside0.mk (show gp ≠ g from by have := blk_lt HST4.out.2.2.choose_spec.choose_spec.1; omega); have HNP2 := Aside0.mk (show gp ≠ g2 from by have := blk_lt B24.out; omega); have HGP := Aside0.mk (show w2.heap.size ≤ gp from by have := HST4.out.1.size; omega); have HST5 := Aside0.mk (St_below HST4.out hb); have B25 := Aside0.mk (blk_below B24.out hb); have BP := Aside0.mk hbox; clear hg hbox hb hgs; obtain ⟨hp_0, hp_1, hp_2, hp_3, hp_4, hp_5, hp_6, hp_7, hp_8, hp_9, hp_10⟩ := Hand.Cz.c11 BP.out; obtain ⟨hpf_0, hpf_1, hpf_2, hpf_3, hpf_4, hpf_5, hpf_6, hpf_7, hpf_8, hpf_9, hpf_10⟩ := Hand.Cz.f11 BP.out)
  generalize hW6 : World.setCell _ (Addr.mk gp 10 none) _ = w6
  have BP6 := Aside0.mk (show w6.heap[gp]? = some (.cells #[.int .i64 kd, .int .u64 0, .int .u64 0, .int .u64 0, .int .u64 0, .int .u64 0, .int .i64 0, .bool false, .slice none 0 0, .slice none 0 0, .slice none 0 0] 30 (0, 0)) from by rw [← hW6]; exact Hand.Cz.p11 BP.out)
  have HST6 := Aside0.mk (show St w2 w6 g d1 false from by rw [← hW6]; exact (St_far (St_far (St_far (St_far (St_far (St_far (St_far (St_far (St_far (St_far (St_far HST5.out HGP.out HNP.out.symm 0 _) HGP.out HNP.out.symm 1 _) HGP.out HNP.out.symm 2 _) HGP.out HNP.out.symm 3 _) HGP.out HNP.out.symm 4 _) HGP.out HNP.out.symm 5 _) HGP.out HNP.out.symm 6 _) HGP.out HNP.out.symm 7 _) HGP.out HNP.out.symm 8 _) HGP.out HNP.out.symm 9 _) HGP.out HNP.out.symm 10 _))
  have B26 := Aside0.mk (show w6.heap[g2]? = some (.cells #[.int .i64 0, .int .u64 0, .int .u64 0, .int .u64 0, .int .u64 0, .int .u64 0, .int .i64 0, .bool false, .slice none 0 0, .slice none 0 0, .slice none 0 0] 30 (0, 0)) from by rw [← hW6]; exact Hand.Cz.o11 B25.out HNP2.out.symm)
  clear hW6 BP HST5 B25 HST4 B24 hp_0 hp_1 hp_2 hp_3 hp_4 hp_5 hp_6 hp_7 hp_8 hp_9 hp_10 hpf_0 hpf_1 hpf_2 hpf_3 hpf_4 hpf_5 hpf_6 hpf_7 hpf_8 hpf_9 hpf_10
  obtain ⟨hp_0, hp_1, hp_2, hp_3, hp_4, hp_5, hp_6, hp_7, hp_8, hp_9, hp_10⟩ := Hand.Cz.c11 BP6.out
  go_wp2_with fail
  refine (number w2 _ g d1 false HST6.out (tr, d2, false) H2.out).mono ?_
  rintro e w7 ⟨rfl, hst, hkb⟩
  have HST7 := Aside0.mk hst
  have BP7 := Aside0.mk ((hkb.2 gp (blk_lt BP6.out) HNP.out (by simp)).trans BP6.out)
  have B27 := Aside0.mk ((hkb.2 g2 (blk_lt B26.out) HNE.out (by simp)).trans B26.out)
  clear hst hkb HST6 BP6 B26 hp_0 hp_1 hp_2 hp_3 hp_4 hp_5 hp_6 hp_7 hp_8 hp_9 hp_10
  obtain ⟨hp_0, hp_1, hp_2, hp_3, hp_4, hp_5, hp_6, hp_7, hp_8, hp_9, hp_10⟩ := Hand.Cz.c11 BP7.out
  obtain ⟨hpf_0, hpf_1, hpf_2, hpf_3, hpf_4, hpf_5, hpf_6, hpf_7, hpf_8, hpf_9, hpf_10⟩ := Hand.Cz.f11 BP7.out
  go_upto_region 8 with fail
  generalize hW8 : World.setCell _ (Addr.mk gp 1 none) _ = w8
  have HST8 := Aside0.mk (show St w2 w8 g d2 false from by rw [← hW8]; exact St_far HST7.out HGP.out HNP.out.symm 1 _)
  have BP8 := Aside0.mk (show w8.heap[gp]? = some (.cells #[.int .i64 kd, .int .u64 tr, .int .u64 0, .int .u64 0, .int .u64 0, .int .u64 0, .int .i64 0, .bool false, .slice none 0 0, .slice none 0 0, .slice none 0 0] 30 (0, 0)) from by rw [← hW8]; exact (blk_set BP7.out 1 _).trans rfl)
  have B28 := Aside0.mk (show w8.heap[g2]? = some (.cells #[.int .i64 0, .int .u64 0, .int .u64 0, .int .u64 0, .int .u64 0, .int .u64 0, .int .i64 0, .bool false, .slice none 0 0, .slice none 0 0, .slice none 0 0] 30 (0, 0)) from by rw [← hW8]; exact blk_far B27.out (p := ⟨gp, 1, none⟩) HNP2.out.symm _)
  clear hW8 HST7 BP7 B27 hp_0 hp_1 hp_2 hp_3 hp_4 hp_5 hp_6 hp_7 hp_8 hp_9 hp_10 hpf_0 hpf_1 hpf_2 hpf_3 hpf_4 hpf_5 hpf_6 hpf_7 hpf_8 hpf_9 hpf_10
  go_wp2_with fail
  refine (HRS.out w2 _ g gp HST8.out BP8.out HGP.out HNP.out).mono ?_
  rintro e w9 ⟨rfl, hB9, ⟨A9, c9, hk9⟩, ⟨hs9, hq9⟩, v8, v9, v10, hp9, r8, r9, r10⟩
  have HB9 := Aside0.mk hB9
  have HS := Aside0.mk HST8.out.1.size
  have B29 := Aside0.mk ((hq9 g2 (blk_lt B28.out) HNE.out HNP2.out.symm).trans B28.out)
  have BP9 := Aside0.mk hp9
  obtain ⟨A8x, c8x, rfl⟩ := Kd.R_slice r8
  have R8 := Aside0.mk (Kd.R_lower r8 (Nat.le_trans HB2.out.size HS.out))
  obtain ⟨A9x, c9x, rfl⟩ := Kd.R_slice r9
  have R9 := Aside0.mk (Kd.R_lower r9 (Nat.le_trans HB2.out.size HS.out))
  obtain ⟨A10x, c10x, rfl⟩ := Kd.R_slice r10
  have R10 := Aside0.mk (Kd.R_lower r10 (Nat.le_trans HB2.out.size HS.out))
  obtain ⟨hgz_0, hgz_1⟩ := Hand.Cz.c2 hk9
  clear hB9 hk9 hs9 hq9 hp9 r8 r9 r10 HST8 BP8 B28 HRS
  obtain ⟨hp_0, hp_1, hp_2, hp_3, hp_4, hp_5, hp_6, hp_7, hp_8, hp_9, hp_10⟩ := Hand.Cz.c11 BP9.out
  have hwl : wrap64 (rest2.length : Int) = (rest2.length : Int) := by unfold wrap64; omega
  have hlb : decide ((rest2.length : Int) > 0) = true := decide_eq_true (by have := HM.out; omega)
  have hlb2 : decide (0 < (rest2.length : Int)) = true := decide_eq_true (by have := HM.out; omega)
  have hne0 : ¬ rest2 = [] := by intro q; have := HM.out; rw [q] at this; exact absurd this (by decide)
  have hne1 : (rest2 = []) = False := eq_false hne0
  have hpos : 0 < rest2.length := HM.out
  obtain ⟨hs_0, hs_1, hs_2, hs_3, hs_4, hs_5, hs_6, hs_7, hs_8, hs_9, hs_10⟩ := Hand.Cz.c11 B29.out
  obtain ⟨hsf_0, hsf_1, hsf_2, hsf_3, hsf_4, hsf_5, hsf_6, hsf_7, hsf_8, hsf_9, hsf_10⟩ := Hand.Cz.f11 B29.out
  go_wp2
  refine bodyPost_ret (results_ct rfl _ _ g2 30 #[.int .i64 0, .int .u64 0, .int .u64 0, .int .u64 0, .int .u64 0, .int .u64 0, .int .i64 0, .bool false, .slice none 0 0, .slice none 0 0, .slice none 0 0] (0, 0) _ rfl (Hand.Cz.p11 B29.out) Try.underlying30 rfl (by kernel_rfl)) rfl ?_
  exact ⟨rfl, Hand.Cz.b11 (below_step HB2.out HB9.out) HG2.out⟩

set_option maxHeartbeats 8000000 in
set_option maxRecDepth 100000 in
theorem mdec.main3 (bn bd sn sd v : Int) (ok : Bool) (l8 : List S76) (l9 : List S92) (l10 : List Int) (A0 : Option Addr) (c0 : Nat) (l0 : List Int) (w : World) (hr0 : Kd.C (Kd.int .u8) w A0 l0.length l0) (hc0 : l0.length ≤ c0) (K : Nat) (d : List Int) (hcut : frame_Cut.f K l0 = some (d, [], 0)) (o1 d1 : List Int) (h1 : tk d false 1 = (o1, d1, false)) (hk : rd o1 0 = 3) 
    (hRest : ∀ (w0 W : World) (g gp : Nat), St w0 W g d1 false → W.heap[gp]? = some (.cells #[.int .i64 3, .int .u64 0, .int .u64 0, .int .u64 0, .int .u64 0, .int .u64 0, .int .i64 0, .bool false, .slice none 0 0, .slice none 0 0, .slice none 0 0] 30 (0, 0)) → w0.heap.size ≤ gp → gp ≠ g → Calls Try.prog 46 #[.pointer (some ⟨g, 0, none⟩), .pointer (some ⟨gp, 0, none⟩)] W fun e w' => e = .returned (.tuple #[]) ∧ mdec.RP w0 W w' g gp 3 0 bn bd sn sd v ok l8 l9 l10) (hR : message_Right.f 3 0 bn bd sn sd v ok l8 l9 l10 = some 0) :
    Calls Try.prog 19 #[.slice A0 l0.length c0] w fun e w' => ∃ v8 v9 v10 : Value, e = .returned (.tuple #[.agg #[.int .i64 3, .int .u64 0, .int .u64 bn, .int .u64 bd, .int .u64 sn, .int .u64 sd, .int .i64 v, .bool ok, v8, v9, v10], .int .i64 0]) ∧ Kd.R k76 76 w' w.heap.size (fun _ => True) v8 l8 ∧ Kd.R k92 92 w' w.heap.size (fun _ => True) v9 l9 ∧ Kd.R (Kd.int .u64) 22 w' w.heap.size (fun _ => True) v10 l10 ∧ Below w.heap.size w w' := by
  have hu30 := Try.underlying30
  have hu24 := Try.underlying24
  have hu51 := Try.underlying51
  have hu54 := Try.underlying54
  have hu57 := Try.underlying57
  have hu60 := Try.underlying60
  have hu63 := Try.underlying63
  have hu66 := Try.underlying66
  have hu69 := Try.underlying69
  have hu99 := Try.underlying99
  have HC := Aside0.mk hr0
  have HCUT := Aside0.mk hcut
  have H1 := Aside0.mk h1
  have HK := Aside0.mk hk
  have HRS := Aside0.mk hRest
  have HR := Aside0.mk hR
  clear hr0 hcut h1 hk hRest  hR 
  go_enter Try.func19, Try.ntmps19
  go_wp2_with ((with_reducible refine gate_dst (N := 2) rfl ?_); refine box_event ?hg (N := 2) ?hd (cs := #[.int .i64 0, .int .u64 0, .int .u64 0, .int .u64 0, .int .u64 0, .int .u64 0, .int .i64 0, .bool false, .slice none 0 0, .slice none 0 0, .slice none 0 0]) (t := 30) ?hr ?_; (case hd => rfl); (case hg => rfl); (case hr => first | (go_simp; done) | (go_simp; rfl)); intro g2 hg w1 hbox hb; have HG2 := Aside0.mk (show w.heap.size ≤ g2 from Nat.le_of_eq hg.symm); have B2 := Aside0.mk hbox; have HB1 := Aside0.mk hb; clear hg hbox hb)
  refine (frame_Cut.calls K A0 c0 l0 d [] 0 _ (Kd.C_below HC.out HB1.out) hc0 HCUT.out).mono ?_
  rintro e w2 ⟨v1, v2, rfl, hR1, hR2, hb⟩
  obtain ⟨A1, c1, rfl, hle1, hC1⟩ := Kd.R_reads hR1
  obtain ⟨A2, c2, rfl⟩ := Kd.R_slice hR2
  have HB2 := Aside0.mk (below_step HB1.out hb)
  have B22 := Aside0.mk (blk_below B2.out hb)
  have HC1 := Aside0.mk hC1
  have HLE := Aside0.mk hle1
  clear hR1 hR2 hb hle1 hC1
  go_wp2_with ((with_reducible refine gate_dst (N := 21) rfl ?_); refine box_event ?hg (N := 21) ?hd (cs := #[.slice A1 d.length c1, .bool false]) (t := 99) ?hr ?_; (case hd => rfl); (case hg => rfl); (case hr => first | (go_simp; done) | (go_simp; rfl)); intro g hg w3 hbox hb; have hgs := hg.symm; have HST := Aside0.mk (show St w2 w3 g d false from ⟨hb, Nat.le_of_eq hg.symm, A1, c1, hbox, HLE.out, HC1.out⟩); have B23 := Aside0.mk (blk_below B22.out hb); have HNE := Aside0.mk (show g2 ≠ g from by have := blk_lt B22.out; omega); clear hg hbox hb hgs)
  refine (rsmall w2 _ g d false HST.out o1 d1 false 3 H1.out HK.out (by omega) (by omega)).mono ?_
  rintro e w4 ⟨rfl, hst, hkb⟩
  have HST4 := Aside0.mk hst
  have B24 := Aside0.mk ((hkb.2 g2 (blk_lt B23.out) HNE.out (by simp)).trans B23.out)
  clear hst hkb
  go_upto_region 6 with ((with_reducible refine gate_dst (N := 8) rfl ?_); refine box_event ?hg (N := 8) ?hd (cs := #[.int .i64 0, .int .u64 0, .int .u64 0, .int .u64 0, .int .u64 0, .int .u64 0, .int .i64 0, .bool false, .slice none 0 0, .slice none 0 0, .slice none 0 0]) (t := 30) ?hr ?_; (case hd => rfl); (case hg => rfl); (case hr => first | (go_simp; done) | (go_simp; rfl)); intro gp hg w5 hbox hb; have hgs := hg.symm; have HNP := Aside0.mk (show gp ≠ g from by have := blk_lt HST4.out.2.2.choose_spec.choose_spec.1; omega); have HNP2 := Aside0.mk (show gp ≠ g2 from by have := blk_lt B24.out; omega); have HGP := Aside0.mk (show w2.heap.size ≤ gp from by have := HST4.out.1.size; omega); have HST5 := Aside0.mk (St_below HST4.out hb); have B25 := Aside0.mk (blk_below B24.out hb); have BP := Aside0.mk hbox; clear hg hbox hb hgs; obtain ⟨hp_0, hp_1, hp_2, hp_3, hp_4, hp_5, hp_6, hp_7, hp_8, hp_9, hp_10⟩ := Hand.Cz.c11 BP.out; obtain ⟨hpf_0, hpf_1, hpf_2, hpf_3, hpf_4, hpf_5, hpf_6, hpf_7, hpf_8, hpf_9, hpf_10⟩ := Hand.Cz.f11 BP.out)
  generalize hW6 : World.setCell _ (Addr.mk gp 10 none) _ = w6
  have BP6 := Aside0.mk (show w6.heap[gp]? = some (.cells #[.int .i64 3, .int .u64 0, .int .u64 0, .int .u64 0, .int .u64 0, .int .u64 0, .int .i64 0, .bool false, .slice none 0 0, .slice none 0 0, .slice none 0 0] 30 (0, 0)) from by rw [← hW6]; exact Hand.Cz.p11 BP.out)
  have HST6 := Aside0.mk (show St w2 w6 g d1 false from by rw [← hW6]; exact (St_far (St_far (St_far (St_far (St_far (St_far (St_far (St_far (St_far (St_far (St_far HST5.out HGP.out HNP.out.symm 0 _) HGP.out HNP.out.symm 1 _) HGP.out HNP.out.symm 2 _) HGP.out HNP.out.symm 3 _) HGP.out HNP.out.symm 4 _) HGP.out HNP.out.symm 5 _) HGP.out HNP.out.symm 6 _) HGP.out HNP.out.symm 7 _) HGP.out HNP.out.symm 8 _) HGP.out HNP.out.symm 9 _) HGP.out HNP.out.symm 10 _))
  have B26 := Aside0.mk (show w6.heap[g2]? = some (.cells #[.int .i64 0, .int .u64 0, .int .u64 0, .int .u64 0, .int .u64 0, .int .u64 0, .int .i64 0, .bool false, .slice none 0 0, .slice none 0 0, .slice none 0 0] 30 (0, 0)) from by rw [← hW6]; exact Hand.Cz.o11 B25.out HNP2.out.symm)
  clear hW6 BP HST5 B25 HST4 B24 hp_0 hp_1 hp_2 hp_3 hp_4 hp_5 hp_6 hp_7 hp_8 hp_9 hp_10 hpf_0 hpf_1 hpf_2 hpf_3 hpf_4 hpf_5 hpf_6 hpf_7 hpf_8 hpf_9 hpf_10
  obtain ⟨hp_0, hp_1, hp_2, hp_3, hp_4, hp_5, hp_6, hp_7, hp_8, hp_9, hp_10⟩ := Hand.Cz.c11 BP6.out
  go_upto_region 8 with fail
  clear hp_0 hp_1 hp_2 hp_3 hp_4 hp_5 hp_6 hp_7 hp_8 hp_9 hp_10
  go_wp2_with fail
  refine (HRS.out w2 _ g gp HST6.out BP6.out HGP.out HNP.out).mono ?_
  rintro e w9 ⟨rfl, hB9, ⟨A9, c9, hk9⟩, ⟨hs9, hq9⟩, v8, v9, v10, hp9, r8, r9, r10⟩
  have HB9 := Aside0.mk hB9
  have HS := Aside0.mk HST6.out.1.size
  have B29 := Aside0.mk ((hq9 g2 (blk_lt B26.out) HNE.out HNP2.out.symm).trans B26.out)
  have BP9 := Aside0.mk hp9
  obtain ⟨A8x, c8x, rfl⟩ := Kd.R_slice r8
  have R8 := Aside0.mk (Kd.R_lower r8 (Nat.le_trans HB2.out.size HS.out))
  obtain ⟨A9x, c9x, rfl⟩ := Kd.R_slice r9
  have R9 := Aside0.mk (Kd.R_lower r9 (Nat.le_trans HB2.out.size HS.out))
  obtain ⟨A10x, c10x, rfl⟩ := Kd.R_slice r10
  have R10 := Aside0.mk (Kd.R_lower r10 (Nat.le_trans HB2.out.size HS.out))
  obtain ⟨hgz_0, hgz_1⟩ := Hand.Cz.c2 hk9
  clear hB9 hk9 hs9 hq9 hp9 r8 r9 r10 HST6 BP6 B26 HRS
  obtain ⟨hp_0, hp_1, hp_2, hp_3, hp_4, hp_5, hp_6, hp_7, hp_8, hp_9, hp_10⟩ := Hand.Cz.c11 BP9.out
  go_wp2_with (go_at_call 13; refine (message_Right.calls 3 0 bn bd sn sd v ok A8x c8x l8 A9x c9x l9 A10x c10x l10 0 _ (Kd.R_reads' R8.out).2.2 (Kd.R_reads' R8.out).2.1 (Kd.R_reads' R9.out).2.2 (Kd.R_reads' R9.out).2.1 (Kd.R_reads' R10.out).2.2 (Kd.R_reads' R10.out).2.1 HR.out).mono ?_; rintro e wA ⟨rfl, hb⟩; have BPA := Aside0.mk (blk_below BP9.out hb); have B2A := Aside0.mk (blk_below B29.out hb); have HBA := Aside0.mk (below_step HB9.out hb); have R8A := Aside0.mk (Kd.R_below R8.out hb); have R9A := Aside0.mk (Kd.R_below R9.out hb); have R10A := Aside0.mk (Kd.R_below R10.out hb); clear hb; clear hp_0 hp_1 hp_2 hp_3 hp_4 hp_5 hp_6 hp_7 hp_8 hp_9 hp_10; obtain ⟨hp_0, hp_1, hp_2, hp_3, hp_4, hp_5, hp_6, hp_7, hp_8, hp_9, hp_10⟩ := Hand.Cz.c11 BPA.out; obtain ⟨hs_0, hs_1, hs_2, hs_3, hs_4, hs_5, hs_6, hs_7, hs_8, hs_9, hs_10⟩ := Hand.Cz.c11 B2A.out; obtain ⟨hsf_0, hsf_1, hsf_2, hsf_3, hsf_4, hsf_5, hsf_6, hsf_7, hsf_8, hsf_9, hsf_10⟩ := Hand.Cz.f11 B2A.out)
  refine bodyPost_ret (results_ct rfl _ _ g2 30 #[.int .i64 3, .int .u64 0, .int .u64 bn, .int .u64 bd, .int .u64 sn, .int .u64 sd, .int .i64 v, .bool ok, .slice A8x l8.length c8x, .slice A9x l9.length c9x, .slice A10x l10.length c10x] (0, 0) _ rfl (Hand.Cz.p11 B2A.out) Try.underlying30 rfl (by kernel_rfl)) rfl ?_
  exact ⟨_, _, _, rfl, Kd.R_mono (Hand.Cz.r11 (Kd.R_mono (Kd.R_types R8A.out B2A.out (by decide)) (fun _ hk => hk.2))) (fun _ _ => trivial), Kd.R_mono (Hand.Cz.r11 (Kd.R_mono (Kd.R_types R9A.out B2A.out (by decide)) (fun _ hk => hk.2))) (fun _ _ => trivial), Kd.R_mono (Hand.Cz.r11 (Kd.R_mono (Kd.R_types R10A.out B2A.out (by decide)) (fun _ hk => hk.2))) (fun _ _ => trivial), Hand.Cz.b11 (below_step HB2.out HBA.out) HG2.out⟩

set_option maxHeartbeats 8000000 in
set_option maxRecDepth 100000 in
theorem mdec.more3 (bn bd sn sd v : Int) (ok : Bool) (l8 : List S76) (l9 : List S92) (l10 : List Int) (A0 : Option Addr) (c0 : Nat) (l0 : List Int) (w : World) (hr0 : Kd.C (Kd.int .u8) w A0 l0.length l0) (hc0 : l0.length ≤ c0) (K : Nat) (d : List Int) (rest2 : List Int) (hm : 0 < rest2.length) (hm2 : rest2.length ≤ 1000000) (hcut : frame_Cut.f K l0 = some (d, rest2, 0)) (o1 d1 : List Int) (h1 : tk d false 1 = (o1, d1, false)) (hk : rd o1 0 = 3) 
    (hRest : ∀ (w0 W : World) (g gp : Nat), St w0 W g d1 false → W.heap[gp]? = some (.cells #[.int .i64 3, .int .u64 0, .int .u64 0, .int .u64 0, .int .u64 0, .int .u64 0, .int .i64 0, .bool false, .slice none 0 0, .slice none 0 0, .slice none 0 0] 30 (0, 0)) → w0.heap.size ≤ gp → gp ≠ g → Calls Try.prog 46 #[.pointer (some ⟨g, 0, none⟩), .pointer (some ⟨gp, 0, none⟩)] W fun e w' => e = .returned (.tuple #[]) ∧ mdec.RP w0 W w' g gp 3 0 bn bd sn sd v ok l8 l9 l10) :
    Calls Try.prog 19 #[.slice A0 l0.length c0] w fun e w' => e = .returned (.tuple #[.agg #[.int .i64 0, .int .u64 0, .int .u64 0, .int .u64 0, .int .u64 0, .int .u64 0, .int .i64 0, .bool false, .slice none 0 0, .slice none 0 0, .slice none 0 0], .int .i64 6]) ∧ Below w.heap.size w w' := by
  have hu30 := Try.underlying30
  have hu24 := Try.underlying24
  have hu51 := Try.underlying51
  have hu54 := Try.underlying54
  have hu57 := Try.underlying57
  have hu60 := Try.underlying60
  have hu63 := Try.underlying63
  have hu66 := Try.underlying66
  have hu69 := Try.underlying69
  have hu99 := Try.underlying99
  have HC := Aside0.mk hr0
  have HCUT := Aside0.mk hcut
  have H1 := Aside0.mk h1
  have HK := Aside0.mk hk
  have HRS := Aside0.mk hRest
  have HM := Aside0.mk hm
  clear hr0 hcut h1 hk hRest   hm
  go_enter Try.func19, Try.ntmps19
  go_wp2_with ((with_reducible refine gate_dst (N := 2) rfl ?_); refine box_event ?hg (N := 2) ?hd (cs := #[.int .i64 0, .int .u64 0, .int .u64 0, .int .u64 0, .int .u64 0, .int .u64 0, .int .i64 0, .bool false, .slice none 0 0, .slice none 0 0, .slice none 0 0]) (t := 30) ?hr ?_; (case hd => rfl); (case hg => rfl); (case hr => first | (go_simp; done) | (go_simp; rfl)); intro g2 hg w1 hbox hb; have HG2 := Aside0.mk (show w.heap.size ≤ g2 from Nat.le_of_eq hg.symm); have B2 := Aside0.mk hbox; have HB1 := Aside0.mk hb; clear hg hbox hb)
  refine (frame_Cut.calls K A0 c0 l0 d rest2 0 _ (Kd.C_below HC.out HB1.out) hc0 HCUT.out).mono ?_
  rintro e w2 ⟨v1, v2, rfl, hR1, hR2, hb⟩
  obtain ⟨A1, c1, rfl, hle1, hC1⟩ := Kd.R_reads hR1
  obtain ⟨A2, c2, rfl⟩ := Kd.R_slice hR2
  have HB2 := Aside0.mk (below_step HB1.out hb)
  have B22 := Aside0.mk (blk_below B2.out hb)
  have HC1 := Aside0.mk hC1
  have HLE := Aside0.mk hle1
  clear hR1 hR2 hb hle1 hC1
  go_wp2_with ((with_reducible refine gate_dst (N := 21) rfl ?_); refine box_event ?hg (N := 21) ?hd (cs := #[.slice A1 d.length c1, .bool false]) (t := 99) ?hr ?_; (case hd => rfl); (case hg => rfl); (case hr => first | (go_simp; done) | (go_simp; rfl)); intro g hg w3 hbox hb; have hgs := hg.symm; have HST := Aside0.mk (show St w2 w3 g d false from ⟨hb, Nat.le_of_eq hg.symm, A1, c1, hbox, HLE.out, HC1.out⟩); have B23 := Aside0.mk (blk_below B22.out hb); have HNE := Aside0.mk (show g2 ≠ g from by have := blk_lt B22.out; omega); clear hg hbox hb hgs)
  refine (rsmall w2 _ g d false HST.out o1 d1 false 3 H1.out HK.out (by omega) (by omega)).mono ?_
  rintro e w4 ⟨rfl, hst, hkb⟩
  have HST4 := Aside0.mk hst
  have B24 := Aside0.mk ((hkb.2 g2 (blk_lt B23.out) HNE.out (by simp)).trans B23.out)
  clear hst hkb
  go_upto_region 6 with ((with_reducible refine gate_dst (N := 8) rfl ?_); refine box_event ?hg (N := 8) ?hd (cs := #[.int .i64 0, .int .u64 0, .int .u64 0, .int .u64 0, .int .u64 0, .int .u64 0, .int .i64 0, .bool false, .slice none 0 0, .slice none 0 0, .slice none 0 0]) (t := 30) ?hr ?_; (case hd => rfl); (case hg => rfl); (case hr => first | (go_simp; done) | (go_simp; rfl)); intro gp hg w5 hbox hb; have hgs := hg.symm; have HNP := Aside0.mk (show gp ≠ g from by have := blk_lt HST4.out.2.2.choose_spec.choose_spec.1; omega); have HNP2 := Aside0.mk (show gp ≠ g2 from by have := blk_lt B24.out; omega); have HGP := Aside0.mk (show w2.heap.size ≤ gp from by have := HST4.out.1.size; omega); have HST5 := Aside0.mk (St_below HST4.out hb); have B25 := Aside0.mk (blk_below B24.out hb); have BP := Aside0.mk hbox; clear hg hbox hb hgs; obtain ⟨hp_0, hp_1, hp_2, hp_3, hp_4, hp_5, hp_6, hp_7, hp_8, hp_9, hp_10⟩ := Hand.Cz.c11 BP.out; obtain ⟨hpf_0, hpf_1, hpf_2, hpf_3, hpf_4, hpf_5, hpf_6, hpf_7, hpf_8, hpf_9, hpf_10⟩ := Hand.Cz.f11 BP.out)
  generalize hW6 : World.setCell _ (Addr.mk gp 10 none) _ = w6
  have BP6 := Aside0.mk (show w6.heap[gp]? = some (.cells #[.int .i64 3, .int .u64 0, .int .u64 0, .int .u64 0, .int .u64 0, .int .u64 0, .int .i64 0, .bool false, .slice none 0 0, .slice none 0 0, .slice none 0 0] 30 (0, 0)) from by rw [← hW6]; exact Hand.Cz.p11 BP.out)
  have HST6 := Aside0.mk (show St w2 w6 g d1 false from by rw [← hW6]; exact (St_far (St_far (St_far (St_far (St_far (St_far (St_far (St_far (St_far (St_far (St_far HST5.out HGP.out HNP.out.symm 0 _) HGP.out HNP.out.symm 1 _) HGP.out HNP.out.symm 2 _) HGP.out HNP.out.symm 3 _) HGP.out HNP.out.symm 4 _) HGP.out HNP.out.symm 5 _) HGP.out HNP.out.symm 6 _) HGP.out HNP.out.symm 7 _) HGP.out HNP.out.symm 8 _) HGP.out HNP.out.symm 9 _) HGP.out HNP.out.symm 10 _))
  have B26 := Aside0.mk (show w6.heap[g2]? = some (.cells #[.int .i64 0, .int .u64 0, .int .u64 0, .int .u64 0, .int .u64 0, .int .u64 0, .int .i64 0, .bool false, .slice none 0 0, .slice none 0 0, .slice none 0 0] 30 (0, 0)) from by rw [← hW6]; exact Hand.Cz.o11 B25.out HNP2.out.symm)
  clear hW6 BP HST5 B25 HST4 B24 hp_0 hp_1 hp_2 hp_3 hp_4 hp_5 hp_6 hp_7 hp_8 hp_9 hp_10 hpf_0 hpf_1 hpf_2 hpf_3 hpf_4 hpf_5 hpf_6 hpf_7 hpf_8 hpf_9 hpf_10
  obtain ⟨hp_0, hp_1, hp_2, hp_3, hp_4, hp_5, hp_6, hp_7, hp_8, hp_9, hp_10⟩ := Hand.Cz.c11 BP6.out
  go_upto_region 8 with fail
  clear hp_0 hp_1 hp_2 hp_3 hp_4 hp_5 hp_6 hp_7 hp_8 hp_9 hp_10
  go_wp2_with fail
  refine (HRS.out w2 _ g gp HST6.out BP6.out HGP.out HNP.out).mono ?_
  rintro e w9 ⟨rfl, hB9, ⟨A9, c9, hk9⟩, ⟨hs9, hq9⟩, v8, v9, v10, hp9, r8, r9, r10⟩
  have HB9 := Aside0.mk hB9
  have HS := Aside0.mk HST6.out.1.size
  have B29 := Aside0.mk ((hq9 g2 (blk_lt B26.out) HNE.out HNP2.out.symm).trans B26.out)
  have BP9 := Aside0.mk hp9
  obtain ⟨A8x, c8x, rfl⟩ := Kd.R_slice r8
  have R8 := Aside0.mk (Kd.R_lower r8 (Nat.le_trans HB2.out.size HS.out))
  obtain ⟨A9x, c9x, rfl⟩ := Kd.R_slice r9
  have R9 := Aside0.mk (Kd.R_lower r9 (Nat.le_trans HB2.out.size HS.out))
  obtain ⟨A10x, c10x, rfl⟩ := Kd.R_slice r10
  have R10 := Aside0.mk (Kd.R_lower r10 (Nat.le_trans HB2.out.size HS.out))
  obtain ⟨hgz_0, hgz_1⟩ := Hand.Cz.c2 hk9
  clear hB9 hk9 hs9 hq9 hp9 r8 r9 r10 HST6 BP6 B26 HRS
  obtain ⟨hp_0, hp_1, hp_2, hp_3, hp_4, hp_5, hp_6, hp_7, hp_8, hp_9, hp_10⟩ := Hand.Cz.c11 BP9.out
  have hwl : wrap64 (rest2.length : Int) = (rest2.length : Int) := by unfold wrap64; omega
  have hlb : decide ((rest2.length : Int) > 0) = true := decide_eq_true (by have := HM.out; omega)
  have hlb2 : decide (0 < (rest2.length : Int)) = true := decide_eq_true (by have := HM.out; omega)
  have hne0 : ¬ rest2 = [] := by intro q; have := HM.out; rw [q] at this; exact absurd this (by decide)
  have hne1 : (rest2 = []) = False := eq_false hne0
  have hpos : 0 < rest2.length := HM.out
  obtain ⟨hs_0, hs_1, hs_2, hs_3, hs_4, hs_5, hs_6, hs_7, hs_8, hs_9, hs_10⟩ := Hand.Cz.c11 B29.out
  obtain ⟨hsf_0, hsf_1, hsf_2, hsf_3, hsf_4, hsf_5, hsf_6, hsf_7, hsf_8, hsf_9, hsf_10⟩ := Hand.Cz.f11 B29.out
  go_wp2
  refine bodyPost_ret (results_ct rfl _ _ g2 30 #[.int .i64 0, .int .u64 0, .int .u64 0, .int .u64 0, .int .u64 0, .int .u64 0, .int .i64 0, .bool false, .slice none 0 0, .slice none 0 0, .slice none 0 0] (0, 0) _ rfl (Hand.Cz.p11 B29.out) Try.underlying30 rfl (by kernel_rfl)) rfl ?_
  exact ⟨rfl, Hand.Cz.b11 (below_step HB2.out HB9.out) HG2.out⟩

end Go.Proofs.Ytlpnpnjjmpkapaa.PAll
