import Derived.Test.YtlpnpnjjmpkapaaPAllx0
import Derived.Test.YtlpnpnjjmpkapaaPAllx5
import Derived.Test.YtlpnpnjjmpkapaaPAllx8
import Derived.Test.YtlpnpnjjmpkapaaPAllx9
namespace Go.Proofs.Ytlpnpnjjmpkapaa.PAll
open Go.RowKit Go.Proofs.YtlpnpnjjmpkapaaW.PrintWords Go.Proofs.YtlpnpnjjmpkapaaW.PrintLast Go.Proofs.YtlpnpnjjmpkapaaW.PrintMore
attribute [local go_sem] max2_int min2_int max_two min_two max_three min_three max_four min_four   -- for this text's walks alone
set_option linter.unusedVariables false
set_option linter.unusedSimpArgs false

/-- A writer in memory: what it holds, in memory behind wm, in blocks that are ok. -/
def message_Encode.WS (wm w : World) (g : Nat) (okw : Nat → Prop) (bs : List Int) : Prop :=
 Below wm.heap.size wm w ∧ wm.heap.size ≤ g ∧ ¬ okw g ∧ (∀ k, w.heap.size ≤ k → okw k) ∧ ∃ v : Value, w.heap[g]? = some (.cells #[v] 87 (0, 0)) ∧ Kd.R (Kd.int .u8) 5 w wm.heap.size okw v bs
theorem message_Encode.WS_below {wm w w' : World} {g : Nat} {okw : Nat → Prop} {bs : List Int} (h : message_Encode.WS wm w g okw bs) (hb : Below w.heap.size w w') : message_Encode.WS wm w' g okw bs := by
 obtain ⟨hB, hg, hn, hf, v, hk, hR⟩ := h
 exact ⟨below_step hB hb, hg, hn, fun k hk => hf k (Nat.le_trans hb.size hk), v, blk_below hk hb, Kd.R_below hR hb⟩
theorem message_Encode.WS_more {wm w : World} {g : Nat} {okw okw' : Nat → Prop} {bs : List Int} (h : message_Encode.WS wm w g okw bs) (hn : ¬ okw' g) (hm : ∀ k, okw k → okw' k) : message_Encode.WS wm w g okw' bs := by
 obtain ⟨hB, hg, _, hf, v, hk, hR⟩ := h
 exact ⟨hB, hg, hn, fun k hk => hm k (hf k hk), v, hk, Kd.R_mono hR hm⟩
set_option maxHeartbeats 8000000 in
set_option maxRecDepth 100000 in
theorem message_Encode.small (wm w : World) (g : Nat) (okw : Nat → Prop) (bs : List Int) (n : Int) (h : message_Encode.WS wm w g okw bs) (hl : bs.length ≤ 100000) :
  Calls Try.prog 37 #[.pointer (some ⟨g, 0, none⟩), .int .i64 n] w fun e w' => e = .returned (.tuple #[]) ∧ message_Encode.WS wm w' g okw (bs ++ [n % 256]) ∧ Kept w w' (fun k => k = g ∨ okw k) := by
 obtain ⟨hB, hg, hn, hf, v, hk, hR⟩ := h
 have hu87 := Try.underlying87; have hcz_0 : w.cell? ⟨g, 0, none⟩ = some v := (blk_cell hk 0).trans rfl; have hfz_0 := blk_frozen hk 0; have HB := Aside0.mk hB; have HG := Aside0.mk hg; have HN := Aside0.mk hn; have HF := Aside0.mk hf; have BK := Aside0.mk hk; have HR := Aside0.mk hR
 have HL := Aside0.mk (show (bs.length + 1) * 1 ≤ 140737488355328 by omega)
 clear hB hg hk hR hn hf
 go_enter Try.func37, Try.ntmps37
 go_wp2_with (at_builtin; refine Kd.R_append (Kd.int .u8) (w0 := wm) wm.heap.size rfl (.tmp 8) (.tmp 11) 35 5 (.int .u8 0) 1 rfl Try.underlying35 info5 rfl (by decide) (by decide) _ bs (n % 256) [.int .u8 (n % 256)] okw (fun _ => False) rfl rfl rfl (fun _ hk => hk.elim) (fun k hk => HF.out k hk) HR.out HB.out HB.out.size HL.out ?_; intro v7 w7 ho7 hb7 hg7 hat7; obtain ⟨A7, c7, rfl⟩ := Kd.R_slice ho7; have BK7 := Aside0.mk (blk_grown BK.out hg7 (Kd.R_away HR.out (fun k hk e => HN.out (e ▸ hk)))); have HO7 := Aside0.mk ho7; have HB7 := Aside0.mk hb7; have HG7 := Aside0.mk hg7; have hq_0 : w7.cell? ⟨g, 0, none⟩ = some v := (blk_cell BK7.out 0).trans rfl; have hqf_0 := blk_frozen BK7.out 0; clear ho7 hb7 hg7 hat7)
 go_end0
 have hsz : ∀ u, (w7.setCell ⟨g, 0, none⟩ u).heap.size = w7.heap.size := fun u => by simp [World.setCell]
 have hK : Kept w w7 (fun k => k = g ∨ okw k) := Kept.of_grown HG7.out (Kept.refl _ _) (fun k hk => .inl (.inr (HR.out.1 k hk)))
 exact ⟨rfl, ⟨below_set HB7.out HG.out, HG.out, HN.out, fun k hk => HF.out k (by have := hK.1; rw [hsz] at hk; omega), _, (blk_set BK7.out 0 _).trans rfl, (by have hq := Kd.R_far (p := ⟨g, 0, none⟩) HO7.out (fun k h e => HN.out (by rw [show k = g from e] at h; exact h)) (.slice A7 (bs.length + 1) c7); rw [List.length_append, List.length_singleton] at hq; exact hq)⟩, hK.setCell (.inl (.inl rfl)) _⟩
/-- The bytes of numbers, behind bytes. -/
def message_Encode.nums : List Int → List Int → Option (List Int)
 | bs, [] => some bs
 | bs, n :: l => (num_Put64.f 100 bs n).bind fun b => message_Encode.nums b l
theorem message_Encode.dropi (l : List Int) {k : Nat} (h : k < l.length) : l.drop k = l.getD k 0 :: l.drop (k + 1) := by
 rw [List.drop_eq_getElem_cons h]
 simp [List.getD_eq_getElem?_getD, List.getElem?_eq_getElem h]
set_option maxHeartbeats 8000000 in
set_option maxRecDepth 100000 in
theorem message_Encode.numbers (wm w : World) (g : Nat) (okw : Nat → Prop) (bs : List Int) (A : Option Addr) (c : Nat) (l : List Int) (r : List Int) (h : message_Encode.WS wm w g okw bs) (hC : ∀ W', Kept w W' (fun k => k = g ∨ okw k) → Kd.C (Kd.int .u64) W' A l.length l) (hl : l.length ≤ 1000) (hn : message_Encode.nums bs l = some r) :
  Calls Try.prog 38 #[.pointer (some ⟨g, 0, none⟩), .slice A l.length c] w fun e w' => e = .returned (.tuple #[]) ∧ message_Encode.WS wm w' g okw r ∧ Kept w w' (fun k => k = g ∨ okw k) := by
 have hu87 := Try.underlying87; have HW := Aside0.mk h; have HC := Aside0.mk hC; have HN := Aside0.mk hn; clear h hC hn
 go_enter Try.func38, Try.ntmps38
 go_wp2
 go_loopw [8] (fun i wr => ∃ k : Nat, k ≤ l.length ∧ i = .int .i64 k ∧ ∃ b : List Int, Aside0 (message_Encode.nums b (l.drop k) = some r) ∧ Aside0 (message_Encode.WS wm wr g okw b) ∧ Aside0 (Kept w wr (fun k => k = g ∨ okw k))) (fun i _ => l.length - (intOf i).toNat)
 case atStart => exact ⟨0, Nat.zero_le _, rfl, bs, HN, HW, ⟨Kept.refl _ _⟩⟩
 case round =>
  clear HN HW
  obtain ⟨k, hk, rfl, b, HN, HW, HK⟩ := hrel
  by_cases hlt : k < l.length
  ·have hn := HN.out
   rw [message_Encode.dropi l hlt, message_Encode.nums] at hn
   obtain ⟨b2, hp, hn2⟩ := Option.bind_eq_some_iff.1 hn
   obtain ⟨ad, rfl, hx0⟩ := Kd.at_int (HC.out _ HK.out) (k : Int) (by omega) (by omega)
   rw [show rd l (k : Int) = l.getD k 0 from rfl, Int.toNat_natCast] at hx0
   generalize l.getD k 0 = n at *
   obtain ⟨hB, hg, hno, hf, v, hkk, hR⟩ := HW.out
   have hcz_0 : wr.cell? ⟨g, 0, none⟩ = some v := (blk_cell hkk 0).trans rfl; have HP := Aside0.mk hp; have HN2 := Aside0.mk hn2; have HB := Aside0.mk hB; have HG := Aside0.mk hg; have HNO := Aside0.mk hno; have HF := Aside0.mk hf; have BK := Aside0.mk hkk; have HR := Aside0.mk hR; clear hn hn2 hp hB hg hno hf hkk hR HN HW; have hltb : decide ((k : Int) < (l.length : Int)) = true := decide_eq_true (by omega); have p0 : (0 ≤ (k : Int)) = True := eq_true (by omega); have p1 : ((k : Int) < (l.length : Int)) = True := eq_true (by omega)
   go_wp2_with fail
   refine (num_Put64.calls 100 okw v b n b2 wm _ HB.out HR.out HP.out).mono ?_
   rintro e w6 ⟨v6, rfl, hR6, hb6, hk6⟩
   obtain ⟨A6, c6, rfl⟩ := Kd.R_slice hR6
   have BK6 := Aside0.mk (blk_kept BK.out hk6 HNO.out)
   have HO6 := Aside0.mk (show Kd.R (Kd.int .u8) 5 w6 wm.heap.size okw _ b2 from Kd.R_mono hR6 (fun k hk => hk.elim id (HF.out k)))
   have HB6 := Aside0.mk hb6; have HK6 := Aside0.mk hk6; clear hR6 hb6 hk6 hcz_0; have hq_0 : w6.cell? ⟨g, 0, none⟩ = some v := (blk_cell BK6.out 0).trans rfl; have hqf_0 := blk_frozen BK6.out 0
   go_wp2
   go_roundw
   case rel =>
    have hsz : ∀ u, (w6.setCell ⟨g, 0, none⟩ u).heap.size = w6.heap.size := fun u => by simp [World.setCell]
    refine ⟨k + 1, by omega, by go_num, b2, HN2, ⟨below_set HB6.out HG.out, HG.out, HNO.out, fun q hq => HF.out q (by have := HK6.out.1; rw [hsz] at hq; omega), _, (blk_set BK6.out 0 _).trans rfl, Kd.R_far (p := ⟨g, 0, none⟩) HO6.out (fun k h e => HNO.out (by rw [show k = g from e] at h; exact h)) _⟩, ⟨?_⟩⟩
    exact (HK.out.then_ HK6.out (fun q hq => .inl (.inr hq))).setCell (.inl (.inl rfl)) _
   case measure => simp [intOf]; omega
  ·obtain rfl : k = l.length := by omega
   have hn := HN.out
   rw [List.drop_of_length_le (Nat.le_refl _), message_Encode.nums] at hn
   obtain rfl := Option.some.inj hn
   clear hn HN
   go_wp2
   go_end0
   exact ⟨rfl, HW.out, HK.out⟩

set_option maxHeartbeats 8000000 in
set_option maxRecDepth 100000 in
theorem message_Encode.of_ok (kd tr bn bd sn sd v : Int) (ok : Bool) (A8 : Option Addr) (c8 : Nat) (l8 : List S76) (A9 : Option Addr) (c9 : Nat) (l9 : List S92) (A10 : Option Addr) (c10 : Nat) (l10 : List Int) (w : World) (M : World → Value → Prop)
  (hR : ∀ W, Below w.heap.size w W → Calls Try.prog 13 #[.agg #[.int .i64 kd, .int .u64 tr, .int .u64 bn, .int .u64 bd, .int .u64 sn, .int .u64 sd, .int .i64 v, .bool ok, .slice A8 l8.length c8, .slice A9 l9.length c9, .slice A10 l10.length c10]] W fun e w' => e = .returned (.int .i64 0) ∧ Below W.heap.size W w')
  (hT : ∀ W, Below w.heap.size w W → Calls Try.prog 28 #[.agg #[.int .i64 kd, .int .u64 tr, .int .u64 bn, .int .u64 bd, .int .u64 sn, .int .u64 sd, .int .i64 v, .bool ok, .slice A8 l8.length c8, .slice A9 l9.length c9, .slice A10 l10.length c10]] W fun e w' => ∃ m, e = .returned m ∧ M w' m ∧ Below W.heap.size W w') :
  Calls Try.prog 23 #[.agg #[.int .i64 kd, .int .u64 tr, .int .u64 bn, .int .u64 bd, .int .u64 sn, .int .u64 sd, .int .i64 v, .bool ok, .slice A8 l8.length c8, .slice A9 l9.length c9, .slice A10 l10.length c10]] w fun e w' => ∃ m, e = .returned (.tuple #[m, .int .i64 0]) ∧ M w' m ∧ Below w.heap.size w w' := by
 have hu30 := Try.underlying30; have hu24 := Try.underlying24; have hu51 := Try.underlying51; have hu54 := Try.underlying54; have hu57 := Try.underlying57; have hu60 := Try.underlying60; have hu63 := Try.underlying63; have hu66 := Try.underlying66; have hu69 := Try.underlying69; have HR0 := Aside0.mk hR; have HT0 := Aside0.mk hT; clear hR hT
 go_enter Try.func23, Try.ntmps23
 go_wp2_with (first | ((with_reducible refine gate_dst (N := 1) rfl ?_); refine box_event ?hg (N := 1) ?hd (cs := #[.int .i64 kd, .int .u64 tr, .int .u64 bn, .int .u64 bd, .int .u64 sn, .int .u64 sd, .int .i64 v, .bool ok, .slice A8 l8.length c8, .slice A9 l9.length c9, .slice A10 l10.length c10]) (t := 30) ?hr ?_; (case hd => rfl); (case hg => rfl); (case hr => (go_simp; done)); intro g hg w1 hbox hb; have HB := Aside0.mk hb; have BK := Aside0.mk hbox; have HGE := Aside0.mk (show w.heap.size ≤ g from Nat.le_of_eq hg.symm); clear hb hbox hg; obtain ⟨hcz_0, hcz_1, hcz_2, hcz_3, hcz_4, hcz_5, hcz_6, hcz_7, hcz_8, hcz_9, hcz_10⟩ := Hand.Cz.c11 BK.out) | (go_at_call 13; refine (HR0.out _ HB.out).mono ?_; rintro e w2 ⟨rfl, hb⟩; have BK2 := Aside0.mk (blk_below BK.out hb); have HB2 := Aside0.mk (below_step HB.out hb); clear hb; clear hcz_0 hcz_1 hcz_2 hcz_3 hcz_4 hcz_5 hcz_6 hcz_7 hcz_8 hcz_9 hcz_10; obtain ⟨hcz_0, hcz_1, hcz_2, hcz_3, hcz_4, hcz_5, hcz_6, hcz_7, hcz_8, hcz_9, hcz_10⟩ := Hand.Cz.c11 BK2.out) | (go_at_call 28; refine (HT0.out _ HB2.out).mono ?_; rintro e w3 ⟨m, rfl, hm, hb⟩; have HM3 := Aside0.mk hm; have HB3 := Aside0.mk (below_step HB2.out hb); clear hm hb))
 go_ret2
 exact ⟨_, rfl, HM3.out, HB3.out⟩

set_option maxHeartbeats 8000000 in
set_option maxRecDepth 100000 in
theorem message_Encode.of_bad (kd tr bn bd sn sd v : Int) (ok : Bool) (A8 : Option Addr) (c8 : Nat) (l8 : List S76) (A9 : Option Addr) (c9 : Nat) (l9 : List S92) (A10 : Option Addr) (c10 : Nat) (l10 : List Int) (w : World) (k : Int) (hk : k ≠ 0)
  (hR : ∀ W, Below w.heap.size w W → Calls Try.prog 13 #[.agg #[.int .i64 kd, .int .u64 tr, .int .u64 bn, .int .u64 bd, .int .u64 sn, .int .u64 sd, .int .i64 v, .bool ok, .slice A8 l8.length c8, .slice A9 l9.length c9, .slice A10 l10.length c10]] W fun e w' => e = .returned (.int .i64 k) ∧ Below W.heap.size W w') :
  Calls Try.prog 23 #[.agg #[.int .i64 kd, .int .u64 tr, .int .u64 bn, .int .u64 bd, .int .u64 sn, .int .u64 sd, .int .i64 v, .bool ok, .slice A8 l8.length c8, .slice A9 l9.length c9, .slice A10 l10.length c10]] w fun e w' => e = .returned (.tuple #[.nilIface, .int .i64 k]) ∧ Below w.heap.size w w' := by
 have hu30 := Try.underlying30; have hu24 := Try.underlying24; have hu51 := Try.underlying51; have hu54 := Try.underlying54; have hu57 := Try.underlying57; have hu60 := Try.underlying60; have hu63 := Try.underlying63; have hu66 := Try.underlying66; have hu69 := Try.underlying69; have HR0 := Aside0.mk hR; have hkb : (k != 0) = true := bne_iff_ne.mpr hk; clear hR hk
 go_enter Try.func23, Try.ntmps23
 go_wp2_with (first | ((with_reducible refine gate_dst (N := 1) rfl ?_); refine box_event ?hg (N := 1) ?hd (cs := #[.int .i64 kd, .int .u64 tr, .int .u64 bn, .int .u64 bd, .int .u64 sn, .int .u64 sd, .int .i64 v, .bool ok, .slice A8 l8.length c8, .slice A9 l9.length c9, .slice A10 l10.length c10]) (t := 30) ?hr ?_; (case hd => rfl); (case hg => rfl); (case hr => (go_simp; done)); intro g hg w1 hbox hb; have HB := Aside0.mk hb; have BK := Aside0.mk hbox; have HGE := Aside0.mk (show w.heap.size ≤ g from Nat.le_of_eq hg.symm); clear hb hbox hg; obtain ⟨hcz_0, hcz_1, hcz_2, hcz_3, hcz_4, hcz_5, hcz_6, hcz_7, hcz_8, hcz_9, hcz_10⟩ := Hand.Cz.c11 BK.out) | (go_at_call 13; refine (HR0.out _ HB.out).mono ?_; rintro e w2 ⟨rfl, hb⟩; have BK2 := Aside0.mk (blk_below BK.out hb); have HB2 := Aside0.mk (below_step HB.out hb); clear hb; clear hcz_0 hcz_1 hcz_2 hcz_3 hcz_4 hcz_5 hcz_6 hcz_7 hcz_8 hcz_9 hcz_10; obtain ⟨hcz_0, hcz_1, hcz_2, hcz_3, hcz_4, hcz_5, hcz_6, hcz_7, hcz_8, hcz_9, hcz_10⟩ := Hand.Cz.c11 BK2.out))
 go_ret2
 exact ⟨rfl, HB2.out⟩

theorem message_Encode.WS_lit {wm w w' : World} {g : Nat} {okw : Nat → Prop} {bs : List Int} (h : message_Encode.WS wm w g okw bs) (hb : Below w.heap.size w w') (hlt : w.heap.size < w'.heap.size) : message_Encode.WS wm w' g (fun k => okw k ∧ k ≠ w.heap.size) bs := by
 obtain ⟨hB, hg, hn, hf, v, hk, hR⟩ := h
 exact ⟨below_step hB hb, hg, fun h => hn h.1, fun k hk => ⟨hf k (by omega), by omega⟩, v, blk_below hk hb, Kd.R_below (Kd.R_mono (Kd.R_bound hR) (fun k hk => ⟨hk.1, by have := hk.2.2; omega⟩)) hb⟩
theorem message_Encode.WS_lt {wm w : World} {g : Nat} {okw : Nat → Prop} {bs : List Int} (h : message_Encode.WS wm w g okw bs) : g < w.heap.size := blk_lt h.2.2.2.2.choose_spec.1
/-- Numbers that stand in a row of the caller's own. -/
theorem message_Encode.numbers_lit (wm w w2 : World) (g : Nat) (okw : Nat → Prop) (bs : List Int) (A : Option Addr) (c : Nat) (l : List Int) (r : List Int) (h : message_Encode.WS wm w g okw bs) (hb : Below w.heap.size w w2) (hR : Kd.R (Kd.int .u64) 22 w2 w.heap.size (fun k => k = w.heap.size) (.slice A l.length c) l) (hnew : ∃ b, (Value.slice A l.length c).ownBlock = some b ∧ w.heap.size ≤ b) (hl : l.length ≤ 1000) (hn : message_Encode.nums bs l = some r) :
  Calls Try.prog 38 #[.pointer (some ⟨g, 0, none⟩), .slice A l.length c] w2 fun e w' => e = .returned (.tuple #[]) ∧ message_Encode.WS wm w' g okw r ∧ Kept w w' (fun k => k = g ∨ okw k) := by
 have hgl := message_Encode.WS_lt h
 have hlt : w.heap.size < w2.heap.size := by
  obtain ⟨b, e, hbb⟩ := hnew
  have := (Kd.R_bound hR).1 b e
  omega
 refine (message_Encode.numbers wm w2 g (fun k => okw k ∧ k ≠ w.heap.size) bs A c l r (message_Encode.WS_lit h hb hlt) (Kd.C_kept_own hR (fun k hk => by subst hk; rintro (e | e); omega; exact e.2 rfl)) hl hn).mono ?_
 rintro e w' ⟨he, hW, hK⟩
 refine ⟨he, message_Encode.WS_more hW h.2.2.1 (fun k hk => hk.1), (Kept.of_below hb _).then_ hK (fun k hk => .inl (hk.imp id (fun h => h.1)))⟩

set_option maxHeartbeats 8000000 in
set_option maxRecDepth 100000 in
theorem message_Encode.ballot (wm w : World) (g : Nat) (okw : Nat → Prop) (bs : List Int) (bn bd : Int) (r : List Int) (h : message_Encode.WS wm w g okw bs) (hn : message_Encode.nums bs [bn, bd] = some r) :
  Calls Try.prog 40 #[.pointer (some ⟨g, 0, none⟩), .agg #[.int .u64 bn, .int .u64 bd]] w fun e w' => e = .returned (.tuple #[]) ∧ message_Encode.WS wm w' g okw r ∧ Kept w w' (fun k => k = g ∨ okw k) := by
 have hu24 := Try.underlying24; have HW := Aside0.mk h; have HN := Aside0.mk hn; clear h hn
 go_enter Try.func40, Try.ntmps40
 go_wp2_with (first | ((with_reducible refine gate_dst (N := 3) rfl ?_); refine box_event ?hg (N := 3) ?hd (cs := #[.int .u64 bn, .int .u64 bd]) (t := 24) ?hr ?_; (case hd => rfl); (case hg => rfl); (case hr => (go_simp; done)); intro g2 hg w1 hbox hb; have HW1 := Aside0.mk (message_Encode.WS_below HW.out hb); have HB1 := Aside0.mk hb; have hcz_0 : w1.cell? ⟨g2, 0, none⟩ = some (.int .u64 bn) := (blk_cell hbox 0).trans rfl; have hcz_1 : w1.cell? ⟨g2, 1, none⟩ = some (.int .u64 bd) := (blk_cell hbox 1).trans rfl; clear hb hbox hg) | ((with_reducible refine gate_dst (N := 9) rfl ?_); refine Kd.R_lit (Kd.int .u64) (w0 := w1) w1.heap.size 22 ?hg (N := 9) ?hd (xs := ([bn, bd] : List Int)) (inner := [.int .u64 bn, .int .u64 bd]) (ok := fun k => k = w1.heap.size) (okp := fun _ => False) ?hr ?hp (fun _ hk => hk.elim) rfl (Below.refl _ _) (Nat.le_refl _) (by simp) ?_; (case hd => rfl); (case hg => rfl); (case hr => (go_simp; done)); (case hp => exact (Reps.one (show Kd.M (Kd.int .u64) _ _ _ bn [.int .u64 bn] from rfl) (Reps.one (show Kd.M (Kd.int .u64) _ _ _ bd [.int .u64 bd] from rfl) (Reps.none _ _)))); intro vl wl ho hb hg_ hnew_; have HRL := Aside0.mk ho; have HBL := Aside0.mk hb; have HNW := Aside0.mk hnew_; clear ho hb hg_ hnew_))
 obtain ⟨Al, cl, rfl⟩ := Kd.R_slice HRL.out
 refine (message_Encode.numbers_lit wm w1 wl g okw bs Al cl [bn, bd] r HW1.out HBL.out HRL.out HNW.out (by simp) HN.out).mono ?_
 rintro e w3 ⟨rfl, hW, hK⟩
 have HW3 := Aside0.mk hW
 have HK3 := Aside0.mk ((Kept.of_below HB1.out _).then_ hK (fun k hk => .inl hk))
 clear hW hK
 go_wp2
 go_end0
 exact ⟨rfl, HW3.out, HK3.out⟩

theorem message_Encode.WS_far {wm w : World} {g q : Nat} {okw : Nat → Prop} {bs : List Int} (h : message_Encode.WS wm w g okw bs) (hq : wm.heap.size ≤ q) (hn : ¬ okw q) (hne : g ≠ q) (i : Nat) (u : Value) : message_Encode.WS wm (w.setCell ⟨q, i, none⟩ u) g okw bs := by
 obtain ⟨hB, hg, hno, hf, v, hk, hR⟩ := h
 exact ⟨below_set hB hq, hg, hno, fun k hk => hf k (by simpa [World.setCell] using hk), v, blk_far hk (p := ⟨q, i, none⟩) hne u, Kd.R_far (p := ⟨q, i, none⟩) hR (fun k h e => hn (by rw [show k = q from e] at h; exact h)) u⟩
theorem message_Encode.WS_blk {wm w : World} {g q : Nat} {o : Obj} {okw : Nat → Prop} {bs : List Int} (h : message_Encode.WS wm w g okw bs) (hq : wm.heap[q]? = some o) : w.heap[q]? = some o := (h.1.block q (blk_lt hq)).trans hq
theorem message_Encode.WS_row {wm w : World} {g : Nat} {okw : Nat → Prop} {bs : List Int} (h : message_Encode.WS wm w g okw bs) : ∃ (A : Option Addr) (c : Nat), w.heap[g]? = some (.cells #[.slice A bs.length c] 87 (0, 0)) ∧ bs.length ≤ c ∧ Kd.C (Kd.int .u8) w A bs.length bs := by
 obtain ⟨hB, hg, hno, hf, v, hk, hR⟩ := h
 obtain ⟨A, c, rfl, hle, hC⟩ := Kd.R_reads hR
 exact ⟨A, c, hk, hle, hC⟩

/-- The bytes of spans, of members, behind bytes. -/
def message_Encode.sps : List Int → List S76 → Option (List Int)
 | bs, [] => some bs
 | bs, s :: l => (span_Put.f bs s.f0 s.f1 s.f2 s.f3 s.f4 s.f5 s.f6 s.f7).bind fun p => message_Encode.sps p.1 l
def message_Encode.mems : List Int → List S92 → Option (List Int)
 | bs, [] => some bs
 | bs, m :: l => (message_Encode.nums bs [m.f0, m.f1]).bind fun b => if b.length ≤ 100000 then message_Encode.mems (b ++ [m.f2 % 256]) l else none
theorem message_Encode.drop92 (l : List S92) {k : Nat} (h : k < l.length) : l.drop k = l.getD k z92 :: l.drop (k + 1) := by
 rw [List.drop_eq_getElem_cons h]
 simp [List.getD_eq_getElem?_getD, List.getElem?_eq_getElem h]

def message_Encode.T39_4 : Bool × List (List Nat × List Nat) := (true, [([], []), ([], []), ([1], [1]), ([2], [2]), ([3], [3]), ([], []), ([4, 5], [4, 5]), ([6], [6]), ([7], [7]), ([7], [7]), ([0, 0, 1, 2, 3, 4, 5, 6, 7, 8], [0]), ([10, 0, 1, 2, 3, 4, 5, 6, 7, 8], [10]), ([11, 8, 6, 0, 1, 2, 3, 4, 5, 6, 7, 8], [8, 11])])
def message_Encode.B39_4 : List Nat := [0, 0, 2, 6, 14, 0, 62, 126, 254, 254, 511, 1535, 3583]
theorem message_Encode.tab39_4 : rtab .any (opsOf Try.f39 4) = message_Encode.T39_4 := by kernel_rfl
theorem message_Encode.bits39_4 : waitsOk message_Encode.T39_4.2 message_Encode.B39_4 = true := by kernel_rfl
set_option maxHeartbeats 8000000 in
set_option maxRecDepth 100000 in
theorem message_Encode.spans (wm w : World) (g : Nat) (okw : Nat → Prop) (bs : List Int) (A : Option Addr) (c : Nat) (l : List S76) (r : List Int) (h : message_Encode.WS wm w g okw bs) (hl : bs.length ≤ 100000) (hC : Kd.C k76 wm A l.length l) (hll : l.length ≤ 1000) (hn : message_Encode.sps (bs ++ [(l.length : Int) % 256]) l = some r) :
  Calls Try.prog 39 #[.pointer (some ⟨g, 0, none⟩), .slice A l.length c] w fun e w' => e = .returned (.tuple #[]) ∧ message_Encode.WS wm w' g okw r ∧ Kept w w' (fun k => k = g ∨ okw k) := by
 have hu87 := Try.underlying87; have hu76 := Try.underlying76; have HW := Aside0.mk h; have HL := Aside0.mk hl; have HC := Aside0.mk hC; have HN := Aside0.mk hn; clear h hC hn hl
 go_enter Try.func39, Try.ntmps39
 go_wp2_with fail
 refine (message_Encode.small wm w g okw bs (l.length : Int) HW.out HL.out).mono ?_
 rintro e w1 ⟨rfl, hW, hK⟩
 have HW1 := Aside0.mk hW; have HK1 := Aside0.mk hK; clear hW hK HW HL
 generalize bs ++ [(l.length : Int) % 256] = bs1 at *
 go_wp2
 go_loopw [12] (fun i wr => ∃ k : Nat, k ≤ l.length ∧ i = .int .i64 k ∧ ∃ b : List Int, Aside0 (message_Encode.sps b (l.drop k) = some r) ∧ Aside0 (message_Encode.WS wm wr g okw b) ∧ Aside0 (Kept w wr (fun k => k = g ∨ okw k))) (fun i _ => l.length - (intOf i).toNat)
 case atStart => exact ⟨0, Nat.zero_le _, rfl, bs1, HN, HW1, HK1⟩
 case round =>
  clear HN HW1 HK1
  obtain ⟨k, hk, rfl, b, HN, HW, HK⟩ := hrel
  by_cases hlt : k < l.length
  ·have hn := HN.out
   rw [message_spans.drop_ l hlt, message_Encode.sps] at hn
   obtain ⟨⟨p, pk⟩, hp, hn2⟩ := Option.bind_eq_some_iff.1 hn
   obtain ⟨ad, rfl, hx0, hx1, hx2, hx3, hx4, hx5, hx6, hx7⟩ := at_T76 (Kd.C_below HC.out HW.out.1) (k : Int) (by omega) (by omega)
   have hrd : rd_T76 l (k : Int) = l.getD k z76 := rfl
   rw [hrd, Int.toNat_natCast] at hx0 hx1 hx2 hx3 hx4 hx5 hx6 hx7
   generalize l.getD k z76 = s at *
   obtain ⟨s0, s1, s2, s3, s4, s5, s6, s7⟩ := s
   have HP := Aside0.mk hp; have HN2 := Aside0.mk hn2; clear HN hn hn2 hp hrd
   simp only at HP HN2 hx0 hx1 hx2 hx3 hx4 hx5 hx6 hx7
   have hltb : decide ((k : Int) < (l.length : Int)) = true := decide_eq_true (by omega); have p0 : (0 ≤ (k : Int)) = True := eq_true (by omega); have p1 : ((k : Int) < (l.length : Int)) = True := eq_true (by omega)
   go_upto_region 4 with ((with_reducible refine gate_dst (N := 5) rfl ?_); refine box_event ?hg (N := 5) ?hd (cs := #[.int .u64 0, .int .u64 0, .int .u64 0, .int .u64 0, .int .u64 0, .string ⟨#[]⟩, .string ⟨#[]⟩, .bool false]) (t := 76) ?hr ?_; (case hd => rfl); (case hg => rfl); (case hr => (go_simp; done)); intro gx hg w6 hbox hb; have hgx := hg.symm; have HX := Aside0.mk (show message_Encode.WS wm w6 g (fun k => (okw) k ∧ k ≠ gx) _ from by rw [hg]; exact message_Encode.WS_lit HW.out hb (by rw [← hg]; exact blk_lt hbox)); have HNE := Aside0.mk (show g ≠ gx from by have := message_Encode.WS_lt HW.out; omega); have HGX := Aside0.mk (show wm.heap.size ≤ gx from by have := HW.out.1.size; omega); have HGW := Aside0.mk (Nat.le_of_eq hgx); have HBX := Aside0.mk hb; have BX := Aside0.mk hbox; clear hbox hb hg hgx; obtain ⟨hxz_0, hxz_1, hxz_2, hxz_3, hxz_4, hxz_5, hxz_6, hxz_7⟩ := Hand.Cz.c8 BX.out; obtain ⟨hxf_0, hxf_1, hxf_2, hxf_3, hxf_4, hxf_5, hxf_6, hxf_7⟩ := Hand.Cz.f8 BX.out)
   generalize hW7 : World.setCell _ (Addr.mk gx 7 none) _ = w7
   have BX7 := Aside0.mk (show w7.heap[gx]? = some (.cells #[.int .u64 s0, .int .u64 s1, .int .u64 s2, .int .u64 s3, .int .u64 s4, .string s5, .string s6, .bool s7] 76 (0, 0)) from by rw [← hW7]; exact Hand.Cz.p8 BX.out)
   have HX7 := Aside0.mk (show message_Encode.WS wm w7 g (fun k => okw k ∧ k ≠ gx) b from by rw [← hW7]; exact (message_Encode.WS_far (message_Encode.WS_far (message_Encode.WS_far (message_Encode.WS_far (message_Encode.WS_far (message_Encode.WS_far (message_Encode.WS_far (message_Encode.WS_far HX.out HGX.out (fun h => h.2 rfl) HNE.out 0 _) HGX.out (fun h => h.2 rfl) HNE.out 1 _) HGX.out (fun h => h.2 rfl) HNE.out 2 _) HGX.out (fun h => h.2 rfl) HNE.out 3 _) HGX.out (fun h => h.2 rfl) HNE.out 4 _) HGX.out (fun h => h.2 rfl) HNE.out 5 _) HGX.out (fun h => h.2 rfl) HNE.out 6 _) HGX.out (fun h => h.2 rfl) HNE.out 7 _))
   have HK7 := Aside0.mk (show Kept wr w7 (fun k => k = g ∨ okw k) from by rw [← hW7]; exact (((((((((Kept.of_below HBX.out _).setCell (.inr HGW.out) _).setCell (.inr HGW.out) _).setCell (.inr HGW.out) _).setCell (.inr HGW.out) _).setCell (.inr HGW.out) _).setCell (.inr HGW.out) _).setCell (.inr HGW.out) _).setCell (.inr HGW.out) _))
   obtain ⟨A7, c7, hk7, hle7, hC7⟩ := message_Encode.WS_row HX7.out
   have BG7 := Aside0.mk hk7; have HLE := Aside0.mk hle7; have HC7 := Aside0.mk hC7; have HB7 := Aside0.mk HX7.out.1; have HG := Aside0.mk HW.out.2.1; have HNO := Aside0.mk HW.out.2.2.1; have HF := Aside0.mk HW.out.2.2.2.1; clear hW7 hk7 hle7 hC7 HX HX7 BX HBX HNE HW hx0 hx1 hx2 hx3 hx4 hx5 hx6 hx7 hxz_0 hxf_0 hxz_1 hxf_1 hxz_2 hxf_2 hxz_3 hxf_3 hxz_4 hxf_4 hxz_5 hxf_5 hxz_6 hxf_6 hxz_7 hxf_7
   refine start_ (n := 13) (S := fun w' => w'.heap[g]? = some (.cells #[.slice A7 b.length c7] 87 (0, 0)) ∧ Kd.C (Kd.int .u8) w' A7 b.length b ∧ w'.heap[gx]? = some (.cells #[.int .u64 s0, .int .u64 s1, .int .u64 s2, .int .u64 s3, .int .u64 s4, .string s5, .string s6, .bool s7] 76 (0, 0)) ∧ Below wm.heap.size wm w' ∧ Kept wr w' (fun k => k = g ∨ okw k)) (ds := [12]) #[false, false, false, false, false, false, false, false, false, false, false, false, false] (by kernel_rfl) rfl rfl ⟨blk_drew BG7.out, Kd.C_drew HC7.out, blk_drew BX7.out, below_drew1 HB7.out, HK7.out.then_ (Kept.of_below (below_drew1 (Below.refl _ _)) (fun _ => False)) (fun _ h => h.elim)⟩ (fun hHeld => ?_)
   refine with_tabW message_Encode.tab39_4 message_Encode.bits39_4 (fun HT_ HW_ => ?_)
   generalize w7.drew = wd at hHeld ⊢
   clear BG7 HC7 BX7 HB7 HK7
   refine pure_ (i := 0) (N := some 17) (v := ?_) (a' := ?_) #[true, false, false, false, false, false, false, false, false, false, false, false, false] rfl rfl (any_of HT_.out (by kernel_rfl)) (fun _ _ _ h => h) (Or.inl ⟨by rfl, ?_⟩) ?_ ?_
   rotate_left
   ·intro w'; go_simp; with_reducible rfl
   rotate_left
   ·simp only [Act.put, List.setIfInBounds_toArray, List.set_cons_zero, List.set_cons_succ, i64_w, i32_w]; rfl
   refine pure_ (i := 1) (N := some 18) (v := ?_) (a' := ?_) #[true, true, false, false, false, false, false, false, false, false, false, false, false] rfl rfl (any_of HT_.out (by kernel_rfl)) (fun _ _ _ h => h) (Or.inl ⟨by rfl, ?_⟩) ?_ ?_
   rotate_left
   ·intro w'; go_simp; with_reducible rfl
   rotate_left
   ·simp only [Act.put, List.setIfInBounds_toArray, List.set_cons_zero, List.set_cons_succ, i64_w, i32_w]; rfl
   refine pure_ (i := 2) (N := some 19) (v := ?_) (a' := ?_) #[true, true, true, false, false, false, false, false, false, false, false, false, false] rfl rfl (any_of HT_.out (by kernel_rfl)) (fun _ _ _ h => h) (Or.inl ⟨by rfl, ?_⟩) ?_ ?_
   rotate_left
   ·intro w'; go_simp; with_reducible rfl
   rotate_left
   ·simp only [Act.put, List.setIfInBounds_toArray, List.set_cons_zero, List.set_cons_succ, i64_w, i32_w]; rfl
   refine pure_ (i := 3) (N := some 20) (v := ?_) (a' := ?_) #[true, true, true, true, false, false, false, false, false, false, false, false, false] rfl rfl (any_of HT_.out (by kernel_rfl)) (fun _ _ _ h => h) (Or.inl ⟨by rfl, ?_⟩) ?_ ?_
   rotate_left
   ·intro w'; go_simp; with_reducible rfl
   rotate_left
   ·simp only [Act.put, List.setIfInBounds_toArray, List.set_cons_zero, List.set_cons_succ, i64_w, i32_w]; rfl
   refine take_ (i := 4) (N := some 21) (v := ?_) (a' := ?_) #[true, true, true, true, true, false, false, false, false, false, false, false, false] rfl rfl (take_ofW HT_.out HW_.out (by kernel_rfl)) (fun _ _ _ h => h) (Or.inl ⟨by rfl, ?_⟩) hHeld ?_ ?_
   rotate_left
   ·rintro w' ⟨E, C_, X, B_, K_⟩
    have z0 : w'.cell? ⟨g, 0, none⟩ = some (.slice A7 b.length c7) := (blk_cell E 0).trans rfl
    go_simp
    with_reducible rfl
   rotate_left
   ·simp only [Act.put, List.setIfInBounds_toArray, List.set_cons_zero, List.set_cons_succ, i64_w, i32_w]; rfl
   refine take_ (i := 5) (N := some 22) (v := ?_) (a' := ?_) #[true, true, true, true, true, true, false, false, false, false, false, false, false] rfl rfl (take_ofW HT_.out HW_.out (by kernel_rfl)) (fun _ _ _ h => h) (Or.inl ⟨by rfl, ?_⟩) hHeld ?_ ?_
   rotate_left
   ·rintro w' ⟨E, C_, X, B_, K_⟩
    have z0 : w'.cell? ⟨gx, 0, none⟩ = some (.int .u64 s0) := (blk_cell X 0).trans rfl; have z1 : w'.cell? ⟨gx, 1, none⟩ = some (.int .u64 s1) := (blk_cell X 1).trans rfl; have z2 : w'.cell? ⟨gx, 2, none⟩ = some (.int .u64 s2) := (blk_cell X 2).trans rfl; have z3 : w'.cell? ⟨gx, 3, none⟩ = some (.int .u64 s3) := (blk_cell X 3).trans rfl; have z4 : w'.cell? ⟨gx, 4, none⟩ = some (.int .u64 s4) := (blk_cell X 4).trans rfl; have z5 : w'.cell? ⟨gx, 5, none⟩ = some (.string s5) := (blk_cell X 5).trans rfl; have z6 : w'.cell? ⟨gx, 6, none⟩ = some (.string s6) := (blk_cell X 6).trans rfl; have z7 : w'.cell? ⟨gx, 7, none⟩ = some (.bool s7) := (blk_cell X 7).trans rfl
    go_simp
    with_reducible rfl
   rotate_left
   ·simp only [Act.put, List.setIfInBounds_toArray, List.set_cons_zero, List.set_cons_succ, i64_w, i32_w]; rfl
   refine one_ (i := 6) (N := some 23) #[true, true, true, true, true, true, true, false, false, false, false, false, false] rfl rfl (one_of HT_.out (by kernel_rfl)) (by decide) (fun K hK => ?_)
   refine goes_ Try.func73 (by kernel_rfl) rfl #[.slice A7 b.length c7, .agg #[.int .u64 s0, .int .u64 s1, .int .u64 s2, .int .u64 s3, .int .u64 s4, .string s5, .string s6, .bool s7]] (by rfl) rfl rfl (by (try simp only [List.map_toArray, List.map_cons, List.map_nil]); (rfl)) ?_
   with_reducible refine (span_Put.calls A7 c7 b s0 s1 s2 s3 s4 s5 s6 s7 p pk _ hHeld.2.1 HLE.out HP.out).mono ?_
   rintro e w8 ⟨v8, rfl, hR, hb⟩ ; obtain ⟨A8, c8, rfl⟩ := Kd.R_slice hR
   refine ⟨_, rfl, ?_⟩
   have HR8 := Aside0.mk (Kd.R_mono (Kd.R_lower (Kd.R_bound hR) hHeld.2.2.2.1.size) (fun q hq => HF.out q (Nat.le_trans hHeld.2.2.2.2.1 hq.2.1)))
   clear hR
   refine hK.out _ _ ⟨blk_below hHeld.1 hb, Kd.C_below hHeld.2.1 hb, blk_below hHeld.2.2.1 hb, below_step hHeld.2.2.2.1 hb, hHeld.2.2.2.2.then_ (Kept.of_below hb (fun _ => False)) (fun _ h => h.elim)⟩ (fun hHeld => ?_)
   clear hK K
   refine norm_ (a' := ?_) ?_ ?_
   rotate_left
   ·show Act.put _ (some 23) _ = _; simp only [Act.put, List.setIfInBounds_toArray, List.set_cons_zero, List.set_cons_succ, i64_w, i32_w]; rfl
   refine pure_ (i := 7) (N := some 16) (v := ?_) (a' := ?_) #[true, true, true, true, true, true, true, true, false, false, false, false, false] rfl rfl (any_of HT_.out (by kernel_rfl)) (fun _ _ _ h => h) (Or.inl ⟨by rfl, ?_⟩) ?_ ?_
   rotate_left
   ·intro w'; go_simp; with_reducible rfl
   rotate_left
   ·simp only [Act.put, List.setIfInBounds_toArray, List.set_cons_zero, List.set_cons_succ, i64_w, i32_w]; rfl
   refine pure_ (i := 8) (N := some 24) (v := ?_) (a' := ?_) #[true, true, true, true, true, true, true, true, true, false, false, false, false] rfl rfl (any_of HT_.out (by kernel_rfl)) (fun _ _ _ h => h) (Or.inl ⟨by rfl, ?_⟩) ?_ ?_
   rotate_left
   ·intro w'; go_simp; with_reducible rfl
   rotate_left
   ·simp only [Act.put, List.setIfInBounds_toArray, List.set_cons_zero, List.set_cons_succ, i64_w, i32_w]; rfl
   refine pure_ (i := 9) (N := some 25) (v := ?_) (a' := ?_) #[true, true, true, true, true, true, true, true, true, true, false, false, false] rfl rfl (any_of HT_.out (by kernel_rfl)) (fun _ _ _ h => h) (Or.inl ⟨by rfl, ?_⟩) ?_ ?_
   rotate_left
   ·intro w'; go_simp; with_reducible rfl
   rotate_left
   ·simp only [Act.put, List.setIfInBounds_toArray, List.set_cons_zero, List.set_cons_succ, i64_w, i32_w]; rfl
   refine pure_ (i := 10) (N := some 26) (v := ?_) (a' := ?_) #[true, true, true, true, true, true, true, true, true, true, true, false, false] rfl rfl (any_of HT_.out (by kernel_rfl)) (fun _ _ _ h => h) (Or.inl ⟨by rfl, ?_⟩) ?_ ?_
   rotate_left
   ·intro w'; go_simp; with_reducible rfl
   rotate_left
   ·simp only [Act.put, List.setIfInBounds_toArray, List.set_cons_zero, List.set_cons_succ, i64_w, i32_w]; rfl
   refine pure_ (i := 11) (N := some 27) (v := ?_) (a' := ?_) #[true, true, true, true, true, true, true, true, true, true, true, true, false] rfl rfl (any_of HT_.out (by kernel_rfl)) (fun _ _ _ h => h) (Or.inl ⟨by rfl, ?_⟩) ?_ ?_
   rotate_left
   ·intro w'; go_simp; with_reducible rfl
   rotate_left
   ·simp only [Act.put, List.setIfInBounds_toArray, List.set_cons_zero, List.set_cons_succ, i64_w, i32_w]; rfl
   refine last_ (i := 12) (N := none) #[true, true, true, true, true, true, true, true, true, true, true, true, true] rfl rfl (one_of HT_.out (by kernel_rfl)) (by decide) (fun K hK => ?_)
   have hq_0 : w8.cell? ⟨g, 0, none⟩ = some (.slice A7 b.length c7) := (blk_cell hHeld.1 0).trans rfl; have hqf_0 := blk_frozen hHeld.1 0
   refine skip_ (w1 := ?_) (by rfl) rfl ?_ ?_
   rotate_left
   ·go_simp; rfl
   refine hK.out _ _ ?_
   clear hK K
   refine done_ (done_of HT_.out (by kernel_rfl)) ?_
   have HH := Aside0.mk hHeld; clear hHeld hq_0 hqf_0
   go_wp2
   go_roundw
   case rel =>
    have hsz : ∀ u, (w8.setCell ⟨g, 0, none⟩ u).heap.size = w8.heap.size := fun u => by simp [World.setCell]
    refine ⟨k + 1, by omega, by go_num, p, HN2, ⟨below_set HH.out.2.2.2.1 HG.out, HG.out, HNO.out, fun q hq => HF.out q (by have := HH.out.2.2.2.2.1; rw [hsz] at hq; omega), _, (blk_set HH.out.1 0 _).trans rfl, Kd.R_far (p := ⟨g, 0, none⟩) HR8.out (fun k h e => HNO.out (by rw [show k = g from e] at h; exact h)) _⟩, ⟨?_⟩⟩
    exact (HK.out.then_ HH.out.2.2.2.2 (fun q hq => .inl hq)).setCell (.inl (.inl rfl)) _
   case measure => simp [intOf]; omega
  ·obtain rfl : k = l.length := by omega
   have hn := HN.out
   rw [List.drop_of_length_le (Nat.le_refl _), message_Encode.sps] at hn
   obtain rfl := Option.some.inj hn
   clear hn HN
   go_wp2
   go_end0
   exact ⟨rfl, HW.out, HK.out⟩

set_option maxHeartbeats 8000000 in
set_option maxRecDepth 100000 in
theorem message_Encode.enc1 (tr bn bd sn sd v : Int) (ok : Bool) (A8 : Option Addr) (c8 : Nat) (l8 : List S76) (A9 : Option Addr) (c9 : Nat) (l9 : List S92) (A10 : Option Addr) (c10 : Nat) (l10 : List Int) (w : World) (b1 pay r1 : List Int) (r2 : Int) (hl : l8.length ≤ 1000)
  (hOf : ∀ W, Below w.heap.size w W → Calls Try.prog 23 #[.agg #[.int .i64 1, .int .u64 tr, .int .u64 bn, .int .u64 bd, .int .u64 sn, .int .u64 sd, .int .i64 v, .bool ok, .slice A8 l8.length c8, .slice A9 l9.length c9, .slice A10 l10.length c10]] W fun e w' => ∃ (Av : Option Addr) (cv : Nat), e = .returned (.tuple #[.iface 51 (.agg #[.int .u64 tr, .bool false, .slice Av l8.length cv]), .int .i64 0]) ∧ Kd.C k76 w' Av l8.length l8 ∧ l8.length ≤ cv ∧ Below W.heap.size W w')
  (h1 : message_Encode.nums [1] [tr] = some b1) (e1 : b1.length ≤ 1000) (h2 : message_Encode.sps (b1 ++ [(l8.length : Int) % 256]) l8 = some pay) (hf : frame_Put.f 100000 [] (pay) = some (r1, r2)) :
  Calls Try.prog 16 #[.agg #[.int .i64 1, .int .u64 tr, .int .u64 bn, .int .u64 bd, .int .u64 sn, .int .u64 sd, .int .i64 v, .bool ok, .slice A8 l8.length c8, .slice A9 l9.length c9, .slice A10 l10.length c10]] w fun e w' => ∃ v0_ : Value, e = .returned (.tuple #[v0_, .int .i64 r2]) ∧ Kd.R (Kd.int .u8) 5 w' w.heap.size (fun _ => True) v0_ r1 ∧ Below w.heap.size w w' := by
 have hu30 := Try.underlying30; have hu24 := Try.underlying24; have hu51 := Try.underlying51; have hu54 := Try.underlying54; have hu57 := Try.underlying57; have hu60 := Try.underlying60; have hu63 := Try.underlying63; have hu66 := Try.underlying66; have hu69 := Try.underlying69; have hu87 := Try.underlying87; have HOF := Aside0.mk hOf; have HF := Aside0.mk hf; have H1 := Aside0.mk h1; have H2 := Aside0.mk h2; clear hOf hf h1 h2
 go_enter Try.func16, Try.ntmps16
 go_wp2_with (first | ((with_reducible refine gate_dst (N := 1) rfl ?_); refine box_event ?hg (N := 1) ?hd (cs := #[.int .i64 1, .int .u64 tr, .int .u64 bn, .int .u64 bd, .int .u64 sn, .int .u64 sd, .int .i64 v, .bool ok, .slice A8 l8.length c8, .slice A9 l9.length c9, .slice A10 l10.length c10]) (t := 30) ?hr ?_; (case hd => rfl); (case hg => rfl); (case hr => (go_simp; done)); intro gp hg w1 hbox hb; have HB := Aside0.mk hb; have BK := Aside0.mk hbox; have HGE := Aside0.mk (show w.heap.size ≤ gp from Nat.le_of_eq hg.symm); clear hb hbox hg; obtain ⟨hcz_0, hcz_1, hcz_2, hcz_3, hcz_4, hcz_5, hcz_6, hcz_7, hcz_8, hcz_9, hcz_10⟩ := Hand.Cz.c11 BK.out) | (go_at_call 23; refine (HOF.out _ HB.out).mono ?_; rintro e w2 ⟨Av, cv, rfl, hc, hle, hb⟩; have HCv := Aside0.mk hc; have HLv := Aside0.mk hle; clear hc hle; have ta51 := message_Right.ta51_51 (.agg #[.int .u64 tr, .bool false, .slice Av l8.length cv]); have BK2 := Aside0.mk (blk_below BK.out hb); have HB2 := Aside0.mk (below_step HB.out hb); clear hb; clear hcz_0 hcz_1 hcz_2 hcz_3 hcz_4 hcz_5 hcz_6 hcz_7 hcz_8 hcz_9 hcz_10; obtain ⟨hcz_0, hcz_1, hcz_2, hcz_3, hcz_4, hcz_5, hcz_6, hcz_7, hcz_8, hcz_9, hcz_10⟩ := Hand.Cz.c11 BK2.out) | ((with_reducible refine gate_dst (N := 26) rfl ?_); refine box_event ?hg (N := 26) ?hd (cs := #[.slice none 0 0]) (t := 87) ?hr ?_; (case hd => rfl); (case hg => rfl); (case hr => (go_simp; done)); intro g hg w3 hbox hb; have HW3 := Aside0.mk (show message_Encode.WS w2 w3 g (fun k => w2.heap.size ≤ k ∧ k ≠ g) [] from ⟨hb, Nat.le_of_eq hg.symm, fun h => h.2 rfl, fun k hk => by have := blk_lt hbox; exact ⟨Nat.le_trans hb.size hk, by omega⟩, _, hbox, Kd.R_nil _ _ _ _ _⟩); have BK3 := Aside0.mk (blk_below BK2.out hb); clear hb hbox hg; clear hcz_0 hcz_1 hcz_2 hcz_3 hcz_4 hcz_5 hcz_6 hcz_7 hcz_8 hcz_9 hcz_10; obtain ⟨hcz_0, hcz_1, hcz_2, hcz_3, hcz_4, hcz_5, hcz_6, hcz_7, hcz_8, hcz_9, hcz_10⟩ := Hand.Cz.c11 BK3.out))
 refine (message_Encode.small w2 _ g (fun k => w2.heap.size ≤ k ∧ k ≠ g) [] 1 HW3.out (by simp)).mono ?_
 rintro e w4 ⟨rfl, hW, hK⟩
 rw [show ([] : List Int) ++ [(1 : Int) % 256] = [1] from rfl] at hW
 have HW4 := Aside0.mk hW; have BK4 := Aside0.mk (message_Encode.WS_blk hW BK2.out); clear hW hK; clear hcz_0 hcz_1 hcz_2 hcz_3 hcz_4 hcz_5 hcz_6 hcz_7 hcz_8 hcz_9 hcz_10
 obtain ⟨hcz_0, hcz_1, hcz_2, hcz_3, hcz_4, hcz_5, hcz_6, hcz_7, hcz_8, hcz_9, hcz_10⟩ := Hand.Cz.c11 BK4.out
 go_wp2_with ((with_reducible refine gate_dst (N := 37) rfl ?_); refine Kd.R_lit (Kd.int .u64) (w0 := w4) w4.heap.size 22 ?hg (N := 37) ?hd (xs := ([tr] : List Int)) (inner := [.int .u64 tr]) (ok := fun k => k = w4.heap.size) (okp := fun _ => False) ?hr ?hp (fun _ hk => hk.elim) rfl (Below.refl _ _) (Nat.le_refl _) (by simp) ?_; (case hd => rfl); (case hg => rfl); (case hr => (go_simp; done)); (case hp => exact (Reps.one (show Kd.M (Kd.int .u64) _ _ _ tr [.int .u64 tr] from rfl) (Reps.none _ _))); intro vl wl ho hb hg_ hnew_; have HRL := Aside0.mk ho; have HBL := Aside0.mk hb; have HNW := Aside0.mk hnew_; clear ho hb hg_ hnew_)
 obtain ⟨Al, cl, rfl⟩ := Kd.R_slice HRL.out
 refine (message_Encode.numbers_lit w2 w4 wl g (fun k => w2.heap.size ≤ k ∧ k ≠ g) [1] Al cl [tr] b1 HW4.out HBL.out HRL.out HNW.out (by simp) H1.out).mono ?_
 rintro e w5 ⟨rfl, hW, hK⟩
 have HW5 := Aside0.mk hW; clear hW hK HRL HBL HNW HW4 H1; clear hcz_0 hcz_1 hcz_2 hcz_3 hcz_4 hcz_5 hcz_6 hcz_7 hcz_8 hcz_9 hcz_10
 go_upto_region 11 with ((with_reducible refine gate_dst (N := 7) rfl ?_); refine box_event ?hg (N := 7) ?hd (cs := #[.int .u64 0, .bool false, .slice none 0 0]) (t := 51) ?hr ?_; (case hd => rfl); (case hg => rfl); (case hr => (go_simp; done)); intro gx hg w6 hbox hb; have hgx := hg.symm; have HX := Aside0.mk (show message_Encode.WS w2 w6 g (fun k => ((fun k => w2.heap.size ≤ k ∧ k ≠ g)) k ∧ k ≠ gx) _ from by rw [hg]; exact message_Encode.WS_lit HW5.out hb (by rw [← hg]; exact blk_lt hbox)); have HNE := Aside0.mk (show g ≠ gx from by have := message_Encode.WS_lt HW5.out; omega); have HGX := Aside0.mk (show w2.heap.size ≤ gx from by have := HW5.out.1.size; omega); have HGW := Aside0.mk (Nat.le_of_eq hgx); have HBX := Aside0.mk hb; have BX := Aside0.mk hbox; clear hbox hb hg hgx; obtain ⟨hxz_0, hxz_1, hxz_2⟩ := Hand.Cz.c3 BX.out; obtain ⟨hxf_0, hxf_1, hxf_2⟩ := Hand.Cz.f3 BX.out)
 generalize hW7 : World.setCell _ (Addr.mk gx 2 none) _ = w7
 have BX7 := Aside0.mk (show w7.heap[gx]? = some (.cells #[.int .u64 tr, .bool false, .slice Av l8.length cv] 51 (0, 0)) from by rw [← hW7]; exact Hand.Cz.p3 BX.out)
 have HX7 := Aside0.mk (show message_Encode.WS w2 w7 g (fun k => (w2.heap.size ≤ k ∧ k ≠ g) ∧ k ≠ gx) b1 from by rw [← hW7]; exact (message_Encode.WS_far (message_Encode.WS_far (message_Encode.WS_far HX.out HGX.out (fun h => h.2 rfl) HNE.out 0 _) HGX.out (fun h => h.2 rfl) HNE.out 1 _) HGX.out (fun h => h.2 rfl) HNE.out 2 _))
 clear hW7 HX BX HBX HGX HGW hxz_0 hxz_1 hxz_2 hxf_0 hxf_1 hxf_2
 obtain ⟨hx_0, hx_1, hx_2⟩ := Hand.Cz.c3 BX7.out
 go_wp2_with fail
 refine (message_Encode.spans w2 _ g (fun k => (w2.heap.size ≤ k ∧ k ≠ g) ∧ k ≠ gx) b1 Av cv l8 pay HX7.out (by omega) HCv.out hl H2.out).mono ?_
 rintro e w8 ⟨rfl, hW, hK⟩
 have BX8 := Aside0.mk (blk_kept BX7.out hK (fun h => h.elim (fun e => HNE.out e.symm) (fun e => e.2 rfl)))
 have HX8 := Aside0.mk hW; clear hW hK HX7 BX7 hx_0 hx_1 hx_2
 obtain ⟨hx_0, hx_1, hx_2⟩ := Hand.Cz.c3 BX8.out
 clear hx_0 hx_1 hx_2
 obtain ⟨A9, c9_, hk9, hle9, hC9⟩ := message_Encode.WS_row HX8.out
 have HC9 := Aside0.mk hC9; have HLE := Aside0.mk hle9; have hgz_0 : w8.cell? ⟨g, 0, none⟩ = some (.slice A9 (pay).length c9_) := (blk_cell hk9 0).trans rfl; clear hk9 hle9 hC9
 go_wp2_with fail
 refine (frame_Put.calls 100000 (fun _ => True) none 0 [] A9 c9_ pay r1 r2 _ (Kd.V_nil _ _ _ _ _) HC9.out HLE.out HF.out).mono ?_
 rintro e w10 ⟨v8, rfl, hR, hb⟩
 have HB8 := Aside0.mk (show Below w.heap.size w w10 from below_step (below_step HB2.out HX8.out.1) hb)
 have HR8 := Aside0.mk (Kd.R_mono (ok' := fun _ => True) (Kd.R_lower hR (below_step HB2.out HX8.out.1).size) (fun _ _ => trivial))
 clear hR hb
 go_wp2
 go_ret2
 exact ⟨_, rfl, HR8.out, HB8.out⟩

set_option maxHeartbeats 8000000 in
set_option maxRecDepth 100000 in
theorem message_Encode.enc2 (tr bn bd sn sd v : Int) (ok : Bool) (A8 : Option Addr) (c8 : Nat) (l8 : List S76) (A9 : Option Addr) (c9 : Nat) (l9 : List S92) (A10 : Option Addr) (c10 : Nat) (l10 : List Int) (w : World) (b1 pay r1 : List Int) (r2 : Int) (hl : l8.length ≤ 1000)
  (hOf : ∀ W, Below w.heap.size w W → Calls Try.prog 23 #[.agg #[.int .i64 2, .int .u64 tr, .int .u64 bn, .int .u64 bd, .int .u64 sn, .int .u64 sd, .int .i64 v, .bool ok, .slice A8 l8.length c8, .slice A9 l9.length c9, .slice A10 l10.length c10]] W fun e w' => ∃ (Av : Option Addr) (cv : Nat), e = .returned (.tuple #[.iface 51 (.agg #[.int .u64 tr, .bool true, .slice Av l8.length cv]), .int .i64 0]) ∧ Kd.C k76 w' Av l8.length l8 ∧ l8.length ≤ cv ∧ Below W.heap.size W w')
  (h1 : message_Encode.nums [2] [tr] = some b1) (e1 : b1.length ≤ 1000) (h2 : message_Encode.sps (b1 ++ [(l8.length : Int) % 256]) l8 = some pay) (hf : frame_Put.f 100000 [] (pay) = some (r1, r2)) :
  Calls Try.prog 16 #[.agg #[.int .i64 2, .int .u64 tr, .int .u64 bn, .int .u64 bd, .int .u64 sn, .int .u64 sd, .int .i64 v, .bool ok, .slice A8 l8.length c8, .slice A9 l9.length c9, .slice A10 l10.length c10]] w fun e w' => ∃ v0_ : Value, e = .returned (.tuple #[v0_, .int .i64 r2]) ∧ Kd.R (Kd.int .u8) 5 w' w.heap.size (fun _ => True) v0_ r1 ∧ Below w.heap.size w w' := by
 have hu30 := Try.underlying30; have hu24 := Try.underlying24; have hu51 := Try.underlying51; have hu54 := Try.underlying54; have hu57 := Try.underlying57; have hu60 := Try.underlying60; have hu63 := Try.underlying63; have hu66 := Try.underlying66; have hu69 := Try.underlying69; have hu87 := Try.underlying87; have HOF := Aside0.mk hOf; have HF := Aside0.mk hf; have H1 := Aside0.mk h1; have H2 := Aside0.mk h2; clear hOf hf h1 h2
 go_enter Try.func16, Try.ntmps16
 go_wp2_with (first | ((with_reducible refine gate_dst (N := 1) rfl ?_); refine box_event ?hg (N := 1) ?hd (cs := #[.int .i64 2, .int .u64 tr, .int .u64 bn, .int .u64 bd, .int .u64 sn, .int .u64 sd, .int .i64 v, .bool ok, .slice A8 l8.length c8, .slice A9 l9.length c9, .slice A10 l10.length c10]) (t := 30) ?hr ?_; (case hd => rfl); (case hg => rfl); (case hr => (go_simp; done)); intro gp hg w1 hbox hb; have HB := Aside0.mk hb; have BK := Aside0.mk hbox; have HGE := Aside0.mk (show w.heap.size ≤ gp from Nat.le_of_eq hg.symm); clear hb hbox hg; obtain ⟨hcz_0, hcz_1, hcz_2, hcz_3, hcz_4, hcz_5, hcz_6, hcz_7, hcz_8, hcz_9, hcz_10⟩ := Hand.Cz.c11 BK.out) | (go_at_call 23; refine (HOF.out _ HB.out).mono ?_; rintro e w2 ⟨Av, cv, rfl, hc, hle, hb⟩; have HCv := Aside0.mk hc; have HLv := Aside0.mk hle; clear hc hle; have ta51 := message_Right.ta51_51 (.agg #[.int .u64 tr, .bool true, .slice Av l8.length cv]); have BK2 := Aside0.mk (blk_below BK.out hb); have HB2 := Aside0.mk (below_step HB.out hb); clear hb; clear hcz_0 hcz_1 hcz_2 hcz_3 hcz_4 hcz_5 hcz_6 hcz_7 hcz_8 hcz_9 hcz_10; obtain ⟨hcz_0, hcz_1, hcz_2, hcz_3, hcz_4, hcz_5, hcz_6, hcz_7, hcz_8, hcz_9, hcz_10⟩ := Hand.Cz.c11 BK2.out) | ((with_reducible refine gate_dst (N := 26) rfl ?_); refine box_event ?hg (N := 26) ?hd (cs := #[.slice none 0 0]) (t := 87) ?hr ?_; (case hd => rfl); (case hg => rfl); (case hr => (go_simp; done)); intro g hg w3 hbox hb; have HW3 := Aside0.mk (show message_Encode.WS w2 w3 g (fun k => w2.heap.size ≤ k ∧ k ≠ g) [] from ⟨hb, Nat.le_of_eq hg.symm, fun h => h.2 rfl, fun k hk => by have := blk_lt hbox; exact ⟨Nat.le_trans hb.size hk, by omega⟩, _, hbox, Kd.R_nil _ _ _ _ _⟩); have BK3 := Aside0.mk (blk_below BK2.out hb); clear hb hbox hg; clear hcz_0 hcz_1 hcz_2 hcz_3 hcz_4 hcz_5 hcz_6 hcz_7 hcz_8 hcz_9 hcz_10; obtain ⟨hcz_0, hcz_1, hcz_2, hcz_3, hcz_4, hcz_5, hcz_6, hcz_7, hcz_8, hcz_9, hcz_10⟩ := Hand.Cz.c11 BK3.out))
 refine (message_Encode.small w2 _ g (fun k => w2.heap.size ≤ k ∧ k ≠ g) [] 2 HW3.out (by simp)).mono ?_
 rintro e w4 ⟨rfl, hW, hK⟩
 rw [show ([] : List Int) ++ [(2 : Int) % 256] = [2] from rfl] at hW
 have HW4 := Aside0.mk hW; have BK4 := Aside0.mk (message_Encode.WS_blk hW BK2.out); clear hW hK; clear hcz_0 hcz_1 hcz_2 hcz_3 hcz_4 hcz_5 hcz_6 hcz_7 hcz_8 hcz_9 hcz_10
 obtain ⟨hcz_0, hcz_1, hcz_2, hcz_3, hcz_4, hcz_5, hcz_6, hcz_7, hcz_8, hcz_9, hcz_10⟩ := Hand.Cz.c11 BK4.out
 go_wp2_with ((with_reducible refine gate_dst (N := 37) rfl ?_); refine Kd.R_lit (Kd.int .u64) (w0 := w4) w4.heap.size 22 ?hg (N := 37) ?hd (xs := ([tr] : List Int)) (inner := [.int .u64 tr]) (ok := fun k => k = w4.heap.size) (okp := fun _ => False) ?hr ?hp (fun _ hk => hk.elim) rfl (Below.refl _ _) (Nat.le_refl _) (by simp) ?_; (case hd => rfl); (case hg => rfl); (case hr => (go_simp; done)); (case hp => exact (Reps.one (show Kd.M (Kd.int .u64) _ _ _ tr [.int .u64 tr] from rfl) (Reps.none _ _))); intro vl wl ho hb hg_ hnew_; have HRL := Aside0.mk ho; have HBL := Aside0.mk hb; have HNW := Aside0.mk hnew_; clear ho hb hg_ hnew_)
 obtain ⟨Al, cl, rfl⟩ := Kd.R_slice HRL.out
 refine (message_Encode.numbers_lit w2 w4 wl g (fun k => w2.heap.size ≤ k ∧ k ≠ g) [2] Al cl [tr] b1 HW4.out HBL.out HRL.out HNW.out (by simp) H1.out).mono ?_
 rintro e w5 ⟨rfl, hW, hK⟩
 have HW5 := Aside0.mk hW; clear hW hK HRL HBL HNW HW4 H1; clear hcz_0 hcz_1 hcz_2 hcz_3 hcz_4 hcz_5 hcz_6 hcz_7 hcz_8 hcz_9 hcz_10
 go_upto_region 11 with ((with_reducible refine gate_dst (N := 7) rfl ?_); refine box_event ?hg (N := 7) ?hd (cs := #[.int .u64 0, .bool false, .slice none 0 0]) (t := 51) ?hr ?_; (case hd => rfl); (case hg => rfl); (case hr => (go_simp; done)); intro gx hg w6 hbox hb; have hgx := hg.symm; have HX := Aside0.mk (show message_Encode.WS w2 w6 g (fun k => ((fun k => w2.heap.size ≤ k ∧ k ≠ g)) k ∧ k ≠ gx) _ from by rw [hg]; exact message_Encode.WS_lit HW5.out hb (by rw [← hg]; exact blk_lt hbox)); have HNE := Aside0.mk (show g ≠ gx from by have := message_Encode.WS_lt HW5.out; omega); have HGX := Aside0.mk (show w2.heap.size ≤ gx from by have := HW5.out.1.size; omega); have HGW := Aside0.mk (Nat.le_of_eq hgx); have HBX := Aside0.mk hb; have BX := Aside0.mk hbox; clear hbox hb hg hgx; obtain ⟨hxz_0, hxz_1, hxz_2⟩ := Hand.Cz.c3 BX.out; obtain ⟨hxf_0, hxf_1, hxf_2⟩ := Hand.Cz.f3 BX.out)
 generalize hW7 : World.setCell _ (Addr.mk gx 2 none) _ = w7
 have BX7 := Aside0.mk (show w7.heap[gx]? = some (.cells #[.int .u64 tr, .bool true, .slice Av l8.length cv] 51 (0, 0)) from by rw [← hW7]; exact Hand.Cz.p3 BX.out)
 have HX7 := Aside0.mk (show message_Encode.WS w2 w7 g (fun k => (w2.heap.size ≤ k ∧ k ≠ g) ∧ k ≠ gx) b1 from by rw [← hW7]; exact (message_Encode.WS_far (message_Encode.WS_far (message_Encode.WS_far HX.out HGX.out (fun h => h.2 rfl) HNE.out 0 _) HGX.out (fun h => h.2 rfl) HNE.out 1 _) HGX.out (fun h => h.2 rfl) HNE.out 2 _))
 clear hW7 HX BX HBX HGX HGW hxz_0 hxz_1 hxz_2 hxf_0 hxf_1 hxf_2
 obtain ⟨hx_0, hx_1, hx_2⟩ := Hand.Cz.c3 BX7.out
 go_wp2_with fail
 refine (message_Encode.spans w2 _ g (fun k => (w2.heap.size ≤ k ∧ k ≠ g) ∧ k ≠ gx) b1 Av cv l8 pay HX7.out (by omega) HCv.out hl H2.out).mono ?_
 rintro e w8 ⟨rfl, hW, hK⟩
 have BX8 := Aside0.mk (blk_kept BX7.out hK (fun h => h.elim (fun e => HNE.out e.symm) (fun e => e.2 rfl)))
 have HX8 := Aside0.mk hW; clear hW hK HX7 BX7 hx_0 hx_1 hx_2
 obtain ⟨hx_0, hx_1, hx_2⟩ := Hand.Cz.c3 BX8.out
 clear hx_0 hx_1 hx_2
 obtain ⟨A9, c9_, hk9, hle9, hC9⟩ := message_Encode.WS_row HX8.out
 have HC9 := Aside0.mk hC9; have HLE := Aside0.mk hle9; have hgz_0 : w8.cell? ⟨g, 0, none⟩ = some (.slice A9 (pay).length c9_) := (blk_cell hk9 0).trans rfl; clear hk9 hle9 hC9
 go_wp2_with fail
 refine (frame_Put.calls 100000 (fun _ => True) none 0 [] A9 c9_ pay r1 r2 _ (Kd.V_nil _ _ _ _ _) HC9.out HLE.out HF.out).mono ?_
 rintro e w10 ⟨v8, rfl, hR, hb⟩
 have HB8 := Aside0.mk (show Below w.heap.size w w10 from below_step (below_step HB2.out HX8.out.1) hb)
 have HR8 := Aside0.mk (Kd.R_mono (ok' := fun _ => True) (Kd.R_lower hR (below_step HB2.out HX8.out.1).size) (fun _ _ => trivial))
 clear hR hb
 go_wp2
 go_ret2
 exact ⟨_, rfl, HR8.out, HB8.out⟩

set_option maxHeartbeats 8000000 in
set_option maxRecDepth 100000 in
theorem message_Encode.enc3 (tr bn bd sn sd v : Int) (ok : Bool) (A8 : Option Addr) (c8 : Nat) (l8 : List S76) (A9 : Option Addr) (c9 : Nat) (l9 : List S92) (A10 : Option Addr) (c10 : Nat) (l10 : List Int) (w : World) (pay r1 : List Int) (r2 : Int) (hl : l9.length ≤ 1000)
  (hOf : ∀ W, Below w.heap.size w W → Calls Try.prog 23 #[.agg #[.int .i64 3, .int .u64 tr, .int .u64 bn, .int .u64 bd, .int .u64 sn, .int .u64 sd, .int .i64 v, .bool ok, .slice A8 l8.length c8, .slice A9 l9.length c9, .slice A10 l10.length c10]] W fun e w' => ∃ (Av : Option Addr) (cv : Nat), e = .returned (.tuple #[.iface 54 (.agg #[.slice Av l9.length cv]), .int .i64 0]) ∧ Kd.C k92 w' Av l9.length l9 ∧ l9.length ≤ cv ∧ Below W.heap.size W w')
  (h2 : message_Encode.mems ([3] ++ [(l9.length : Int) % 256]) l9 = some pay) (hf : frame_Put.f 100000 [] (pay) = some (r1, r2)) :
  Calls Try.prog 16 #[.agg #[.int .i64 3, .int .u64 tr, .int .u64 bn, .int .u64 bd, .int .u64 sn, .int .u64 sd, .int .i64 v, .bool ok, .slice A8 l8.length c8, .slice A9 l9.length c9, .slice A10 l10.length c10]] w fun e w' => ∃ v0_ : Value, e = .returned (.tuple #[v0_, .int .i64 r2]) ∧ Kd.R (Kd.int .u8) 5 w' w.heap.size (fun _ => True) v0_ r1 ∧ Below w.heap.size w w' := by
 have hu30 := Try.underlying30; have hu24 := Try.underlying24; have hu51 := Try.underlying51; have hu54 := Try.underlying54; have hu57 := Try.underlying57; have hu60 := Try.underlying60; have hu63 := Try.underlying63; have hu66 := Try.underlying66; have hu69 := Try.underlying69; have hu87 := Try.underlying87; have hu92 := Try.underlying92; have HOF := Aside0.mk hOf; have HF := Aside0.mk hf; have H2 := Aside0.mk h2; clear hOf hf h2
 go_enter Try.func16, Try.ntmps16
 go_wp2_with (first | ((with_reducible refine gate_dst (N := 1) rfl ?_); refine box_event ?hg (N := 1) ?hd (cs := #[.int .i64 3, .int .u64 tr, .int .u64 bn, .int .u64 bd, .int .u64 sn, .int .u64 sd, .int .i64 v, .bool ok, .slice A8 l8.length c8, .slice A9 l9.length c9, .slice A10 l10.length c10]) (t := 30) ?hr ?_; (case hd => rfl); (case hg => rfl); (case hr => (go_simp; done)); intro gp hg w1 hbox hb; have HB := Aside0.mk hb; have BK := Aside0.mk hbox; have HGE := Aside0.mk (show w.heap.size ≤ gp from Nat.le_of_eq hg.symm); clear hb hbox hg; obtain ⟨hcz_0, hcz_1, hcz_2, hcz_3, hcz_4, hcz_5, hcz_6, hcz_7, hcz_8, hcz_9, hcz_10⟩ := Hand.Cz.c11 BK.out) | (go_at_call 23; refine (HOF.out _ HB.out).mono ?_; rintro e w2 ⟨Av, cv, rfl, hc, hle, hb⟩; have HCv := Aside0.mk hc; have HLv := Aside0.mk hle; clear hc hle; have ta51 := message_Right.ta54_51 (.agg #[.slice Av l9.length cv]); have ta54 := message_Right.ta54_54 (.agg #[.slice Av l9.length cv]); have BK2 := Aside0.mk (blk_below BK.out hb); have HB2 := Aside0.mk (below_step HB.out hb); clear hb; clear hcz_0 hcz_1 hcz_2 hcz_3 hcz_4 hcz_5 hcz_6 hcz_7 hcz_8 hcz_9 hcz_10; obtain ⟨hcz_0, hcz_1, hcz_2, hcz_3, hcz_4, hcz_5, hcz_6, hcz_7, hcz_8, hcz_9, hcz_10⟩ := Hand.Cz.c11 BK2.out) | ((with_reducible refine gate_dst (N := 26) rfl ?_); refine box_event ?hg (N := 26) ?hd (cs := #[.slice none 0 0]) (t := 87) ?hr ?_; (case hd => rfl); (case hg => rfl); (case hr => (go_simp; done)); intro g hg w3 hbox hb; have HW3 := Aside0.mk (show message_Encode.WS w2 w3 g (fun k => w2.heap.size ≤ k ∧ k ≠ g) [] from ⟨hb, Nat.le_of_eq hg.symm, fun h => h.2 rfl, fun k hk => by have := blk_lt hbox; exact ⟨Nat.le_trans hb.size hk, by omega⟩, _, hbox, Kd.R_nil _ _ _ _ _⟩); have BK3 := Aside0.mk (blk_below BK2.out hb); clear hb hbox hg; clear hcz_0 hcz_1 hcz_2 hcz_3 hcz_4 hcz_5 hcz_6 hcz_7 hcz_8 hcz_9 hcz_10; obtain ⟨hcz_0, hcz_1, hcz_2, hcz_3, hcz_4, hcz_5, hcz_6, hcz_7, hcz_8, hcz_9, hcz_10⟩ := Hand.Cz.c11 BK3.out))
 refine (message_Encode.small w2 _ g (fun k => w2.heap.size ≤ k ∧ k ≠ g) [] 3 HW3.out (by simp)).mono ?_
 rintro e w4 ⟨rfl, hW, hK⟩
 rw [show ([] : List Int) ++ [(3 : Int) % 256] = [3] from rfl] at hW
 have HW5 := Aside0.mk hW; have BK4 := Aside0.mk (message_Encode.WS_blk hW BK2.out); clear hW hK; clear hcz_0 hcz_1 hcz_2 hcz_3 hcz_4 hcz_5 hcz_6 hcz_7 hcz_8 hcz_9 hcz_10
 obtain ⟨hcz_0, hcz_1, hcz_2, hcz_3, hcz_4, hcz_5, hcz_6, hcz_7, hcz_8, hcz_9, hcz_10⟩ := Hand.Cz.c11 BK4.out
 go_upto_region 8 with fail
 clear hcz_0 hcz_1 hcz_2 hcz_3 hcz_4 hcz_5 hcz_6 hcz_7 hcz_8 hcz_9 hcz_10
 go_upto_region 14 with ((with_reducible refine gate_dst (N := 8) rfl ?_); refine box_event ?hg (N := 8) ?hd (cs := #[.slice none 0 0]) (t := 54) ?hr ?_; (case hd => rfl); (case hg => rfl); (case hr => (go_simp; done)); intro gx hg w6 hbox hb; have hgx := hg.symm; have HX := Aside0.mk (show message_Encode.WS w2 w6 g (fun k => ((fun k => w2.heap.size ≤ k ∧ k ≠ g)) k ∧ k ≠ gx) _ from by rw [hg]; exact message_Encode.WS_lit HW5.out hb (by rw [← hg]; exact blk_lt hbox)); have HNE := Aside0.mk (show g ≠ gx from by have := message_Encode.WS_lt HW5.out; omega); have HGX := Aside0.mk (show w2.heap.size ≤ gx from by have := HW5.out.1.size; omega); have HGW := Aside0.mk (Nat.le_of_eq hgx); have HBX := Aside0.mk hb; have BX := Aside0.mk hbox; clear hbox hb hg hgx; have hxz_0 : w6.cell? ⟨gx, 0, none⟩ = some (.slice none 0 0) := (blk_cell BX.out 0).trans rfl; have hxf_0 := blk_frozen BX.out 0)
 generalize hW7 : World.setCell _ (Addr.mk gx 0 none) _ = w7
 have BX7 := Aside0.mk (show w7.heap[gx]? = some (.cells #[.slice Av l9.length cv] 54 (0, 0)) from by rw [← hW7]; exact Hand.Cz.p1 BX.out)
 have HX7 := Aside0.mk (show message_Encode.WS w2 w7 g (fun k => (w2.heap.size ≤ k ∧ k ≠ g) ∧ k ≠ gx) [3] from by rw [← hW7]; exact (message_Encode.WS_far HX.out HGX.out (fun h => h.2 rfl) HNE.out 0 _))
 clear hW7 HX BX HBX HGX HGW hxz_0 hxf_0; have hx_0 : w7.cell? ⟨gx, 0, none⟩ = some (.slice Av l9.length cv) := (blk_cell BX7.out 0).trans rfl
 go_wp2_with fail
 refine (message_Encode.small w2 _ g (fun k => (w2.heap.size ≤ k ∧ k ≠ g) ∧ k ≠ gx) [3] (l9.length : Int) HX7.out (by simp)).mono ?_
 rintro e w8 ⟨rfl, hW, hK⟩
 have BX8 := Aside0.mk (blk_kept BX7.out hK (fun h => h.elim (fun e => HNE.out e.symm) (fun e => e.2 rfl)))
 have HX8 := Aside0.mk hW
 have HLB := Aside0.mk (show ([3] ++ [(l9.length : Int) % 256]).length ≤ 100001 by simp)
 clear hW hK HX7 BX7 hx_0; have hx_0 : w8.cell? ⟨gx, 0, none⟩ = some (.slice Av l9.length cv) := (blk_cell BX8.out 0).trans rfl
 generalize [3] ++ [(l9.length : Int) % 256] = bs1 at *
 go_wp2
 go_loopw [58] (fun i wr => ∃ k : Nat, k ≤ l9.length ∧ i = .int .i64 k ∧ ∃ b : List Int, Aside0 (message_Encode.mems b (l9.drop k) = some pay) ∧ Aside0 (message_Encode.WS w2 wr g (fun k => (w2.heap.size ≤ k ∧ k ≠ g) ∧ k ≠ gx) b) ∧ Aside0 (b.length ≤ 100001)) (fun i _ => l9.length - (intOf i).toNat)
 case atStart => exact ⟨0, Nat.zero_le _, rfl, bs1, H2, HX8, HLB⟩
 case round =>
  clear H2 HX8 HLB hx_0 BX8 HNE
  obtain ⟨k, hk, rfl, b, HN, HW, HLB⟩ := hrel
  by_cases hlt : k < l9.length
  ·have hn := HN.out
   rw [message_Encode.drop92 l9 hlt, message_Encode.mems] at hn
   obtain ⟨b2, hp, hn2⟩ := Option.bind_eq_some_iff.1 hn
   obtain ⟨hl2, hn2⟩ : b2.length ≤ 100000 ∧ message_Encode.mems (b2 ++ [(l9.getD k z92).f2 % 256]) (l9.drop (k + 1)) = some pay := by by_cases q : b2.length ≤ 100000; (rw [if_pos q] at hn2; exact ⟨q, hn2⟩); (rw [if_neg q] at hn2; exact absurd hn2 (by simp))
   obtain ⟨ad, rfl, hm0, hm1, hm2⟩ := at_T92 (Kd.C_below HCv.out HW.out.1) (k : Int) (by omega) (by omega)
   have hrd : rd_T92 l9 (k : Int) = l9.getD k z92 := rfl
   rw [hrd, Int.toNat_natCast] at hm0 hm1 hm2
   generalize l9.getD k z92 = m at *
   obtain ⟨m0, m1, m2⟩ := m
   have HP := Aside0.mk hp; have HN2 := Aside0.mk hn2; have HL2 := Aside0.mk hl2; clear HN hn hn2 hp hrd hl2
   simp only at HP HN2 hm0 hm1 hm2
   have hltb : decide ((k : Int) < (l9.length : Int)) = true := decide_eq_true (by omega); have p0 : (0 ≤ (k : Int)) = True := eq_true (by omega); have p1 : ((k : Int) < (l9.length : Int)) = True := eq_true (by omega)
   go_upto_region 18 with ((with_reducible refine gate_dst (N := 10) rfl ?_); refine box_event ?hg (N := 10) ?hd (cs := #[.int .u64 0, .int .u64 0, .int .i64 0]) (t := 92) ?hr ?_; (case hd => rfl); (case hg => rfl); (case hr => (go_simp; done)); intro gm hg w16 hbox hb; have hgx := hg.symm; have HXm := Aside0.mk (show message_Encode.WS w2 w16 g (fun k => ((fun k => (w2.heap.size ≤ k ∧ k ≠ g) ∧ k ≠ gx)) k ∧ k ≠ gm) _ from by rw [hg]; exact message_Encode.WS_lit HW.out hb (by rw [← hg]; exact blk_lt hbox)); have HNEm := Aside0.mk (show g ≠ gm from by have := message_Encode.WS_lt HW.out; omega); have HGXm := Aside0.mk (show w2.heap.size ≤ gm from by have := HW.out.1.size; omega); have HGWm := Aside0.mk (Nat.le_of_eq hgx); have HBXm := Aside0.mk hb; have BXm := Aside0.mk hbox; clear hbox hb hg hgx; obtain ⟨hxzm_0, hxzm_1, hxzm_2⟩ := Hand.Cz.c3 BXm.out; obtain ⟨hxfm_0, hxfm_1, hxfm_2⟩ := Hand.Cz.f3 BXm.out)
   generalize hW17 : World.setCell _ (Addr.mk gm 2 none) _ = w17
   have BM7 := Aside0.mk (show w17.heap[gm]? = some (.cells #[.int .u64 m0, .int .u64 m1, .int .i64 m2] 92 (0, 0)) from by rw [← hW17]; exact Hand.Cz.p3 BXm.out)
   have HM7 := Aside0.mk (show message_Encode.WS w2 w17 g (fun k => ((fun k => (w2.heap.size ≤ k ∧ k ≠ g) ∧ k ≠ gx)) k ∧ k ≠ gm) b from by rw [← hW17]; exact (message_Encode.WS_far (message_Encode.WS_far (message_Encode.WS_far HXm.out HGXm.out (fun h => h.2 rfl) HNEm.out 0 _) HGXm.out (fun h => h.2 rfl) HNEm.out 1 _) HGXm.out (fun h => h.2 rfl) HNEm.out 2 _))
   clear hW17 HXm BXm HBXm HGXm HGWm hm0 hm1 hm2 hxzm_0 hxzm_1 hxzm_2 hxfm_0 hxfm_1 hxfm_2
   obtain ⟨hy_0, hy_1, hy_2⟩ := Hand.Cz.c3 BM7.out
   go_wp2_with ((with_reducible refine gate_dst (N := 67) rfl ?_); refine Kd.R_lit (Kd.int .u64) (w0 := w17) w17.heap.size 22 ?hg (N := 67) ?hd (xs := ([m0, m1] : List Int)) (inner := [.int .u64 m0, .int .u64 m1]) (ok := fun k => k = w17.heap.size) (okp := fun _ => False) ?hr ?hp (fun _ hk => hk.elim) rfl (Below.refl _ _) (Nat.le_refl _) (by simp) ?_; (case hd => rfl); (case hg => rfl); (case hr => (go_simp; done)); (case hp => exact (Reps.one (show Kd.M (Kd.int .u64) _ _ _ m0 [.int .u64 m0] from rfl) (Reps.one (show Kd.M (Kd.int .u64) _ _ _ m1 [.int .u64 m1] from rfl) (Reps.none _ _)))); intro vl wl ho hb hg_ hnew_; have HRL := Aside0.mk ho; have HBL := Aside0.mk hb; have HNW := Aside0.mk hnew_; clear ho hb hg_ hnew_)
   obtain ⟨Al, cl, rfl⟩ := Kd.R_slice HRL.out
   refine (message_Encode.numbers_lit w2 w17 wl g (fun k => ((fun k => (w2.heap.size ≤ k ∧ k ≠ g) ∧ k ≠ gx)) k ∧ k ≠ gm) b Al cl [m0, m1] b2 HM7.out HBL.out HRL.out HNW.out (by simp) HP.out).mono ?_
   rintro e w18 ⟨rfl, hW, hK⟩
   have BM8 := Aside0.mk (blk_kept BM7.out hK (fun h => h.elim (fun e => HNEm.out e.symm) (fun e => e.2 rfl)))
   have HM8 := Aside0.mk hW; clear hW hK HRL HBL HNW HM7 BM7 HP hy_0 hy_1 hy_2
   obtain ⟨hy_0, hy_1, hy_2⟩ := Hand.Cz.c3 BM8.out
   go_wp2_with fail
   refine (message_Encode.small w2 _ g (fun k => ((fun k => (w2.heap.size ≤ k ∧ k ≠ g) ∧ k ≠ gx)) k ∧ k ≠ gm) b2 m2 HM8.out HL2.out).mono ?_
   rintro e w19 ⟨rfl, hW, hK⟩
   have HM9 := Aside0.mk (message_Encode.WS_more (okw' := (fun k => (w2.heap.size ≤ k ∧ k ≠ g) ∧ k ≠ gx)) hW (fun h => h.1.2 rfl) (fun k h => h.1))
   clear hW hK HM8 BM8 hy_0 hy_1 hy_2
   go_wp2
   go_roundw
   case rel => exact ⟨k + 1, by omega, by go_num, _, HN2, HM9, ⟨by have := HL2.out; simp only [List.length_append, List.length_singleton]; omega⟩⟩
   case measure => simp [intOf]; omega
  ·obtain rfl : k = l9.length := by omega
   have hn := HN.out
   rw [List.drop_of_length_le (Nat.le_refl _), message_Encode.mems] at hn
   obtain rfl := Option.some.inj hn
   clear hn HN
   obtain ⟨A9, c9_, hk9, hle9, hC9⟩ := message_Encode.WS_row HW.out
   have HC9 := Aside0.mk hC9; have HLE := Aside0.mk hle9; have hgz_0 : wr.cell? ⟨g, 0, none⟩ = some (.slice A9 b.length c9_) := (blk_cell hk9 0).trans rfl; clear hk9 hle9 hC9
   go_wp2_with fail
   refine (frame_Put.calls 100000 (fun _ => True) none 0 [] A9 c9_ b r1 r2 _ (Kd.V_nil _ _ _ _ _) HC9.out HLE.out HF.out).mono ?_
   rintro e w10 ⟨v8, rfl, hR, hb⟩
   have HB8 := Aside0.mk (show Below w.heap.size w w10 from below_step (below_step HB2.out HW.out.1) hb)
   have HR8 := Aside0.mk (Kd.R_mono (ok' := fun _ => True) (Kd.R_lower hR (below_step HB2.out HW.out.1).size) (fun _ _ => trivial))
   clear hR hb
   go_wp2
   go_ret2
   exact ⟨_, rfl, HR8.out, HB8.out⟩

set_option maxHeartbeats 8000000 in
set_option maxRecDepth 100000 in
theorem message_Encode.enc4 (tr bn bd sn sd v : Int) (ok : Bool) (A8 : Option Addr) (c8 : Nat) (l8 : List S76) (A9 : Option Addr) (c9 : Nat) (l9 : List S92) (A10 : Option Addr) (c10 : Nat) (l10 : List Int) (w : World) (b1 b2 r1 : List Int) (r2 : Int)
  (hOf : ∀ W, Below w.heap.size w W → Calls Try.prog 23 #[.agg #[.int .i64 4, .int .u64 tr, .int .u64 bn, .int .u64 bd, .int .u64 sn, .int .u64 sd, .int .i64 v, .bool ok, .slice A8 l8.length c8, .slice A9 l9.length c9, .slice A10 l10.length c10]] W fun e w' => e = .returned (.tuple #[.iface 57 (.agg #[.int .u64 tr, .int .u64 bn, .int .u64 bd, .int .i64 v]), .int .i64 0]) ∧ Below W.heap.size W w')
  (h1 : message_Encode.nums [4] [tr] = some b1) (e1 : b1.length ≤ 1000) (h2 : message_Encode.nums b1 [bn, bd] = some b2) (e2 : b2.length ≤ 1000) (hf : frame_Put.f 100000 [] (b2) = some (r1, r2)) :
  Calls Try.prog 16 #[.agg #[.int .i64 4, .int .u64 tr, .int .u64 bn, .int .u64 bd, .int .u64 sn, .int .u64 sd, .int .i64 v, .bool ok, .slice A8 l8.length c8, .slice A9 l9.length c9, .slice A10 l10.length c10]] w fun e w' => ∃ v0_ : Value, e = .returned (.tuple #[v0_, .int .i64 r2]) ∧ Kd.R (Kd.int .u8) 5 w' w.heap.size (fun _ => True) v0_ r1 ∧ Below w.heap.size w w' := by
 have hu30 := Try.underlying30; have hu24 := Try.underlying24; have hu51 := Try.underlying51; have hu54 := Try.underlying54; have hu57 := Try.underlying57; have hu60 := Try.underlying60; have hu63 := Try.underlying63; have hu66 := Try.underlying66; have hu69 := Try.underlying69; have hu87 := Try.underlying87; have HOF := Aside0.mk hOf; have HF := Aside0.mk hf; have H1 := Aside0.mk h1; have H2 := Aside0.mk h2; clear hOf hf h1 h2
 go_enter Try.func16, Try.ntmps16
 go_wp2_with (first | ((with_reducible refine gate_dst (N := 1) rfl ?_); refine box_event ?hg (N := 1) ?hd (cs := #[.int .i64 4, .int .u64 tr, .int .u64 bn, .int .u64 bd, .int .u64 sn, .int .u64 sd, .int .i64 v, .bool ok, .slice A8 l8.length c8, .slice A9 l9.length c9, .slice A10 l10.length c10]) (t := 30) ?hr ?_; (case hd => rfl); (case hg => rfl); (case hr => (go_simp; done)); intro gp hg w1 hbox hb; have HB := Aside0.mk hb; have BK := Aside0.mk hbox; have HGE := Aside0.mk (show w.heap.size ≤ gp from Nat.le_of_eq hg.symm); clear hb hbox hg; obtain ⟨hcz_0, hcz_1, hcz_2, hcz_3, hcz_4, hcz_5, hcz_6, hcz_7, hcz_8, hcz_9, hcz_10⟩ := Hand.Cz.c11 BK.out) | (go_at_call 23; refine (HOF.out _ HB.out).mono ?_; rintro e w2 ⟨rfl, hb⟩; have ta51 := message_Right.ta57_51 (.agg #[.int .u64 tr, .int .u64 bn, .int .u64 bd, .int .i64 v]); have ta54 := message_Right.ta57_54 (.agg #[.int .u64 tr, .int .u64 bn, .int .u64 bd, .int .i64 v]); have ta57 := message_Right.ta57_57 (.agg #[.int .u64 tr, .int .u64 bn, .int .u64 bd, .int .i64 v]); have BK2 := Aside0.mk (blk_below BK.out hb); have HB2 := Aside0.mk (below_step HB.out hb); clear hb; clear hcz_0 hcz_1 hcz_2 hcz_3 hcz_4 hcz_5 hcz_6 hcz_7 hcz_8 hcz_9 hcz_10; obtain ⟨hcz_0, hcz_1, hcz_2, hcz_3, hcz_4, hcz_5, hcz_6, hcz_7, hcz_8, hcz_9, hcz_10⟩ := Hand.Cz.c11 BK2.out) | ((with_reducible refine gate_dst (N := 26) rfl ?_); refine box_event ?hg (N := 26) ?hd (cs := #[.slice none 0 0]) (t := 87) ?hr ?_; (case hd => rfl); (case hg => rfl); (case hr => (go_simp; done)); intro g hg w3 hbox hb; have HW3 := Aside0.mk (show message_Encode.WS w2 w3 g (fun k => w2.heap.size ≤ k ∧ k ≠ g) [] from ⟨hb, Nat.le_of_eq hg.symm, fun h => h.2 rfl, fun k hk => by have := blk_lt hbox; exact ⟨Nat.le_trans hb.size hk, by omega⟩, _, hbox, Kd.R_nil _ _ _ _ _⟩); have BK3 := Aside0.mk (blk_below BK2.out hb); clear hb hbox hg; clear hcz_0 hcz_1 hcz_2 hcz_3 hcz_4 hcz_5 hcz_6 hcz_7 hcz_8 hcz_9 hcz_10; obtain ⟨hcz_0, hcz_1, hcz_2, hcz_3, hcz_4, hcz_5, hcz_6, hcz_7, hcz_8, hcz_9, hcz_10⟩ := Hand.Cz.c11 BK3.out))
 refine (message_Encode.small w2 _ g (fun k => w2.heap.size ≤ k ∧ k ≠ g) [] 4 HW3.out (by simp)).mono ?_
 rintro e w4 ⟨rfl, hW, hK⟩
 rw [show ([] : List Int) ++ [(4 : Int) % 256] = [4] from rfl] at hW
 have HW4 := Aside0.mk hW; have BK4 := Aside0.mk (message_Encode.WS_blk hW BK2.out); clear hW hK; clear hcz_0 hcz_1 hcz_2 hcz_3 hcz_4 hcz_5 hcz_6 hcz_7 hcz_8 hcz_9 hcz_10
 obtain ⟨hcz_0, hcz_1, hcz_2, hcz_3, hcz_4, hcz_5, hcz_6, hcz_7, hcz_8, hcz_9, hcz_10⟩ := Hand.Cz.c11 BK4.out
 go_wp2_with ((with_reducible refine gate_dst (N := 37) rfl ?_); refine Kd.R_lit (Kd.int .u64) (w0 := w4) w4.heap.size 22 ?hg (N := 37) ?hd (xs := ([tr] : List Int)) (inner := [.int .u64 tr]) (ok := fun k => k = w4.heap.size) (okp := fun _ => False) ?hr ?hp (fun _ hk => hk.elim) rfl (Below.refl _ _) (Nat.le_refl _) (by simp) ?_; (case hd => rfl); (case hg => rfl); (case hr => (go_simp; done)); (case hp => exact (Reps.one (show Kd.M (Kd.int .u64) _ _ _ tr [.int .u64 tr] from rfl) (Reps.none _ _))); intro vl wl ho hb hg_ hnew_; have HRL := Aside0.mk ho; have HBL := Aside0.mk hb; have HNW := Aside0.mk hnew_; clear ho hb hg_ hnew_)
 obtain ⟨Al, cl, rfl⟩ := Kd.R_slice HRL.out
 refine (message_Encode.numbers_lit w2 w4 wl g (fun k => w2.heap.size ≤ k ∧ k ≠ g) [4] Al cl [tr] b1 HW4.out HBL.out HRL.out HNW.out (by simp) H1.out).mono ?_
 rintro e w5 ⟨rfl, hW, hK⟩
 have HW5 := Aside0.mk hW; clear hW hK HRL HBL HNW HW4 H1; clear hcz_0 hcz_1 hcz_2 hcz_3 hcz_4 hcz_5 hcz_6 hcz_7 hcz_8 hcz_9 hcz_10
 go_upto_region 23 with ((with_reducible refine gate_dst (N := 11) rfl ?_); refine box_event ?hg (N := 11) ?hd (cs := #[.int .u64 0, .int .u64 0, .int .u64 0, .int .i64 0]) (t := 57) ?hr ?_; (case hd => rfl); (case hg => rfl); (case hr => (go_simp; done)); intro gx hg w6 hbox hb; have hgx := hg.symm; have HX := Aside0.mk (show message_Encode.WS w2 w6 g (fun k => ((fun k => w2.heap.size ≤ k ∧ k ≠ g)) k ∧ k ≠ gx) _ from by rw [hg]; exact message_Encode.WS_lit HW5.out hb (by rw [← hg]; exact blk_lt hbox)); have HNE := Aside0.mk (show g ≠ gx from by have := message_Encode.WS_lt HW5.out; omega); have HGX := Aside0.mk (show w2.heap.size ≤ gx from by have := HW5.out.1.size; omega); have HGW := Aside0.mk (Nat.le_of_eq hgx); have HBX := Aside0.mk hb; have BX := Aside0.mk hbox; clear hbox hb hg hgx; obtain ⟨hxz_0, hxz_1, hxz_2, hxz_3⟩ := Hand.Cz.c4 BX.out; obtain ⟨hxf_0, hxf_1, hxf_2, hxf_3⟩ := Hand.Cz.f4 BX.out)
 generalize hW7 : World.setCell _ (Addr.mk gx 3 none) _ = w7
 have BX7 := Aside0.mk (show w7.heap[gx]? = some (.cells #[.int .u64 tr, .int .u64 bn, .int .u64 bd, .int .i64 v] 57 (0, 0)) from by rw [← hW7]; exact Hand.Cz.p4 BX.out)
 have HX7 := Aside0.mk (show message_Encode.WS w2 w7 g (fun k => (w2.heap.size ≤ k ∧ k ≠ g) ∧ k ≠ gx) b1 from by rw [← hW7]; exact (message_Encode.WS_far (message_Encode.WS_far (message_Encode.WS_far (message_Encode.WS_far HX.out HGX.out (fun h => h.2 rfl) HNE.out 0 _) HGX.out (fun h => h.2 rfl) HNE.out 1 _) HGX.out (fun h => h.2 rfl) HNE.out 2 _) HGX.out (fun h => h.2 rfl) HNE.out 3 _))
 clear hW7 HX BX HBX HGX HGW hxz_0 hxz_1 hxz_2 hxz_3 hxf_0 hxf_1 hxf_2 hxf_3
 obtain ⟨hx_0, hx_1, hx_2, hx_3⟩ := Hand.Cz.c4 BX7.out
 go_wp2_with fail
 refine (message_Encode.ballot w2 _ g (fun k => (w2.heap.size ≤ k ∧ k ≠ g) ∧ k ≠ gx) b1 bn bd b2 HX7.out H2.out).mono ?_
 rintro e w8 ⟨rfl, hW, hK⟩
 have BX8 := Aside0.mk (blk_kept BX7.out hK (fun h => h.elim (fun e => HNE.out e.symm) (fun e => e.2 rfl)))
 have HX8 := Aside0.mk hW; clear hW hK HX7 BX7 hx_0 hx_1 hx_2 hx_3
 obtain ⟨hx_0, hx_1, hx_2, hx_3⟩ := Hand.Cz.c4 BX8.out
 have BKK := Aside0.mk (message_Encode.WS_blk HX8.out BK2.out)
 obtain ⟨hcz_0, hcz_1, hcz_2, hcz_3, hcz_4, hcz_5, hcz_6, hcz_7, hcz_8, hcz_9, hcz_10⟩ := Hand.Cz.c11 BKK.out
 clear hx_0 hx_1 hx_2 hx_3
 obtain ⟨A9, c9_, hk9, hle9, hC9⟩ := message_Encode.WS_row HX8.out
 have HC9 := Aside0.mk hC9; have HLE := Aside0.mk hle9; have hgz_0 : w8.cell? ⟨g, 0, none⟩ = some (.slice A9 (b2).length c9_) := (blk_cell hk9 0).trans rfl; clear hk9 hle9 hC9
 go_wp2_with fail
 refine (frame_Put.calls 100000 (fun _ => True) none 0 [] A9 c9_ b2 r1 r2 _ (Kd.V_nil _ _ _ _ _) HC9.out HLE.out HF.out).mono ?_
 rintro e w10 ⟨v8, rfl, hR, hb⟩
 have HB8 := Aside0.mk (show Below w.heap.size w w10 from below_step (below_step HB2.out HX8.out.1) hb)
 have HR8 := Aside0.mk (Kd.R_mono (ok' := fun _ => True) (Kd.R_lower hR (below_step HB2.out HX8.out.1).size) (fun _ _ => trivial))
 clear hR hb
 go_wp2
 go_ret2
 exact ⟨_, rfl, HR8.out, HB8.out⟩

set_option maxHeartbeats 8000000 in
set_option maxRecDepth 100000 in
theorem message_Encode.enc5t (tr bn bd sn sd v : Int) (A8 : Option Addr) (c8 : Nat) (l8 : List S76) (A9 : Option Addr) (c9 : Nat) (l9 : List S92) (A10 : Option Addr) (c10 : Nat) (l10 : List Int) (w : World) (b1 b2 b3 r1 : List Int) (r2 : Int)
  (hOf : ∀ W, Below w.heap.size w W → Calls Try.prog 23 #[.agg #[.int .i64 5, .int .u64 tr, .int .u64 bn, .int .u64 bd, .int .u64 sn, .int .u64 sd, .int .i64 v, .bool true, .slice A8 l8.length c8, .slice A9 l9.length c9, .slice A10 l10.length c10]] W fun e w' => e = .returned (.tuple #[.iface 60 (.agg #[.int .u64 tr, .int .u64 bn, .int .u64 bd, .bool true, .int .u64 sn, .int .u64 sd, .int .i64 v, .bool false]), .int .i64 0]) ∧ Below W.heap.size W w')
  (h1 : message_Encode.nums [5] [tr] = some b1) (e1 : b1.length ≤ 1000) (h2 : message_Encode.nums b1 [bn, bd] = some b2) (e2 : b2.length ≤ 1000) (h3 : message_Encode.nums (b2 ++ [(1 : Int) % 256]) [sn, sd] = some b3) (e3 : b3.length ≤ 1000) (hf : frame_Put.f 100000 [] (b3 ++ [v % 256]) = some (r1, r2)) :
  Calls Try.prog 16 #[.agg #[.int .i64 5, .int .u64 tr, .int .u64 bn, .int .u64 bd, .int .u64 sn, .int .u64 sd, .int .i64 v, .bool true, .slice A8 l8.length c8, .slice A9 l9.length c9, .slice A10 l10.length c10]] w fun e w' => ∃ v0_ : Value, e = .returned (.tuple #[v0_, .int .i64 r2]) ∧ Kd.R (Kd.int .u8) 5 w' w.heap.size (fun _ => True) v0_ r1 ∧ Below w.heap.size w w' := by
 have hu30 := Try.underlying30; have hu24 := Try.underlying24; have hu51 := Try.underlying51; have hu54 := Try.underlying54; have hu57 := Try.underlying57; have hu60 := Try.underlying60; have hu63 := Try.underlying63; have hu66 := Try.underlying66; have hu69 := Try.underlying69; have hu87 := Try.underlying87; have HOF := Aside0.mk hOf; have HF := Aside0.mk hf; have H1 := Aside0.mk h1; have H2 := Aside0.mk h2; have H3 := Aside0.mk h3; clear hOf hf h1 h2 h3
 go_enter Try.func16, Try.ntmps16
 go_wp2_with (first | ((with_reducible refine gate_dst (N := 1) rfl ?_); refine box_event ?hg (N := 1) ?hd (cs := #[.int .i64 5, .int .u64 tr, .int .u64 bn, .int .u64 bd, .int .u64 sn, .int .u64 sd, .int .i64 v, .bool true, .slice A8 l8.length c8, .slice A9 l9.length c9, .slice A10 l10.length c10]) (t := 30) ?hr ?_; (case hd => rfl); (case hg => rfl); (case hr => (go_simp; done)); intro gp hg w1 hbox hb; have HB := Aside0.mk hb; have BK := Aside0.mk hbox; have HGE := Aside0.mk (show w.heap.size ≤ gp from Nat.le_of_eq hg.symm); clear hb hbox hg; obtain ⟨hcz_0, hcz_1, hcz_2, hcz_3, hcz_4, hcz_5, hcz_6, hcz_7, hcz_8, hcz_9, hcz_10⟩ := Hand.Cz.c11 BK.out) | (go_at_call 23; refine (HOF.out _ HB.out).mono ?_; rintro e w2 ⟨rfl, hb⟩; have ta51 := message_Right.ta60_51 (.agg #[.int .u64 tr, .int .u64 bn, .int .u64 bd, .bool true, .int .u64 sn, .int .u64 sd, .int .i64 v, .bool false]); have ta54 := message_Right.ta60_54 (.agg #[.int .u64 tr, .int .u64 bn, .int .u64 bd, .bool true, .int .u64 sn, .int .u64 sd, .int .i64 v, .bool false]); have ta57 := message_Right.ta60_57 (.agg #[.int .u64 tr, .int .u64 bn, .int .u64 bd, .bool true, .int .u64 sn, .int .u64 sd, .int .i64 v, .bool false]); have ta60 := message_Right.ta60_60 (.agg #[.int .u64 tr, .int .u64 bn, .int .u64 bd, .bool true, .int .u64 sn, .int .u64 sd, .int .i64 v, .bool false]); have BK2 := Aside0.mk (blk_below BK.out hb); have HB2 := Aside0.mk (below_step HB.out hb); clear hb; clear hcz_0 hcz_1 hcz_2 hcz_3 hcz_4 hcz_5 hcz_6 hcz_7 hcz_8 hcz_9 hcz_10; obtain ⟨hcz_0, hcz_1, hcz_2, hcz_3, hcz_4, hcz_5, hcz_6, hcz_7, hcz_8, hcz_9, hcz_10⟩ := Hand.Cz.c11 BK2.out) | ((with_reducible refine gate_dst (N := 26) rfl ?_); refine box_event ?hg (N := 26) ?hd (cs := #[.slice none 0 0]) (t := 87) ?hr ?_; (case hd => rfl); (case hg => rfl); (case hr => (go_simp; done)); intro g hg w3 hbox hb; have HW3 := Aside0.mk (show message_Encode.WS w2 w3 g (fun k => w2.heap.size ≤ k ∧ k ≠ g) [] from ⟨hb, Nat.le_of_eq hg.symm, fun h => h.2 rfl, fun k hk => by have := blk_lt hbox; exact ⟨Nat.le_trans hb.size hk, by omega⟩, _, hbox, Kd.R_nil _ _ _ _ _⟩); have BK3 := Aside0.mk (blk_below BK2.out hb); clear hb hbox hg; clear hcz_0 hcz_1 hcz_2 hcz_3 hcz_4 hcz_5 hcz_6 hcz_7 hcz_8 hcz_9 hcz_10; obtain ⟨hcz_0, hcz_1, hcz_2, hcz_3, hcz_4, hcz_5, hcz_6, hcz_7, hcz_8, hcz_9, hcz_10⟩ := Hand.Cz.c11 BK3.out))
 refine (message_Encode.small w2 _ g (fun k => w2.heap.size ≤ k ∧ k ≠ g) [] 5 HW3.out (by simp)).mono ?_
 rintro e w4 ⟨rfl, hW, hK⟩
 rw [show ([] : List Int) ++ [(5 : Int) % 256] = [5] from rfl] at hW
 have HW4 := Aside0.mk hW; have BK4 := Aside0.mk (message_Encode.WS_blk hW BK2.out); clear hW hK; clear hcz_0 hcz_1 hcz_2 hcz_3 hcz_4 hcz_5 hcz_6 hcz_7 hcz_8 hcz_9 hcz_10
 obtain ⟨hcz_0, hcz_1, hcz_2, hcz_3, hcz_4, hcz_5, hcz_6, hcz_7, hcz_8, hcz_9, hcz_10⟩ := Hand.Cz.c11 BK4.out
 go_wp2_with ((with_reducible refine gate_dst (N := 37) rfl ?_); refine Kd.R_lit (Kd.int .u64) (w0 := w4) w4.heap.size 22 ?hg (N := 37) ?hd (xs := ([tr] : List Int)) (inner := [.int .u64 tr]) (ok := fun k => k = w4.heap.size) (okp := fun _ => False) ?hr ?hp (fun _ hk => hk.elim) rfl (Below.refl _ _) (Nat.le_refl _) (by simp) ?_; (case hd => rfl); (case hg => rfl); (case hr => (go_simp; done)); (case hp => exact (Reps.one (show Kd.M (Kd.int .u64) _ _ _ tr [.int .u64 tr] from rfl) (Reps.none _ _))); intro vl wl ho hb hg_ hnew_; have HRL := Aside0.mk ho; have HBL := Aside0.mk hb; have HNW := Aside0.mk hnew_; clear ho hb hg_ hnew_)
 obtain ⟨Al, cl, rfl⟩ := Kd.R_slice HRL.out
 refine (message_Encode.numbers_lit w2 w4 wl g (fun k => w2.heap.size ≤ k ∧ k ≠ g) [5] Al cl [tr] b1 HW4.out HBL.out HRL.out HNW.out (by simp) H1.out).mono ?_
 rintro e w5 ⟨rfl, hW, hK⟩
 have HW5 := Aside0.mk hW; clear hW hK HRL HBL HNW HW4 H1; clear hcz_0 hcz_1 hcz_2 hcz_3 hcz_4 hcz_5 hcz_6 hcz_7 hcz_8 hcz_9 hcz_10
 go_upto_region 28 with ((with_reducible refine gate_dst (N := 12) rfl ?_); refine box_event ?hg (N := 12) ?hd (cs := #[.int .u64 0, .int .u64 0, .int .u64 0, .bool false, .int .u64 0, .int .u64 0, .int .i64 0, .bool false]) (t := 60) ?hr ?_; (case hd => rfl); (case hg => rfl); (case hr => (go_simp; done)); intro gx hg w6 hbox hb; have hgx := hg.symm; have HX := Aside0.mk (show message_Encode.WS w2 w6 g (fun k => ((fun k => w2.heap.size ≤ k ∧ k ≠ g)) k ∧ k ≠ gx) _ from by rw [hg]; exact message_Encode.WS_lit HW5.out hb (by rw [← hg]; exact blk_lt hbox)); have HNE := Aside0.mk (show g ≠ gx from by have := message_Encode.WS_lt HW5.out; omega); have HGX := Aside0.mk (show w2.heap.size ≤ gx from by have := HW5.out.1.size; omega); have HGW := Aside0.mk (Nat.le_of_eq hgx); have HBX := Aside0.mk hb; have BX := Aside0.mk hbox; clear hbox hb hg hgx; obtain ⟨hxz_0, hxz_1, hxz_2, hxz_3, hxz_4, hxz_5, hxz_6, hxz_7⟩ := Hand.Cz.c8 BX.out; obtain ⟨hxf_0, hxf_1, hxf_2, hxf_3, hxf_4, hxf_5, hxf_6, hxf_7⟩ := Hand.Cz.f8 BX.out)
 generalize hW7 : World.setCell _ (Addr.mk gx 7 none) _ = w7
 have BX7 := Aside0.mk (show w7.heap[gx]? = some (.cells #[.int .u64 tr, .int .u64 bn, .int .u64 bd, .bool true, .int .u64 sn, .int .u64 sd, .int .i64 v, .bool false] 60 (0, 0)) from by rw [← hW7]; exact Hand.Cz.p8 BX.out)
 have HX7 := Aside0.mk (show message_Encode.WS w2 w7 g (fun k => (w2.heap.size ≤ k ∧ k ≠ g) ∧ k ≠ gx) b1 from by rw [← hW7]; exact (message_Encode.WS_far (message_Encode.WS_far (message_Encode.WS_far (message_Encode.WS_far (message_Encode.WS_far (message_Encode.WS_far (message_Encode.WS_far (message_Encode.WS_far HX.out HGX.out (fun h => h.2 rfl) HNE.out 0 _) HGX.out (fun h => h.2 rfl) HNE.out 1 _) HGX.out (fun h => h.2 rfl) HNE.out 2 _) HGX.out (fun h => h.2 rfl) HNE.out 3 _) HGX.out (fun h => h.2 rfl) HNE.out 4 _) HGX.out (fun h => h.2 rfl) HNE.out 5 _) HGX.out (fun h => h.2 rfl) HNE.out 6 _) HGX.out (fun h => h.2 rfl) HNE.out 7 _))
 clear hW7 HX BX HBX HGX HGW hxz_0 hxz_1 hxz_2 hxz_3 hxz_4 hxz_5 hxz_6 hxz_7 hxf_0 hxf_1 hxf_2 hxf_3 hxf_4 hxf_5 hxf_6 hxf_7
 obtain ⟨hx_0, hx_1, hx_2, hx_3, hx_4, hx_5, hx_6, hx_7⟩ := Hand.Cz.c8 BX7.out
 go_wp2_with fail
 refine (message_Encode.ballot w2 _ g (fun k => (w2.heap.size ≤ k ∧ k ≠ g) ∧ k ≠ gx) b1 bn bd b2 HX7.out H2.out).mono ?_
 rintro e w8 ⟨rfl, hW, hK⟩
 have BX8 := Aside0.mk (blk_kept BX7.out hK (fun h => h.elim (fun e => HNE.out e.symm) (fun e => e.2 rfl)))
 have HX8 := Aside0.mk hW; clear hW hK HX7 BX7 hx_0 hx_1 hx_2 hx_3 hx_4 hx_5 hx_6 hx_7
 obtain ⟨hx_0, hx_1, hx_2, hx_3, hx_4, hx_5, hx_6, hx_7⟩ := Hand.Cz.c8 BX8.out
 go_wp2_with fail
 refine (message_Encode.small w2 _ g (fun k => (w2.heap.size ≤ k ∧ k ≠ g) ∧ k ≠ gx) b2 1 HX8.out (by (omega))).mono ?_
 rintro e w9 ⟨rfl, hW, hK⟩
 have BX9 := Aside0.mk (blk_kept BX8.out hK (fun h => h.elim (fun e => HNE.out e.symm) (fun e => e.2 rfl)))
 have HX9 := Aside0.mk hW; clear hW hK HX8 BX8 hx_0 hx_1 hx_2 hx_3 hx_4 hx_5 hx_6 hx_7
 obtain ⟨hx_0, hx_1, hx_2, hx_3, hx_4, hx_5, hx_6, hx_7⟩ := Hand.Cz.c8 BX9.out
 go_wp2_with fail
 refine (message_Encode.ballot w2 _ g (fun k => (w2.heap.size ≤ k ∧ k ≠ g) ∧ k ≠ gx) (b2 ++ [(1 : Int) % 256]) sn sd b3 HX9.out H3.out).mono ?_
 rintro e w10 ⟨rfl, hW, hK⟩
 have BX10 := Aside0.mk (blk_kept BX9.out hK (fun h => h.elim (fun e => HNE.out e.symm) (fun e => e.2 rfl)))
 have HX10 := Aside0.mk hW; clear hW hK HX9 BX9 hx_0 hx_1 hx_2 hx_3 hx_4 hx_5 hx_6 hx_7
 obtain ⟨hx_0, hx_1, hx_2, hx_3, hx_4, hx_5, hx_6, hx_7⟩ := Hand.Cz.c8 BX10.out
 go_wp2_with fail
 refine (message_Encode.small w2 _ g (fun k => (w2.heap.size ≤ k ∧ k ≠ g) ∧ k ≠ gx) b3 v HX10.out (by (omega))).mono ?_
 rintro e w11 ⟨rfl, hW, hK⟩
 have BX11 := Aside0.mk (blk_kept BX10.out hK (fun h => h.elim (fun e => HNE.out e.symm) (fun e => e.2 rfl)))
 have HX11 := Aside0.mk hW; clear hW hK HX10 BX10 hx_0 hx_1 hx_2 hx_3 hx_4 hx_5 hx_6 hx_7
 obtain ⟨hx_0, hx_1, hx_2, hx_3, hx_4, hx_5, hx_6, hx_7⟩ := Hand.Cz.c8 BX11.out
 clear hx_0 hx_1 hx_2 hx_3 hx_4 hx_5 hx_6 hx_7
 obtain ⟨A9, c9_, hk9, hle9, hC9⟩ := message_Encode.WS_row HX11.out
 have HC9 := Aside0.mk hC9; have HLE := Aside0.mk hle9; have hgz_0 : w11.cell? ⟨g, 0, none⟩ = some (.slice A9 (b3 ++ [v % 256]).length c9_) := (blk_cell hk9 0).trans rfl; clear hk9 hle9 hC9
 generalize b3 ++ [v % 256] = pay at *
 go_wp2_with fail
 refine (frame_Put.calls 100000 (fun _ => True) none 0 [] A9 c9_ pay r1 r2 _ (Kd.V_nil _ _ _ _ _) HC9.out HLE.out HF.out).mono ?_
 rintro e w10 ⟨v8, rfl, hR, hb⟩
 have HB8 := Aside0.mk (show Below w.heap.size w w10 from below_step (below_step HB2.out HX11.out.1) hb)
 have HR8 := Aside0.mk (Kd.R_mono (ok' := fun _ => True) (Kd.R_lower hR (below_step HB2.out HX11.out.1).size) (fun _ _ => trivial))
 clear hR hb
 go_wp2
 go_ret2
 exact ⟨_, rfl, HR8.out, HB8.out⟩

set_option maxHeartbeats 8000000 in
set_option maxRecDepth 100000 in
theorem message_Encode.enc5f (tr bn bd sn sd v : Int) (A8 : Option Addr) (c8 : Nat) (l8 : List S76) (A9 : Option Addr) (c9 : Nat) (l9 : List S92) (A10 : Option Addr) (c10 : Nat) (l10 : List Int) (w : World) (b1 b2 b3 r1 : List Int) (r2 : Int)
  (hOf : ∀ W, Below w.heap.size w W → Calls Try.prog 23 #[.agg #[.int .i64 5, .int .u64 tr, .int .u64 bn, .int .u64 bd, .int .u64 sn, .int .u64 sd, .int .i64 v, .bool false, .slice A8 l8.length c8, .slice A9 l9.length c9, .slice A10 l10.length c10]] W fun e w' => e = .returned (.tuple #[.iface 60 (.agg #[.int .u64 tr, .int .u64 bn, .int .u64 bd, .bool false, .int .u64 sn, .int .u64 sd, .int .i64 v, .bool false]), .int .i64 0]) ∧ Below W.heap.size W w')
  (h1 : message_Encode.nums [5] [tr] = some b1) (e1 : b1.length ≤ 1000) (h2 : message_Encode.nums b1 [bn, bd] = some b2) (e2 : b2.length ≤ 1000) (h3 : message_Encode.nums (b2 ++ [(0 : Int) % 256]) [sn, sd] = some b3) (e3 : b3.length ≤ 1000) (hf : frame_Put.f 100000 [] (b3 ++ [v % 256]) = some (r1, r2)) :
  Calls Try.prog 16 #[.agg #[.int .i64 5, .int .u64 tr, .int .u64 bn, .int .u64 bd, .int .u64 sn, .int .u64 sd, .int .i64 v, .bool false, .slice A8 l8.length c8, .slice A9 l9.length c9, .slice A10 l10.length c10]] w fun e w' => ∃ v0_ : Value, e = .returned (.tuple #[v0_, .int .i64 r2]) ∧ Kd.R (Kd.int .u8) 5 w' w.heap.size (fun _ => True) v0_ r1 ∧ Below w.heap.size w w' := by
 have hu30 := Try.underlying30; have hu24 := Try.underlying24; have hu51 := Try.underlying51; have hu54 := Try.underlying54; have hu57 := Try.underlying57; have hu60 := Try.underlying60; have hu63 := Try.underlying63; have hu66 := Try.underlying66; have hu69 := Try.underlying69; have hu87 := Try.underlying87; have HOF := Aside0.mk hOf; have HF := Aside0.mk hf; have H1 := Aside0.mk h1; have H2 := Aside0.mk h2; have H3 := Aside0.mk h3; clear hOf hf h1 h2 h3
 go_enter Try.func16, Try.ntmps16
 go_wp2_with (first | ((with_reducible refine gate_dst (N := 1) rfl ?_); refine box_event ?hg (N := 1) ?hd (cs := #[.int .i64 5, .int .u64 tr, .int .u64 bn, .int .u64 bd, .int .u64 sn, .int .u64 sd, .int .i64 v, .bool false, .slice A8 l8.length c8, .slice A9 l9.length c9, .slice A10 l10.length c10]) (t := 30) ?hr ?_; (case hd => rfl); (case hg => rfl); (case hr => (go_simp; done)); intro gp hg w1 hbox hb; have HB := Aside0.mk hb; have BK := Aside0.mk hbox; have HGE := Aside0.mk (show w.heap.size ≤ gp from Nat.le_of_eq hg.symm); clear hb hbox hg; obtain ⟨hcz_0, hcz_1, hcz_2, hcz_3, hcz_4, hcz_5, hcz_6, hcz_7, hcz_8, hcz_9, hcz_10⟩ := Hand.Cz.c11 BK.out) | (go_at_call 23; refine (HOF.out _ HB.out).mono ?_; rintro e w2 ⟨rfl, hb⟩; have ta51 := message_Right.ta60_51 (.agg #[.int .u64 tr, .int .u64 bn, .int .u64 bd, .bool false, .int .u64 sn, .int .u64 sd, .int .i64 v, .bool false]); have ta54 := message_Right.ta60_54 (.agg #[.int .u64 tr, .int .u64 bn, .int .u64 bd, .bool false, .int .u64 sn, .int .u64 sd, .int .i64 v, .bool false]); have ta57 := message_Right.ta60_57 (.agg #[.int .u64 tr, .int .u64 bn, .int .u64 bd, .bool false, .int .u64 sn, .int .u64 sd, .int .i64 v, .bool false]); have ta60 := message_Right.ta60_60 (.agg #[.int .u64 tr, .int .u64 bn, .int .u64 bd, .bool false, .int .u64 sn, .int .u64 sd, .int .i64 v, .bool false]); have BK2 := Aside0.mk (blk_below BK.out hb); have HB2 := Aside0.mk (below_step HB.out hb); clear hb; clear hcz_0 hcz_1 hcz_2 hcz_3 hcz_4 hcz_5 hcz_6 hcz_7 hcz_8 hcz_9 hcz_10; obtain ⟨hcz_0, hcz_1, hcz_2, hcz_3, hcz_4, hcz_5, hcz_6, hcz_7, hcz_8, hcz_9, hcz_10⟩ := Hand.Cz.c11 BK2.out) | ((with_reducible refine gate_dst (N := 26) rfl ?_); refine box_event ?hg (N := 26) ?hd (cs := #[.slice none 0 0]) (t := 87) ?hr ?_; (case hd => rfl); (case hg => rfl); (case hr => (go_simp; done)); intro g hg w3 hbox hb; have HW3 := Aside0.mk (show message_Encode.WS w2 w3 g (fun k => w2.heap.size ≤ k ∧ k ≠ g) [] from ⟨hb, Nat.le_of_eq hg.symm, fun h => h.2 rfl, fun k hk => by have := blk_lt hbox; exact ⟨Nat.le_trans hb.size hk, by omega⟩, _, hbox, Kd.R_nil _ _ _ _ _⟩); have BK3 := Aside0.mk (blk_below BK2.out hb); clear hb hbox hg; clear hcz_0 hcz_1 hcz_2 hcz_3 hcz_4 hcz_5 hcz_6 hcz_7 hcz_8 hcz_9 hcz_10; obtain ⟨hcz_0, hcz_1, hcz_2, hcz_3, hcz_4, hcz_5, hcz_6, hcz_7, hcz_8, hcz_9, hcz_10⟩ := Hand.Cz.c11 BK3.out))
 refine (message_Encode.small w2 _ g (fun k => w2.heap.size ≤ k ∧ k ≠ g) [] 5 HW3.out (by simp)).mono ?_
 rintro e w4 ⟨rfl, hW, hK⟩
 rw [show ([] : List Int) ++ [(5 : Int) % 256] = [5] from rfl] at hW
 have HW4 := Aside0.mk hW; have BK4 := Aside0.mk (message_Encode.WS_blk hW BK2.out); clear hW hK; clear hcz_0 hcz_1 hcz_2 hcz_3 hcz_4 hcz_5 hcz_6 hcz_7 hcz_8 hcz_9 hcz_10
 obtain ⟨hcz_0, hcz_1, hcz_2, hcz_3, hcz_4, hcz_5, hcz_6, hcz_7, hcz_8, hcz_9, hcz_10⟩ := Hand.Cz.c11 BK4.out
 go_wp2_with ((with_reducible refine gate_dst (N := 37) rfl ?_); refine Kd.R_lit (Kd.int .u64) (w0 := w4) w4.heap.size 22 ?hg (N := 37) ?hd (xs := ([tr] : List Int)) (inner := [.int .u64 tr]) (ok := fun k => k = w4.heap.size) (okp := fun _ => False) ?hr ?hp (fun _ hk => hk.elim) rfl (Below.refl _ _) (Nat.le_refl _) (by simp) ?_; (case hd => rfl); (case hg => rfl); (case hr => (go_simp; done)); (case hp => exact (Reps.one (show Kd.M (Kd.int .u64) _ _ _ tr [.int .u64 tr] from rfl) (Reps.none _ _))); intro vl wl ho hb hg_ hnew_; have HRL := Aside0.mk ho; have HBL := Aside0.mk hb; have HNW := Aside0.mk hnew_; clear ho hb hg_ hnew_)
 obtain ⟨Al, cl, rfl⟩ := Kd.R_slice HRL.out
 refine (message_Encode.numbers_lit w2 w4 wl g (fun k => w2.heap.size ≤ k ∧ k ≠ g) [5] Al cl [tr] b1 HW4.out HBL.out HRL.out HNW.out (by simp) H1.out).mono ?_
 rintro e w5 ⟨rfl, hW, hK⟩
 have HW5 := Aside0.mk hW; clear hW hK HRL HBL HNW HW4 H1; clear hcz_0 hcz_1 hcz_2 hcz_3 hcz_4 hcz_5 hcz_6 hcz_7 hcz_8 hcz_9 hcz_10
 go_upto_region 28 with ((with_reducible refine gate_dst (N := 12) rfl ?_); refine box_event ?hg (N := 12) ?hd (cs := #[.int .u64 0, .int .u64 0, .int .u64 0, .bool false, .int .u64 0, .int .u64 0, .int .i64 0, .bool false]) (t := 60) ?hr ?_; (case hd => rfl); (case hg => rfl); (case hr => (go_simp; done)); intro gx hg w6 hbox hb; have hgx := hg.symm; have HX := Aside0.mk (show message_Encode.WS w2 w6 g (fun k => ((fun k => w2.heap.size ≤ k ∧ k ≠ g)) k ∧ k ≠ gx) _ from by rw [hg]; exact message_Encode.WS_lit HW5.out hb (by rw [← hg]; exact blk_lt hbox)); have HNE := Aside0.mk (show g ≠ gx from by have := message_Encode.WS_lt HW5.out; omega); have HGX := Aside0.mk (show w2.heap.size ≤ gx from by have := HW5.out.1.size; omega); have HGW := Aside0.mk (Nat.le_of_eq hgx); have HBX := Aside0.mk hb; have BX := Aside0.mk hbox; clear hbox hb hg hgx; obtain ⟨hxz_0, hxz_1, hxz_2, hxz_3, hxz_4, hxz_5, hxz_6, hxz_7⟩ := Hand.Cz.c8 BX.out; obtain ⟨hxf_0, hxf_1, hxf_2, hxf_3, hxf_4, hxf_5, hxf_6, hxf_7⟩ := Hand.Cz.f8 BX.out)
 generalize hW7 : World.setCell _ (Addr.mk gx 7 none) _ = w7
 have BX7 := Aside0.mk (show w7.heap[gx]? = some (.cells #[.int .u64 tr, .int .u64 bn, .int .u64 bd, .bool false, .int .u64 sn, .int .u64 sd, .int .i64 v, .bool false] 60 (0, 0)) from by rw [← hW7]; exact Hand.Cz.p8 BX.out)
 have HX7 := Aside0.mk (show message_Encode.WS w2 w7 g (fun k => (w2.heap.size ≤ k ∧ k ≠ g) ∧ k ≠ gx) b1 from by rw [← hW7]; exact (message_Encode.WS_far (message_Encode.WS_far (message_Encode.WS_far (message_Encode.WS_far (message_Encode.WS_far (message_Encode.WS_far (message_Encode.WS_far (message_Encode.WS_far HX.out HGX.out (fun h => h.2 rfl) HNE.out 0 _) HGX.out (fun h => h.2 rfl) HNE.out 1 _) HGX.out (fun h => h.2 rfl) HNE.out 2 _) HGX.out (fun h => h.2 rfl) HNE.out 3 _) HGX.out (fun h => h.2 rfl) HNE.out 4 _) HGX.out (fun h => h.2 rfl) HNE.out 5 _) HGX.out (fun h => h.2 rfl) HNE.out 6 _) HGX.out (fun h => h.2 rfl) HNE.out 7 _))
 clear hW7 HX BX HBX HGX HGW hxz_0 hxz_1 hxz_2 hxz_3 hxz_4 hxz_5 hxz_6 hxz_7 hxf_0 hxf_1 hxf_2 hxf_3 hxf_4 hxf_5 hxf_6 hxf_7
 obtain ⟨hx_0, hx_1, hx_2, hx_3, hx_4, hx_5, hx_6, hx_7⟩ := Hand.Cz.c8 BX7.out
 go_wp2_with fail
 refine (message_Encode.ballot w2 _ g (fun k => (w2.heap.size ≤ k ∧ k ≠ g) ∧ k ≠ gx) b1 bn bd b2 HX7.out H2.out).mono ?_
 rintro e w8 ⟨rfl, hW, hK⟩
 have BX8 := Aside0.mk (blk_kept BX7.out hK (fun h => h.elim (fun e => HNE.out e.symm) (fun e => e.2 rfl)))
 have HX8 := Aside0.mk hW; clear hW hK HX7 BX7 hx_0 hx_1 hx_2 hx_3 hx_4 hx_5 hx_6 hx_7
 obtain ⟨hx_0, hx_1, hx_2, hx_3, hx_4, hx_5, hx_6, hx_7⟩ := Hand.Cz.c8 BX8.out
 go_wp2_with fail
 refine (message_Encode.small w2 _ g (fun k => (w2.heap.size ≤ k ∧ k ≠ g) ∧ k ≠ gx) b2 0 HX8.out (by (omega))).mono ?_
 rintro e w9 ⟨rfl, hW, hK⟩
 have BX9 := Aside0.mk (blk_kept BX8.out hK (fun h => h.elim (fun e => HNE.out e.symm) (fun e => e.2 rfl)))
 have HX9 := Aside0.mk hW; clear hW hK HX8 BX8 hx_0 hx_1 hx_2 hx_3 hx_4 hx_5 hx_6 hx_7
 obtain ⟨hx_0, hx_1, hx_2, hx_3, hx_4, hx_5, hx_6, hx_7⟩ := Hand.Cz.c8 BX9.out
 go_wp2_with fail
 refine (message_Encode.ballot w2 _ g (fun k => (w2.heap.size ≤ k ∧ k ≠ g) ∧ k ≠ gx) (b2 ++ [(0 : Int) % 256]) sn sd b3 HX9.out H3.out).mono ?_
 rintro e w10 ⟨rfl, hW, hK⟩
 have BX10 := Aside0.mk (blk_kept BX9.out hK (fun h => h.elim (fun e => HNE.out e.symm) (fun e => e.2 rfl)))
 have HX10 := Aside0.mk hW; clear hW hK HX9 BX9 hx_0 hx_1 hx_2 hx_3 hx_4 hx_5 hx_6 hx_7
 obtain ⟨hx_0, hx_1, hx_2, hx_3, hx_4, hx_5, hx_6, hx_7⟩ := Hand.Cz.c8 BX10.out
 go_wp2_with fail
 refine (message_Encode.small w2 _ g (fun k => (w2.heap.size ≤ k ∧ k ≠ g) ∧ k ≠ gx) b3 v HX10.out (by (omega))).mono ?_
 rintro e w11 ⟨rfl, hW, hK⟩
 have BX11 := Aside0.mk (blk_kept BX10.out hK (fun h => h.elim (fun e => HNE.out e.symm) (fun e => e.2 rfl)))
 have HX11 := Aside0.mk hW; clear hW hK HX10 BX10 hx_0 hx_1 hx_2 hx_3 hx_4 hx_5 hx_6 hx_7
 obtain ⟨hx_0, hx_1, hx_2, hx_3, hx_4, hx_5, hx_6, hx_7⟩ := Hand.Cz.c8 BX11.out
 clear hx_0 hx_1 hx_2 hx_3 hx_4 hx_5 hx_6 hx_7
 obtain ⟨A9, c9_, hk9, hle9, hC9⟩ := message_Encode.WS_row HX11.out
 have HC9 := Aside0.mk hC9; have HLE := Aside0.mk hle9; have hgz_0 : w11.cell? ⟨g, 0, none⟩ = some (.slice A9 (b3 ++ [v % 256]).length c9_) := (blk_cell hk9 0).trans rfl; clear hk9 hle9 hC9
 generalize b3 ++ [v % 256] = pay at *
 go_wp2_with fail
 refine (frame_Put.calls 100000 (fun _ => True) none 0 [] A9 c9_ pay r1 r2 _ (Kd.V_nil _ _ _ _ _) HC9.out HLE.out HF.out).mono ?_
 rintro e w10 ⟨v8, rfl, hR, hb⟩
 have HB8 := Aside0.mk (show Below w.heap.size w w10 from below_step (below_step HB2.out HX11.out.1) hb)
 have HR8 := Aside0.mk (Kd.R_mono (ok' := fun _ => True) (Kd.R_lower hR (below_step HB2.out HX11.out.1).size) (fun _ _ => trivial))
 clear hR hb
 go_wp2
 go_ret2
 exact ⟨_, rfl, HR8.out, HB8.out⟩

set_option maxHeartbeats 8000000 in
set_option maxRecDepth 100000 in
theorem message_Encode.enc6 (tr bn bd sn sd v : Int) (ok : Bool) (A8 : Option Addr) (c8 : Nat) (l8 : List S76) (A9 : Option Addr) (c9 : Nat) (l9 : List S92) (A10 : Option Addr) (c10 : Nat) (l10 : List Int) (w : World) (b1 b2 r1 : List Int) (r2 : Int)
  (hOf : ∀ W, Below w.heap.size w W → Calls Try.prog 23 #[.agg #[.int .i64 6, .int .u64 tr, .int .u64 bn, .int .u64 bd, .int .u64 sn, .int .u64 sd, .int .i64 v, .bool ok, .slice A8 l8.length c8, .slice A9 l9.length c9, .slice A10 l10.length c10]] W fun e w' => e = .returned (.tuple #[.iface 57 (.agg #[.int .u64 tr, .int .u64 bn, .int .u64 bd, .int .i64 v]), .int .i64 0]) ∧ Below W.heap.size W w')
  (h1 : message_Encode.nums [6] [tr] = some b1) (e1 : b1.length ≤ 1000) (h2 : message_Encode.nums b1 [bn, bd] = some b2) (e2 : b2.length ≤ 1000) (hf : frame_Put.f 100000 [] (b2 ++ [v % 256]) = some (r1, r2)) :
  Calls Try.prog 16 #[.agg #[.int .i64 6, .int .u64 tr, .int .u64 bn, .int .u64 bd, .int .u64 sn, .int .u64 sd, .int .i64 v, .bool ok, .slice A8 l8.length c8, .slice A9 l9.length c9, .slice A10 l10.length c10]] w fun e w' => ∃ v0_ : Value, e = .returned (.tuple #[v0_, .int .i64 r2]) ∧ Kd.R (Kd.int .u8) 5 w' w.heap.size (fun _ => True) v0_ r1 ∧ Below w.heap.size w w' := by
 have hu30 := Try.underlying30; have hu24 := Try.underlying24; have hu51 := Try.underlying51; have hu54 := Try.underlying54; have hu57 := Try.underlying57; have hu60 := Try.underlying60; have hu63 := Try.underlying63; have hu66 := Try.underlying66; have hu69 := Try.underlying69; have hu87 := Try.underlying87; have HOF := Aside0.mk hOf; have HF := Aside0.mk hf; have H1 := Aside0.mk h1; have H2 := Aside0.mk h2; clear hOf hf h1 h2
 go_enter Try.func16, Try.ntmps16
 go_wp2_with (first | ((with_reducible refine gate_dst (N := 1) rfl ?_); refine box_event ?hg (N := 1) ?hd (cs := #[.int .i64 6, .int .u64 tr, .int .u64 bn, .int .u64 bd, .int .u64 sn, .int .u64 sd, .int .i64 v, .bool ok, .slice A8 l8.length c8, .slice A9 l9.length c9, .slice A10 l10.length c10]) (t := 30) ?hr ?_; (case hd => rfl); (case hg => rfl); (case hr => (go_simp; done)); intro gp hg w1 hbox hb; have HB := Aside0.mk hb; have BK := Aside0.mk hbox; have HGE := Aside0.mk (show w.heap.size ≤ gp from Nat.le_of_eq hg.symm); clear hb hbox hg; obtain ⟨hcz_0, hcz_1, hcz_2, hcz_3, hcz_4, hcz_5, hcz_6, hcz_7, hcz_8, hcz_9, hcz_10⟩ := Hand.Cz.c11 BK.out) | (go_at_call 23; refine (HOF.out _ HB.out).mono ?_; rintro e w2 ⟨rfl, hb⟩; have ta51 := message_Right.ta57_51 (.agg #[.int .u64 tr, .int .u64 bn, .int .u64 bd, .int .i64 v]); have ta54 := message_Right.ta57_54 (.agg #[.int .u64 tr, .int .u64 bn, .int .u64 bd, .int .i64 v]); have ta57 := message_Right.ta57_57 (.agg #[.int .u64 tr, .int .u64 bn, .int .u64 bd, .int .i64 v]); have BK2 := Aside0.mk (blk_below BK.out hb); have HB2 := Aside0.mk (below_step HB.out hb); clear hb; clear hcz_0 hcz_1 hcz_2 hcz_3 hcz_4 hcz_5 hcz_6 hcz_7 hcz_8 hcz_9 hcz_10; obtain ⟨hcz_0, hcz_1, hcz_2, hcz_3, hcz_4, hcz_5, hcz_6, hcz_7, hcz_8, hcz_9, hcz_10⟩ := Hand.Cz.c11 BK2.out) | ((with_reducible refine gate_dst (N := 26) rfl ?_); refine box_event ?hg (N := 26) ?hd (cs := #[.slice none 0 0]) (t := 87) ?hr ?_; (case hd => rfl); (case hg => rfl); (case hr => (go_simp; done)); intro g hg w3 hbox hb; have HW3 := Aside0.mk (show message_Encode.WS w2 w3 g (fun k => w2.heap.size ≤ k ∧ k ≠ g) [] from ⟨hb, Nat.le_of_eq hg.symm, fun h => h.2 rfl, fun k hk => by have := blk_lt hbox; exact ⟨Nat.le_trans hb.size hk, by omega⟩, _, hbox, Kd.R_nil _ _ _ _ _⟩); have BK3 := Aside0.mk (blk_below BK2.out hb); clear hb hbox hg; clear hcz_0 hcz_1 hcz_2 hcz_3 hcz_4 hcz_5 hcz_6 hcz_7 hcz_8 hcz_9 hcz_10; obtain ⟨hcz_0, hcz_1, hcz_2, hcz_3, hcz_4, hcz_5, hcz_6, hcz_7, hcz_8, hcz_9, hcz_10⟩ := Hand.Cz.c11 BK3.out))
 refine (message_Encode.small w2 _ g (fun k => w2.heap.size ≤ k ∧ k ≠ g) [] 6 HW3.out (by simp)).mono ?_
 rintro e w4 ⟨rfl, hW, hK⟩
 rw [show ([] : List Int) ++ [(6 : Int) % 256] = [6] from rfl] at hW
 have HW4 := Aside0.mk hW; have BK4 := Aside0.mk (message_Encode.WS_blk hW BK2.out); clear hW hK; clear hcz_0 hcz_1 hcz_2 hcz_3 hcz_4 hcz_5 hcz_6 hcz_7 hcz_8 hcz_9 hcz_10
 obtain ⟨hcz_0, hcz_1, hcz_2, hcz_3, hcz_4, hcz_5, hcz_6, hcz_7, hcz_8, hcz_9, hcz_10⟩ := Hand.Cz.c11 BK4.out
 go_wp2_with ((with_reducible refine gate_dst (N := 37) rfl ?_); refine Kd.R_lit (Kd.int .u64) (w0 := w4) w4.heap.size 22 ?hg (N := 37) ?hd (xs := ([tr] : List Int)) (inner := [.int .u64 tr]) (ok := fun k => k = w4.heap.size) (okp := fun _ => False) ?hr ?hp (fun _ hk => hk.elim) rfl (Below.refl _ _) (Nat.le_refl _) (by simp) ?_; (case hd => rfl); (case hg => rfl); (case hr => (go_simp; done)); (case hp => exact (Reps.one (show Kd.M (Kd.int .u64) _ _ _ tr [.int .u64 tr] from rfl) (Reps.none _ _))); intro vl wl ho hb hg_ hnew_; have HRL := Aside0.mk ho; have HBL := Aside0.mk hb; have HNW := Aside0.mk hnew_; clear ho hb hg_ hnew_)
 obtain ⟨Al, cl, rfl⟩ := Kd.R_slice HRL.out
 refine (message_Encode.numbers_lit w2 w4 wl g (fun k => w2.heap.size ≤ k ∧ k ≠ g) [6] Al cl [tr] b1 HW4.out HBL.out HRL.out HNW.out (by simp) H1.out).mono ?_
 rintro e w5 ⟨rfl, hW, hK⟩
 have HW5 := Aside0.mk hW; clear hW hK HRL HBL HNW HW4 H1; clear hcz_0 hcz_1 hcz_2 hcz_3 hcz_4 hcz_5 hcz_6 hcz_7 hcz_8 hcz_9 hcz_10
 go_upto_region 23 with ((with_reducible refine gate_dst (N := 11) rfl ?_); refine box_event ?hg (N := 11) ?hd (cs := #[.int .u64 0, .int .u64 0, .int .u64 0, .int .i64 0]) (t := 57) ?hr ?_; (case hd => rfl); (case hg => rfl); (case hr => (go_simp; done)); intro gx hg w6 hbox hb; have hgx := hg.symm; have HX := Aside0.mk (show message_Encode.WS w2 w6 g (fun k => ((fun k => w2.heap.size ≤ k ∧ k ≠ g)) k ∧ k ≠ gx) _ from by rw [hg]; exact message_Encode.WS_lit HW5.out hb (by rw [← hg]; exact blk_lt hbox)); have HNE := Aside0.mk (show g ≠ gx from by have := message_Encode.WS_lt HW5.out; omega); have HGX := Aside0.mk (show w2.heap.size ≤ gx from by have := HW5.out.1.size; omega); have HGW := Aside0.mk (Nat.le_of_eq hgx); have HBX := Aside0.mk hb; have BX := Aside0.mk hbox; clear hbox hb hg hgx; obtain ⟨hxz_0, hxz_1, hxz_2, hxz_3⟩ := Hand.Cz.c4 BX.out; obtain ⟨hxf_0, hxf_1, hxf_2, hxf_3⟩ := Hand.Cz.f4 BX.out)
 generalize hW7 : World.setCell _ (Addr.mk gx 3 none) _ = w7
 have BX7 := Aside0.mk (show w7.heap[gx]? = some (.cells #[.int .u64 tr, .int .u64 bn, .int .u64 bd, .int .i64 v] 57 (0, 0)) from by rw [← hW7]; exact Hand.Cz.p4 BX.out)
 have HX7 := Aside0.mk (show message_Encode.WS w2 w7 g (fun k => (w2.heap.size ≤ k ∧ k ≠ g) ∧ k ≠ gx) b1 from by rw [← hW7]; exact (message_Encode.WS_far (message_Encode.WS_far (message_Encode.WS_far (message_Encode.WS_far HX.out HGX.out (fun h => h.2 rfl) HNE.out 0 _) HGX.out (fun h => h.2 rfl) HNE.out 1 _) HGX.out (fun h => h.2 rfl) HNE.out 2 _) HGX.out (fun h => h.2 rfl) HNE.out 3 _))
 clear hW7 HX BX HBX HGX HGW hxz_0 hxz_1 hxz_2 hxz_3 hxf_0 hxf_1 hxf_2 hxf_3
 obtain ⟨hx_0, hx_1, hx_2, hx_3⟩ := Hand.Cz.c4 BX7.out
 go_wp2_with fail
 refine (message_Encode.ballot w2 _ g (fun k => (w2.heap.size ≤ k ∧ k ≠ g) ∧ k ≠ gx) b1 bn bd b2 HX7.out H2.out).mono ?_
 rintro e w8 ⟨rfl, hW, hK⟩
 have BX8 := Aside0.mk (blk_kept BX7.out hK (fun h => h.elim (fun e => HNE.out e.symm) (fun e => e.2 rfl)))
 have HX8 := Aside0.mk hW; clear hW hK HX7 BX7 hx_0 hx_1 hx_2 hx_3
 obtain ⟨hx_0, hx_1, hx_2, hx_3⟩ := Hand.Cz.c4 BX8.out
 have BKK := Aside0.mk (message_Encode.WS_blk HX8.out BK2.out)
 obtain ⟨hcz_0, hcz_1, hcz_2, hcz_3, hcz_4, hcz_5, hcz_6, hcz_7, hcz_8, hcz_9, hcz_10⟩ := Hand.Cz.c11 BKK.out
 go_wp2_with fail
 refine (message_Encode.small w2 _ g (fun k => (w2.heap.size ≤ k ∧ k ≠ g) ∧ k ≠ gx) b2 v HX8.out (by (omega))).mono ?_
 rintro e w9 ⟨rfl, hW, hK⟩
 have BX9 := Aside0.mk (blk_kept BX8.out hK (fun h => h.elim (fun e => HNE.out e.symm) (fun e => e.2 rfl)))
 have HX9 := Aside0.mk hW; clear hW hK HX8 BX8 hx_0 hx_1 hx_2 hx_3
 obtain ⟨hx_0, hx_1, hx_2, hx_3⟩ := Hand.Cz.c4 BX9.out
 clear hx_0 hx_1 hx_2 hx_3
 obtain ⟨A9, c9_, hk9, hle9, hC9⟩ := message_Encode.WS_row HX9.out
 have HC9 := Aside0.mk hC9; have HLE := Aside0.mk hle9; have hgz_0 : w9.cell? ⟨g, 0, none⟩ = some (.slice A9 (b2 ++ [v % 256]).length c9_) := (blk_cell hk9 0).trans rfl; clear hk9 hle9 hC9
 generalize b2 ++ [v % 256] = pay at *
 go_wp2_with fail
 refine (frame_Put.calls 100000 (fun _ => True) none 0 [] A9 c9_ pay r1 r2 _ (Kd.V_nil _ _ _ _ _) HC9.out HLE.out HF.out).mono ?_
 rintro e w10 ⟨v8, rfl, hR, hb⟩
 have HB8 := Aside0.mk (show Below w.heap.size w w10 from below_step (below_step HB2.out HX9.out.1) hb)
 have HR8 := Aside0.mk (Kd.R_mono (ok' := fun _ => True) (Kd.R_lower hR (below_step HB2.out HX9.out.1).size) (fun _ _ => trivial))
 clear hR hb
 go_wp2
 go_ret2
 exact ⟨_, rfl, HR8.out, HB8.out⟩

set_option maxHeartbeats 8000000 in
set_option maxRecDepth 100000 in
theorem message_Encode.enc7t (tr bn bd sn sd v : Int) (A8 : Option Addr) (c8 : Nat) (l8 : List S76) (A9 : Option Addr) (c9 : Nat) (l9 : List S92) (A10 : Option Addr) (c10 : Nat) (l10 : List Int) (w : World) (b1 b2 b3 r1 : List Int) (r2 : Int)
  (hOf : ∀ W, Below w.heap.size w W → Calls Try.prog 23 #[.agg #[.int .i64 7, .int .u64 tr, .int .u64 bn, .int .u64 bd, .int .u64 sn, .int .u64 sd, .int .i64 v, .bool true, .slice A8 l8.length c8, .slice A9 l9.length c9, .slice A10 l10.length c10]] W fun e w' => e = .returned (.tuple #[.iface 60 (.agg #[.int .u64 tr, .int .u64 bn, .int .u64 bd, .bool true, .int .u64 sn, .int .u64 sd, .int .i64 v, .bool true]), .int .i64 0]) ∧ Below W.heap.size W w')
  (h1 : message_Encode.nums [7] [tr] = some b1) (e1 : b1.length ≤ 1000) (h2 : message_Encode.nums b1 [bn, bd] = some b2) (e2 : b2.length ≤ 1000) (h3 : message_Encode.nums (b2 ++ [(1 : Int) % 256]) [sn, sd] = some b3) (e3 : b3.length ≤ 1000) (hf : frame_Put.f 100000 [] (b3) = some (r1, r2)) :
  Calls Try.prog 16 #[.agg #[.int .i64 7, .int .u64 tr, .int .u64 bn, .int .u64 bd, .int .u64 sn, .int .u64 sd, .int .i64 v, .bool true, .slice A8 l8.length c8, .slice A9 l9.length c9, .slice A10 l10.length c10]] w fun e w' => ∃ v0_ : Value, e = .returned (.tuple #[v0_, .int .i64 r2]) ∧ Kd.R (Kd.int .u8) 5 w' w.heap.size (fun _ => True) v0_ r1 ∧ Below w.heap.size w w' := by
 have hu30 := Try.underlying30; have hu24 := Try.underlying24; have hu51 := Try.underlying51; have hu54 := Try.underlying54; have hu57 := Try.underlying57; have hu60 := Try.underlying60; have hu63 := Try.underlying63; have hu66 := Try.underlying66; have hu69 := Try.underlying69; have hu87 := Try.underlying87; have HOF := Aside0.mk hOf; have HF := Aside0.mk hf; have H1 := Aside0.mk h1; have H2 := Aside0.mk h2; have H3 := Aside0.mk h3; clear hOf hf h1 h2 h3
 go_enter Try.func16, Try.ntmps16
 go_wp2_with (first | ((with_reducible refine gate_dst (N := 1) rfl ?_); refine box_event ?hg (N := 1) ?hd (cs := #[.int .i64 7, .int .u64 tr, .int .u64 bn, .int .u64 bd, .int .u64 sn, .int .u64 sd, .int .i64 v, .bool true, .slice A8 l8.length c8, .slice A9 l9.length c9, .slice A10 l10.length c10]) (t := 30) ?hr ?_; (case hd => rfl); (case hg => rfl); (case hr => (go_simp; done)); intro gp hg w1 hbox hb; have HB := Aside0.mk hb; have BK := Aside0.mk hbox; have HGE := Aside0.mk (show w.heap.size ≤ gp from Nat.le_of_eq hg.symm); clear hb hbox hg; obtain ⟨hcz_0, hcz_1, hcz_2, hcz_3, hcz_4, hcz_5, hcz_6, hcz_7, hcz_8, hcz_9, hcz_10⟩ := Hand.Cz.c11 BK.out) | (go_at_call 23; refine (HOF.out _ HB.out).mono ?_; rintro e w2 ⟨rfl, hb⟩; have ta51 := message_Right.ta60_51 (.agg #[.int .u64 tr, .int .u64 bn, .int .u64 bd, .bool true, .int .u64 sn, .int .u64 sd, .int .i64 v, .bool true]); have ta54 := message_Right.ta60_54 (.agg #[.int .u64 tr, .int .u64 bn, .int .u64 bd, .bool true, .int .u64 sn, .int .u64 sd, .int .i64 v, .bool true]); have ta57 := message_Right.ta60_57 (.agg #[.int .u64 tr, .int .u64 bn, .int .u64 bd, .bool true, .int .u64 sn, .int .u64 sd, .int .i64 v, .bool true]); have ta60 := message_Right.ta60_60 (.agg #[.int .u64 tr, .int .u64 bn, .int .u64 bd, .bool true, .int .u64 sn, .int .u64 sd, .int .i64 v, .bool true]); have BK2 := Aside0.mk (blk_below BK.out hb); have HB2 := Aside0.mk (below_step HB.out hb); clear hb; clear hcz_0 hcz_1 hcz_2 hcz_3 hcz_4 hcz_5 hcz_6 hcz_7 hcz_8 hcz_9 hcz_10; obtain ⟨hcz_0, hcz_1, hcz_2, hcz_3, hcz_4, hcz_5, hcz_6, hcz_7, hcz_8, hcz_9, hcz_10⟩ := Hand.Cz.c11 BK2.out) | ((with_reducible refine gate_dst (N := 26) rfl ?_); refine box_event ?hg (N := 26) ?hd (cs := #[.slice none 0 0]) (t := 87) ?hr ?_; (case hd => rfl); (case hg => rfl); (case hr => (go_simp; done)); intro g hg w3 hbox hb; have HW3 := Aside0.mk (show message_Encode.WS w2 w3 g (fun k => w2.heap.size ≤ k ∧ k ≠ g) [] from ⟨hb, Nat.le_of_eq hg.symm, fun h => h.2 rfl, fun k hk => by have := blk_lt hbox; exact ⟨Nat.le_trans hb.size hk, by omega⟩, _, hbox, Kd.R_nil _ _ _ _ _⟩); have BK3 := Aside0.mk (blk_below BK2.out hb); clear hb hbox hg; clear hcz_0 hcz_1 hcz_2 hcz_3 hcz_4 hcz_5 hcz_6 hcz_7 hcz_8 hcz_9 hcz_10; obtain ⟨hcz_0, hcz_1, hcz_2, hcz_3, hcz_4, hcz_5, hcz_6, hcz_7, hcz_8, hcz_9, hcz_10⟩ := Hand.Cz.c11 BK3.out))
 refine (message_Encode.small w2 _ g (fun k => w2.heap.size ≤ k ∧ k ≠ g) [] 7 HW3.out (by simp)).mono ?_
 rintro e w4 ⟨rfl, hW, hK⟩
 rw [show ([] : List Int) ++ [(7 : Int) % 256] = [7] from rfl] at hW
 have HW4 := Aside0.mk hW; have BK4 := Aside0.mk (message_Encode.WS_blk hW BK2.out); clear hW hK; clear hcz_0 hcz_1 hcz_2 hcz_3 hcz_4 hcz_5 hcz_6 hcz_7 hcz_8 hcz_9 hcz_10
 obtain ⟨hcz_0, hcz_1, hcz_2, hcz_3, hcz_4, hcz_5, hcz_6, hcz_7, hcz_8, hcz_9, hcz_10⟩ := Hand.Cz.c11 BK4.out
 go_wp2_with ((with_reducible refine gate_dst (N := 37) rfl ?_); refine Kd.R_lit (Kd.int .u64) (w0 := w4) w4.heap.size 22 ?hg (N := 37) ?hd (xs := ([tr] : List Int)) (inner := [.int .u64 tr]) (ok := fun k => k = w4.heap.size) (okp := fun _ => False) ?hr ?hp (fun _ hk => hk.elim) rfl (Below.refl _ _) (Nat.le_refl _) (by simp) ?_; (case hd => rfl); (case hg => rfl); (case hr => (go_simp; done)); (case hp => exact (Reps.one (show Kd.M (Kd.int .u64) _ _ _ tr [.int .u64 tr] from rfl) (Reps.none _ _))); intro vl wl ho hb hg_ hnew_; have HRL := Aside0.mk ho; have HBL := Aside0.mk hb; have HNW := Aside0.mk hnew_; clear ho hb hg_ hnew_)
 obtain ⟨Al, cl, rfl⟩ := Kd.R_slice HRL.out
 refine (message_Encode.numbers_lit w2 w4 wl g (fun k => w2.heap.size ≤ k ∧ k ≠ g) [7] Al cl [tr] b1 HW4.out HBL.out HRL.out HNW.out (by simp) H1.out).mono ?_
 rintro e w5 ⟨rfl, hW, hK⟩
 have HW5 := Aside0.mk hW; clear hW hK HRL HBL HNW HW4 H1; clear hcz_0 hcz_1 hcz_2 hcz_3 hcz_4 hcz_5 hcz_6 hcz_7 hcz_8 hcz_9 hcz_10
 go_upto_region 28 with ((with_reducible refine gate_dst (N := 12) rfl ?_); refine box_event ?hg (N := 12) ?hd (cs := #[.int .u64 0, .int .u64 0, .int .u64 0, .bool false, .int .u64 0, .int .u64 0, .int .i64 0, .bool false]) (t := 60) ?hr ?_; (case hd => rfl); (case hg => rfl); (case hr => (go_simp; done)); intro gx hg w6 hbox hb; have hgx := hg.symm; have HX := Aside0.mk (show message_Encode.WS w2 w6 g (fun k => ((fun k => w2.heap.size ≤ k ∧ k ≠ g)) k ∧ k ≠ gx) _ from by rw [hg]; exact message_Encode.WS_lit HW5.out hb (by rw [← hg]; exact blk_lt hbox)); have HNE := Aside0.mk (show g ≠ gx from by have := message_Encode.WS_lt HW5.out; omega); have HGX := Aside0.mk (show w2.heap.size ≤ gx from by have := HW5.out.1.size; omega); have HGW := Aside0.mk (Nat.le_of_eq hgx); have HBX := Aside0.mk hb; have BX := Aside0.mk hbox; clear hbox hb hg hgx; obtain ⟨hxz_0, hxz_1, hxz_2, hxz_3, hxz_4, hxz_5, hxz_6, hxz_7⟩ := Hand.Cz.c8 BX.out; obtain ⟨hxf_0, hxf_1, hxf_2, hxf_3, hxf_4, hxf_5, hxf_6, hxf_7⟩ := Hand.Cz.f8 BX.out)
 generalize hW7 : World.setCell _ (Addr.mk gx 7 none) _ = w7
 have BX7 := Aside0.mk (show w7.heap[gx]? = some (.cells #[.int .u64 tr, .int .u64 bn, .int .u64 bd, .bool true, .int .u64 sn, .int .u64 sd, .int .i64 v, .bool true] 60 (0, 0)) from by rw [← hW7]; exact Hand.Cz.p8 BX.out)
 have HX7 := Aside0.mk (show message_Encode.WS w2 w7 g (fun k => (w2.heap.size ≤ k ∧ k ≠ g) ∧ k ≠ gx) b1 from by rw [← hW7]; exact (message_Encode.WS_far (message_Encode.WS_far (message_Encode.WS_far (message_Encode.WS_far (message_Encode.WS_far (message_Encode.WS_far (message_Encode.WS_far (message_Encode.WS_far HX.out HGX.out (fun h => h.2 rfl) HNE.out 0 _) HGX.out (fun h => h.2 rfl) HNE.out 1 _) HGX.out (fun h => h.2 rfl) HNE.out 2 _) HGX.out (fun h => h.2 rfl) HNE.out 3 _) HGX.out (fun h => h.2 rfl) HNE.out 4 _) HGX.out (fun h => h.2 rfl) HNE.out 5 _) HGX.out (fun h => h.2 rfl) HNE.out 6 _) HGX.out (fun h => h.2 rfl) HNE.out 7 _))
 clear hW7 HX BX HBX HGX HGW hxz_0 hxz_1 hxz_2 hxz_3 hxz_4 hxz_5 hxz_6 hxz_7 hxf_0 hxf_1 hxf_2 hxf_3 hxf_4 hxf_5 hxf_6 hxf_7
 obtain ⟨hx_0, hx_1, hx_2, hx_3, hx_4, hx_5, hx_6, hx_7⟩ := Hand.Cz.c8 BX7.out
 go_wp2_with fail
 refine (message_Encode.ballot w2 _ g (fun k => (w2.heap.size ≤ k ∧ k ≠ g) ∧ k ≠ gx) b1 bn bd b2 HX7.out H2.out).mono ?_
 rintro e w8 ⟨rfl, hW, hK⟩
 have BX8 := Aside0.mk (blk_kept BX7.out hK (fun h => h.elim (fun e => HNE.out e.symm) (fun e => e.2 rfl)))
 have HX8 := Aside0.mk hW; clear hW hK HX7 BX7 hx_0 hx_1 hx_2 hx_3 hx_4 hx_5 hx_6 hx_7
 obtain ⟨hx_0, hx_1, hx_2, hx_3, hx_4, hx_5, hx_6, hx_7⟩ := Hand.Cz.c8 BX8.out
 go_wp2_with fail
 refine (message_Encode.small w2 _ g (fun k => (w2.heap.size ≤ k ∧ k ≠ g) ∧ k ≠ gx) b2 1 HX8.out (by (omega))).mono ?_
 rintro e w9 ⟨rfl, hW, hK⟩
 have BX9 := Aside0.mk (blk_kept BX8.out hK (fun h => h.elim (fun e => HNE.out e.symm) (fun e => e.2 rfl)))
 have HX9 := Aside0.mk hW; clear hW hK HX8 BX8 hx_0 hx_1 hx_2 hx_3 hx_4 hx_5 hx_6 hx_7
 obtain ⟨hx_0, hx_1, hx_2, hx_3, hx_4, hx_5, hx_6, hx_7⟩ := Hand.Cz.c8 BX9.out
 go_wp2_with fail
 refine (message_Encode.ballot w2 _ g (fun k => (w2.heap.size ≤ k ∧ k ≠ g) ∧ k ≠ gx) (b2 ++ [(1 : Int) % 256]) sn sd b3 HX9.out H3.out).mono ?_
 rintro e w10 ⟨rfl, hW, hK⟩
 have BX10 := Aside0.mk (blk_kept BX9.out hK (fun h => h.elim (fun e => HNE.out e.symm) (fun e => e.2 rfl)))
 have HX10 := Aside0.mk hW; clear hW hK HX9 BX9 hx_0 hx_1 hx_2 hx_3 hx_4 hx_5 hx_6 hx_7
 obtain ⟨hx_0, hx_1, hx_2, hx_3, hx_4, hx_5, hx_6, hx_7⟩ := Hand.Cz.c8 BX10.out
 obtain ⟨A9, c9_, hk9, hle9, hC9⟩ := message_Encode.WS_row HX10.out
 have HC9 := Aside0.mk hC9; have HLE := Aside0.mk hle9; have hgz_0 : w10.cell? ⟨g, 0, none⟩ = some (.slice A9 (b3).length c9_) := (blk_cell hk9 0).trans rfl; clear hk9 hle9 hC9
 go_wp2_with fail
 refine (frame_Put.calls 100000 (fun _ => True) none 0 [] A9 c9_ b3 r1 r2 _ (Kd.V_nil _ _ _ _ _) HC9.out HLE.out HF.out).mono ?_
 rintro e w10 ⟨v8, rfl, hR, hb⟩
 have HB8 := Aside0.mk (show Below w.heap.size w w10 from below_step (below_step HB2.out HX10.out.1) hb)
 have HR8 := Aside0.mk (Kd.R_mono (ok' := fun _ => True) (Kd.R_lower hR (below_step HB2.out HX10.out.1).size) (fun _ _ => trivial))
 clear hR hb
 go_wp2
 go_ret2
 exact ⟨_, rfl, HR8.out, HB8.out⟩

set_option maxHeartbeats 8000000 in
set_option maxRecDepth 100000 in
theorem message_Encode.enc7f (tr bn bd sn sd v : Int) (A8 : Option Addr) (c8 : Nat) (l8 : List S76) (A9 : Option Addr) (c9 : Nat) (l9 : List S92) (A10 : Option Addr) (c10 : Nat) (l10 : List Int) (w : World) (b1 b2 b3 r1 : List Int) (r2 : Int)
  (hOf : ∀ W, Below w.heap.size w W → Calls Try.prog 23 #[.agg #[.int .i64 7, .int .u64 tr, .int .u64 bn, .int .u64 bd, .int .u64 sn, .int .u64 sd, .int .i64 v, .bool false, .slice A8 l8.length c8, .slice A9 l9.length c9, .slice A10 l10.length c10]] W fun e w' => e = .returned (.tuple #[.iface 60 (.agg #[.int .u64 tr, .int .u64 bn, .int .u64 bd, .bool false, .int .u64 sn, .int .u64 sd, .int .i64 v, .bool true]), .int .i64 0]) ∧ Below W.heap.size W w')
  (h1 : message_Encode.nums [7] [tr] = some b1) (e1 : b1.length ≤ 1000) (h2 : message_Encode.nums b1 [bn, bd] = some b2) (e2 : b2.length ≤ 1000) (h3 : message_Encode.nums (b2 ++ [(0 : Int) % 256]) [sn, sd] = some b3) (e3 : b3.length ≤ 1000) (hf : frame_Put.f 100000 [] (b3) = some (r1, r2)) :
  Calls Try.prog 16 #[.agg #[.int .i64 7, .int .u64 tr, .int .u64 bn, .int .u64 bd, .int .u64 sn, .int .u64 sd, .int .i64 v, .bool false, .slice A8 l8.length c8, .slice A9 l9.length c9, .slice A10 l10.length c10]] w fun e w' => ∃ v0_ : Value, e = .returned (.tuple #[v0_, .int .i64 r2]) ∧ Kd.R (Kd.int .u8) 5 w' w.heap.size (fun _ => True) v0_ r1 ∧ Below w.heap.size w w' := by
 have hu30 := Try.underlying30; have hu24 := Try.underlying24; have hu51 := Try.underlying51; have hu54 := Try.underlying54; have hu57 := Try.underlying57; have hu60 := Try.underlying60; have hu63 := Try.underlying63; have hu66 := Try.underlying66; have hu69 := Try.underlying69; have hu87 := Try.underlying87; have HOF := Aside0.mk hOf; have HF := Aside0.mk hf; have H1 := Aside0.mk h1; have H2 := Aside0.mk h2; have H3 := Aside0.mk h3; clear hOf hf h1 h2 h3
 go_enter Try.func16, Try.ntmps16
 go_wp2_with (first | ((with_reducible refine gate_dst (N := 1) rfl ?_); refine box_event ?hg (N := 1) ?hd (cs := #[.int .i64 7, .int .u64 tr, .int .u64 bn, .int .u64 bd, .int .u64 sn, .int .u64 sd, .int .i64 v, .bool false, .slice A8 l8.length c8, .slice A9 l9.length c9, .slice A10 l10.length c10]) (t := 30) ?hr ?_; (case hd => rfl); (case hg => rfl); (case hr => (go_simp; done)); intro gp hg w1 hbox hb; have HB := Aside0.mk hb; have BK := Aside0.mk hbox; have HGE := Aside0.mk (show w.heap.size ≤ gp from Nat.le_of_eq hg.symm); clear hb hbox hg; obtain ⟨hcz_0, hcz_1, hcz_2, hcz_3, hcz_4, hcz_5, hcz_6, hcz_7, hcz_8, hcz_9, hcz_10⟩ := Hand.Cz.c11 BK.out) | (go_at_call 23; refine (HOF.out _ HB.out).mono ?_; rintro e w2 ⟨rfl, hb⟩; have ta51 := message_Right.ta60_51 (.agg #[.int .u64 tr, .int .u64 bn, .int .u64 bd, .bool false, .int .u64 sn, .int .u64 sd, .int .i64 v, .bool true]); have ta54 := message_Right.ta60_54 (.agg #[.int .u64 tr, .int .u64 bn, .int .u64 bd, .bool false, .int .u64 sn, .int .u64 sd, .int .i64 v, .bool true]); have ta57 := message_Right.ta60_57 (.agg #[.int .u64 tr, .int .u64 bn, .int .u64 bd, .bool false, .int .u64 sn, .int .u64 sd, .int .i64 v, .bool true]); have ta60 := message_Right.ta60_60 (.agg #[.int .u64 tr, .int .u64 bn, .int .u64 bd, .bool false, .int .u64 sn, .int .u64 sd, .int .i64 v, .bool true]); have BK2 := Aside0.mk (blk_below BK.out hb); have HB2 := Aside0.mk (below_step HB.out hb); clear hb; clear hcz_0 hcz_1 hcz_2 hcz_3 hcz_4 hcz_5 hcz_6 hcz_7 hcz_8 hcz_9 hcz_10; obtain ⟨hcz_0, hcz_1, hcz_2, hcz_3, hcz_4, hcz_5, hcz_6, hcz_7, hcz_8, hcz_9, hcz_10⟩ := Hand.Cz.c11 BK2.out) | ((with_reducible refine gate_dst (N := 26) rfl ?_); refine box_event ?hg (N := 26) ?hd (cs := #[.slice none 0 0]) (t := 87) ?hr ?_; (case hd => rfl); (case hg => rfl); (case hr => (go_simp; done)); intro g hg w3 hbox hb; have HW3 := Aside0.mk (show message_Encode.WS w2 w3 g (fun k => w2.heap.size ≤ k ∧ k ≠ g) [] from ⟨hb, Nat.le_of_eq hg.symm, fun h => h.2 rfl, fun k hk => by have := blk_lt hbox; exact ⟨Nat.le_trans hb.size hk, by omega⟩, _, hbox, Kd.R_nil _ _ _ _ _⟩); have BK3 := Aside0.mk (blk_below BK2.out hb); clear hb hbox hg; clear hcz_0 hcz_1 hcz_2 hcz_3 hcz_4 hcz_5 hcz_6 hcz_7 hcz_8 hcz_9 hcz_10; obtain ⟨hcz_0, hcz_1, hcz_2, hcz_3, hcz_4, hcz_5, hcz_6, hcz_7, hcz_8, hcz_9, hcz_10⟩ := Hand.Cz.c11 BK3.out))
 refine (message_Encode.small w2 _ g (fun k => w2.heap.size ≤ k ∧ k ≠ g) [] 7 HW3.out (by simp)).mono ?_
 rintro e w4 ⟨rfl, hW, hK⟩
 rw [show ([] : List Int) ++ [(7 : Int) % 256] = [7] from rfl] at hW
 have HW4 := Aside0.mk hW; have BK4 := Aside0.mk (message_Encode.WS_blk hW BK2.out); clear hW hK; clear hcz_0 hcz_1 hcz_2 hcz_3 hcz_4 hcz_5 hcz_6 hcz_7 hcz_8 hcz_9 hcz_10
 obtain ⟨hcz_0, hcz_1, hcz_2, hcz_3, hcz_4, hcz_5, hcz_6, hcz_7, hcz_8, hcz_9, hcz_10⟩ := Hand.Cz.c11 BK4.out
 go_wp2_with ((with_reducible refine gate_dst (N := 37) rfl ?_); refine Kd.R_lit (Kd.int .u64) (w0 := w4) w4.heap.size 22 ?hg (N := 37) ?hd (xs := ([tr] : List Int)) (inner := [.int .u64 tr]) (ok := fun k => k = w4.heap.size) (okp := fun _ => False) ?hr ?hp (fun _ hk => hk.elim) rfl (Below.refl _ _) (Nat.le_refl _) (by simp) ?_; (case hd => rfl); (case hg => rfl); (case hr => (go_simp; done)); (case hp => exact (Reps.one (show Kd.M (Kd.int .u64) _ _ _ tr [.int .u64 tr] from rfl) (Reps.none _ _))); intro vl wl ho hb hg_ hnew_; have HRL := Aside0.mk ho; have HBL := Aside0.mk hb; have HNW := Aside0.mk hnew_; clear ho hb hg_ hnew_)
 obtain ⟨Al, cl, rfl⟩ := Kd.R_slice HRL.out
 refine (message_Encode.numbers_lit w2 w4 wl g (fun k => w2.heap.size ≤ k ∧ k ≠ g) [7] Al cl [tr] b1 HW4.out HBL.out HRL.out HNW.out (by simp) H1.out).mono ?_
 rintro e w5 ⟨rfl, hW, hK⟩
 have HW5 := Aside0.mk hW; clear hW hK HRL HBL HNW HW4 H1; clear hcz_0 hcz_1 hcz_2 hcz_3 hcz_4 hcz_5 hcz_6 hcz_7 hcz_8 hcz_9 hcz_10
 go_upto_region 28 with ((with_reducible refine gate_dst (N := 12) rfl ?_); refine box_event ?hg (N := 12) ?hd (cs := #[.int .u64 0, .int .u64 0, .int .u64 0, .bool false, .int .u64 0, .int .u64 0, .int .i64 0, .bool false]) (t := 60) ?hr ?_; (case hd => rfl); (case hg => rfl); (case hr => (go_simp; done)); intro gx hg w6 hbox hb; have hgx := hg.symm; have HX := Aside0.mk (show message_Encode.WS w2 w6 g (fun k => ((fun k => w2.heap.size ≤ k ∧ k ≠ g)) k ∧ k ≠ gx) _ from by rw [hg]; exact message_Encode.WS_lit HW5.out hb (by rw [← hg]; exact blk_lt hbox)); have HNE := Aside0.mk (show g ≠ gx from by have := message_Encode.WS_lt HW5.out; omega); have HGX := Aside0.mk (show w2.heap.size ≤ gx from by have := HW5.out.1.size; omega); have HGW := Aside0.mk (Nat.le_of_eq hgx); have HBX := Aside0.mk hb; have BX := Aside0.mk hbox; clear hbox hb hg hgx; obtain ⟨hxz_0, hxz_1, hxz_2, hxz_3, hxz_4, hxz_5, hxz_6, hxz_7⟩ := Hand.Cz.c8 BX.out; obtain ⟨hxf_0, hxf_1, hxf_2, hxf_3, hxf_4, hxf_5, hxf_6, hxf_7⟩ := Hand.Cz.f8 BX.out)
 generalize hW7 : World.setCell _ (Addr.mk gx 7 none) _ = w7
 have BX7 := Aside0.mk (show w7.heap[gx]? = some (.cells #[.int .u64 tr, .int .u64 bn, .int .u64 bd, .bool false, .int .u64 sn, .int .u64 sd, .int .i64 v, .bool true] 60 (0, 0)) from by rw [← hW7]; exact Hand.Cz.p8 BX.out)
 have HX7 := Aside0.mk (show message_Encode.WS w2 w7 g (fun k => (w2.heap.size ≤ k ∧ k ≠ g) ∧ k ≠ gx) b1 from by rw [← hW7]; exact (message_Encode.WS_far (message_Encode.WS_far (message_Encode.WS_far (message_Encode.WS_far (message_Encode.WS_far (message_Encode.WS_far (message_Encode.WS_far (message_Encode.WS_far HX.out HGX.out (fun h => h.2 rfl) HNE.out 0 _) HGX.out (fun h => h.2 rfl) HNE.out 1 _) HGX.out (fun h => h.2 rfl) HNE.out 2 _) HGX.out (fun h => h.2 rfl) HNE.out 3 _) HGX.out (fun h => h.2 rfl) HNE.out 4 _) HGX.out (fun h => h.2 rfl) HNE.out 5 _) HGX.out (fun h => h.2 rfl) HNE.out 6 _) HGX.out (fun h => h.2 rfl) HNE.out 7 _))
 clear hW7 HX BX HBX HGX HGW hxz_0 hxz_1 hxz_2 hxz_3 hxz_4 hxz_5 hxz_6 hxz_7 hxf_0 hxf_1 hxf_2 hxf_3 hxf_4 hxf_5 hxf_6 hxf_7
 obtain ⟨hx_0, hx_1, hx_2, hx_3, hx_4, hx_5, hx_6, hx_7⟩ := Hand.Cz.c8 BX7.out
 go_wp2_with fail
 refine (message_Encode.ballot w2 _ g (fun k => (w2.heap.size ≤ k ∧ k ≠ g) ∧ k ≠ gx) b1 bn bd b2 HX7.out H2.out).mono ?_
 rintro e w8 ⟨rfl, hW, hK⟩
 have BX8 := Aside0.mk (blk_kept BX7.out hK (fun h => h.elim (fun e => HNE.out e.symm) (fun e => e.2 rfl)))
 have HX8 := Aside0.mk hW; clear hW hK HX7 BX7 hx_0 hx_1 hx_2 hx_3 hx_4 hx_5 hx_6 hx_7
 obtain ⟨hx_0, hx_1, hx_2, hx_3, hx_4, hx_5, hx_6, hx_7⟩ := Hand.Cz.c8 BX8.out
 go_wp2_with fail
 refine (message_Encode.small w2 _ g (fun k => (w2.heap.size ≤ k ∧ k ≠ g) ∧ k ≠ gx) b2 0 HX8.out (by (omega))).mono ?_
 rintro e w9 ⟨rfl, hW, hK⟩
 have BX9 := Aside0.mk (blk_kept BX8.out hK (fun h => h.elim (fun e => HNE.out e.symm) (fun e => e.2 rfl)))
 have HX9 := Aside0.mk hW; clear hW hK HX8 BX8 hx_0 hx_1 hx_2 hx_3 hx_4 hx_5 hx_6 hx_7
 obtain ⟨hx_0, hx_1, hx_2, hx_3, hx_4, hx_5, hx_6, hx_7⟩ := Hand.Cz.c8 BX9.out
 go_wp2_with fail
 refine (message_Encode.ballot w2 _ g (fun k => (w2.heap.size ≤ k ∧ k ≠ g) ∧ k ≠ gx) (b2 ++ [(0 : Int) % 256]) sn sd b3 HX9.out H3.out).mono ?_
 rintro e w10 ⟨rfl, hW, hK⟩
 have BX10 := Aside0.mk (blk_kept BX9.out hK (fun h => h.elim (fun e => HNE.out e.symm) (fun e => e.2 rfl)))
 have HX10 := Aside0.mk hW; clear hW hK HX9 BX9 hx_0 hx_1 hx_2 hx_3 hx_4 hx_5 hx_6 hx_7
 obtain ⟨hx_0, hx_1, hx_2, hx_3, hx_4, hx_5, hx_6, hx_7⟩ := Hand.Cz.c8 BX10.out
 obtain ⟨A9, c9_, hk9, hle9, hC9⟩ := message_Encode.WS_row HX10.out
 have HC9 := Aside0.mk hC9; have HLE := Aside0.mk hle9; have hgz_0 : w10.cell? ⟨g, 0, none⟩ = some (.slice A9 (b3).length c9_) := (blk_cell hk9 0).trans rfl; clear hk9 hle9 hC9
 go_wp2_with fail
 refine (frame_Put.calls 100000 (fun _ => True) none 0 [] A9 c9_ b3 r1 r2 _ (Kd.V_nil _ _ _ _ _) HC9.out HLE.out HF.out).mono ?_
 rintro e w10 ⟨v8, rfl, hR, hb⟩
 have HB8 := Aside0.mk (show Below w.heap.size w w10 from below_step (below_step HB2.out HX10.out.1) hb)
 have HR8 := Aside0.mk (Kd.R_mono (ok' := fun _ => True) (Kd.R_lower hR (below_step HB2.out HX10.out.1).size) (fun _ _ => trivial))
 clear hR hb
 go_wp2
 go_ret2
 exact ⟨_, rfl, HR8.out, HB8.out⟩

set_option maxHeartbeats 8000000 in
set_option maxRecDepth 100000 in
theorem message_Encode.enc8 (tr bn bd sn sd v : Int) (ok : Bool) (A8 : Option Addr) (c8 : Nat) (l8 : List S76) (A9 : Option Addr) (c9 : Nat) (l9 : List S92) (A10 : Option Addr) (c10 : Nat) (l10 : List Int) (w : World) (b1 r1 : List Int) (r2 : Int)
  (hOf : ∀ W, Below w.heap.size w W → Calls Try.prog 23 #[.agg #[.int .i64 8, .int .u64 tr, .int .u64 bn, .int .u64 bd, .int .u64 sn, .int .u64 sd, .int .i64 v, .bool ok, .slice A8 l8.length c8, .slice A9 l9.length c9, .slice A10 l10.length c10]] W fun e w' => e = .returned (.tuple #[.iface 63 (.agg #[.int .u64 tr, .int .i64 v]), .int .i64 0]) ∧ Below W.heap.size W w')
  (h1 : message_Encode.nums [8] [tr] = some b1) (e1 : b1.length ≤ 1000) (hf : frame_Put.f 100000 [] (b1 ++ [v % 256]) = some (r1, r2)) :
  Calls Try.prog 16 #[.agg #[.int .i64 8, .int .u64 tr, .int .u64 bn, .int .u64 bd, .int .u64 sn, .int .u64 sd, .int .i64 v, .bool ok, .slice A8 l8.length c8, .slice A9 l9.length c9, .slice A10 l10.length c10]] w fun e w' => ∃ v0_ : Value, e = .returned (.tuple #[v0_, .int .i64 r2]) ∧ Kd.R (Kd.int .u8) 5 w' w.heap.size (fun _ => True) v0_ r1 ∧ Below w.heap.size w w' := by
 have hu30 := Try.underlying30; have hu24 := Try.underlying24; have hu51 := Try.underlying51; have hu54 := Try.underlying54; have hu57 := Try.underlying57; have hu60 := Try.underlying60; have hu63 := Try.underlying63; have hu66 := Try.underlying66; have hu69 := Try.underlying69; have hu87 := Try.underlying87; have HOF := Aside0.mk hOf; have HF := Aside0.mk hf; have H1 := Aside0.mk h1; clear hOf hf h1
 go_enter Try.func16, Try.ntmps16
 go_wp2_with (first | ((with_reducible refine gate_dst (N := 1) rfl ?_); refine box_event ?hg (N := 1) ?hd (cs := #[.int .i64 8, .int .u64 tr, .int .u64 bn, .int .u64 bd, .int .u64 sn, .int .u64 sd, .int .i64 v, .bool ok, .slice A8 l8.length c8, .slice A9 l9.length c9, .slice A10 l10.length c10]) (t := 30) ?hr ?_; (case hd => rfl); (case hg => rfl); (case hr => (go_simp; done)); intro gp hg w1 hbox hb; have HB := Aside0.mk hb; have BK := Aside0.mk hbox; have HGE := Aside0.mk (show w.heap.size ≤ gp from Nat.le_of_eq hg.symm); clear hb hbox hg; obtain ⟨hcz_0, hcz_1, hcz_2, hcz_3, hcz_4, hcz_5, hcz_6, hcz_7, hcz_8, hcz_9, hcz_10⟩ := Hand.Cz.c11 BK.out) | (go_at_call 23; refine (HOF.out _ HB.out).mono ?_; rintro e w2 ⟨rfl, hb⟩; have ta51 := message_Right.ta63_51 (.agg #[.int .u64 tr, .int .i64 v]); have ta54 := message_Right.ta63_54 (.agg #[.int .u64 tr, .int .i64 v]); have ta57 := message_Right.ta63_57 (.agg #[.int .u64 tr, .int .i64 v]); have ta60 := message_Right.ta63_60 (.agg #[.int .u64 tr, .int .i64 v]); have ta63 := message_Right.ta63_63 (.agg #[.int .u64 tr, .int .i64 v]); have BK2 := Aside0.mk (blk_below BK.out hb); have HB2 := Aside0.mk (below_step HB.out hb); clear hb; clear hcz_0 hcz_1 hcz_2 hcz_3 hcz_4 hcz_5 hcz_6 hcz_7 hcz_8 hcz_9 hcz_10; obtain ⟨hcz_0, hcz_1, hcz_2, hcz_3, hcz_4, hcz_5, hcz_6, hcz_7, hcz_8, hcz_9, hcz_10⟩ := Hand.Cz.c11 BK2.out) | ((with_reducible refine gate_dst (N := 26) rfl ?_); refine box_event ?hg (N := 26) ?hd (cs := #[.slice none 0 0]) (t := 87) ?hr ?_; (case hd => rfl); (case hg => rfl); (case hr => (go_simp; done)); intro g hg w3 hbox hb; have HW3 := Aside0.mk (show message_Encode.WS w2 w3 g (fun k => w2.heap.size ≤ k ∧ k ≠ g) [] from ⟨hb, Nat.le_of_eq hg.symm, fun h => h.2 rfl, fun k hk => by have := blk_lt hbox; exact ⟨Nat.le_trans hb.size hk, by omega⟩, _, hbox, Kd.R_nil _ _ _ _ _⟩); have BK3 := Aside0.mk (blk_below BK2.out hb); clear hb hbox hg; clear hcz_0 hcz_1 hcz_2 hcz_3 hcz_4 hcz_5 hcz_6 hcz_7 hcz_8 hcz_9 hcz_10; obtain ⟨hcz_0, hcz_1, hcz_2, hcz_3, hcz_4, hcz_5, hcz_6, hcz_7, hcz_8, hcz_9, hcz_10⟩ := Hand.Cz.c11 BK3.out))
 refine (message_Encode.small w2 _ g (fun k => w2.heap.size ≤ k ∧ k ≠ g) [] 8 HW3.out (by simp)).mono ?_
 rintro e w4 ⟨rfl, hW, hK⟩
 rw [show ([] : List Int) ++ [(8 : Int) % 256] = [8] from rfl] at hW
 have HW4 := Aside0.mk hW; have BK4 := Aside0.mk (message_Encode.WS_blk hW BK2.out); clear hW hK; clear hcz_0 hcz_1 hcz_2 hcz_3 hcz_4 hcz_5 hcz_6 hcz_7 hcz_8 hcz_9 hcz_10
 obtain ⟨hcz_0, hcz_1, hcz_2, hcz_3, hcz_4, hcz_5, hcz_6, hcz_7, hcz_8, hcz_9, hcz_10⟩ := Hand.Cz.c11 BK4.out
 go_wp2_with ((with_reducible refine gate_dst (N := 37) rfl ?_); refine Kd.R_lit (Kd.int .u64) (w0 := w4) w4.heap.size 22 ?hg (N := 37) ?hd (xs := ([tr] : List Int)) (inner := [.int .u64 tr]) (ok := fun k => k = w4.heap.size) (okp := fun _ => False) ?hr ?hp (fun _ hk => hk.elim) rfl (Below.refl _ _) (Nat.le_refl _) (by simp) ?_; (case hd => rfl); (case hg => rfl); (case hr => (go_simp; done)); (case hp => exact (Reps.one (show Kd.M (Kd.int .u64) _ _ _ tr [.int .u64 tr] from rfl) (Reps.none _ _))); intro vl wl ho hb hg_ hnew_; have HRL := Aside0.mk ho; have HBL := Aside0.mk hb; have HNW := Aside0.mk hnew_; clear ho hb hg_ hnew_)
 obtain ⟨Al, cl, rfl⟩ := Kd.R_slice HRL.out
 refine (message_Encode.numbers_lit w2 w4 wl g (fun k => w2.heap.size ≤ k ∧ k ≠ g) [8] Al cl [tr] b1 HW4.out HBL.out HRL.out HNW.out (by simp) H1.out).mono ?_
 rintro e w5 ⟨rfl, hW, hK⟩
 have HW5 := Aside0.mk hW; clear hW hK HRL HBL HNW HW4 H1; clear hcz_0 hcz_1 hcz_2 hcz_3 hcz_4 hcz_5 hcz_6 hcz_7 hcz_8 hcz_9 hcz_10
 go_upto_region 38 with ((with_reducible refine gate_dst (N := 14) rfl ?_); refine box_event ?hg (N := 14) ?hd (cs := #[.int .u64 0, .int .i64 0]) (t := 63) ?hr ?_; (case hd => rfl); (case hg => rfl); (case hr => (go_simp; done)); intro gx hg w6 hbox hb; have hgx := hg.symm; have HX := Aside0.mk (show message_Encode.WS w2 w6 g (fun k => ((fun k => w2.heap.size ≤ k ∧ k ≠ g)) k ∧ k ≠ gx) _ from by rw [hg]; exact message_Encode.WS_lit HW5.out hb (by rw [← hg]; exact blk_lt hbox)); have HNE := Aside0.mk (show g ≠ gx from by have := message_Encode.WS_lt HW5.out; omega); have HGX := Aside0.mk (show w2.heap.size ≤ gx from by have := HW5.out.1.size; omega); have HGW := Aside0.mk (Nat.le_of_eq hgx); have HBX := Aside0.mk hb; have BX := Aside0.mk hbox; clear hbox hb hg hgx; obtain ⟨hxz_0, hxz_1⟩ := Hand.Cz.c2 BX.out; obtain ⟨hxf_0, hxf_1⟩ := Hand.Cz.f2 BX.out)
 generalize hW7 : World.setCell _ (Addr.mk gx 1 none) _ = w7
 have BX7 := Aside0.mk (show w7.heap[gx]? = some (.cells #[.int .u64 tr, .int .i64 v] 63 (0, 0)) from by rw [← hW7]; exact Hand.Cz.p2 BX.out)
 have HX7 := Aside0.mk (show message_Encode.WS w2 w7 g (fun k => (w2.heap.size ≤ k ∧ k ≠ g) ∧ k ≠ gx) b1 from by rw [← hW7]; exact (message_Encode.WS_far (message_Encode.WS_far HX.out HGX.out (fun h => h.2 rfl) HNE.out 0 _) HGX.out (fun h => h.2 rfl) HNE.out 1 _))
 clear hW7 HX BX HBX HGX HGW hxz_0 hxz_1 hxf_0 hxf_1
 obtain ⟨hx_0, hx_1⟩ := Hand.Cz.c2 BX7.out
 go_wp2_with fail
 refine (message_Encode.small w2 _ g (fun k => (w2.heap.size ≤ k ∧ k ≠ g) ∧ k ≠ gx) b1 v HX7.out (by (omega))).mono ?_
 rintro e w8 ⟨rfl, hW, hK⟩
 have BX8 := Aside0.mk (blk_kept BX7.out hK (fun h => h.elim (fun e => HNE.out e.symm) (fun e => e.2 rfl)))
 have HX8 := Aside0.mk hW; clear hW hK HX7 BX7 hx_0 hx_1
 obtain ⟨hx_0, hx_1⟩ := Hand.Cz.c2 BX8.out
 clear hx_0 hx_1
 obtain ⟨A9, c9_, hk9, hle9, hC9⟩ := message_Encode.WS_row HX8.out
 have HC9 := Aside0.mk hC9; have HLE := Aside0.mk hle9; have hgz_0 : w8.cell? ⟨g, 0, none⟩ = some (.slice A9 (b1 ++ [v % 256]).length c9_) := (blk_cell hk9 0).trans rfl; clear hk9 hle9 hC9
 generalize b1 ++ [v % 256] = pay at *
 go_wp2_with fail
 refine (frame_Put.calls 100000 (fun _ => True) none 0 [] A9 c9_ pay r1 r2 _ (Kd.V_nil _ _ _ _ _) HC9.out HLE.out HF.out).mono ?_
 rintro e w10 ⟨v8, rfl, hR, hb⟩
 have HB8 := Aside0.mk (show Below w.heap.size w w10 from below_step (below_step HB2.out HX8.out.1) hb)
 have HR8 := Aside0.mk (Kd.R_mono (ok' := fun _ => True) (Kd.R_lower hR (below_step HB2.out HX8.out.1).size) (fun _ _ => trivial))
 clear hR hb
 go_wp2
 go_ret2
 exact ⟨_, rfl, HR8.out, HB8.out⟩

set_option maxHeartbeats 8000000 in
set_option maxRecDepth 100000 in
theorem message_Encode.enc9 (tr bn bd sn sd v : Int) (ok : Bool) (A8 : Option Addr) (c8 : Nat) (l8 : List S76) (A9 : Option Addr) (c9 : Nat) (l9 : List S92) (A10 : Option Addr) (c10 : Nat) (l10 : List Int) (w : World) (b1 b2 pay r1 : List Int) (r2 : Int) (hl : l8.length ≤ 1000)
  (hOf : ∀ W, Below w.heap.size w W → Calls Try.prog 23 #[.agg #[.int .i64 9, .int .u64 tr, .int .u64 bn, .int .u64 bd, .int .u64 sn, .int .u64 sd, .int .i64 v, .bool ok, .slice A8 l8.length c8, .slice A9 l9.length c9, .slice A10 l10.length c10]] W fun e w' => ∃ (Av : Option Addr) (cv : Nat), e = .returned (.tuple #[.iface 66 (.agg #[.int .u64 tr, .int .u64 bn, .int .u64 bd, .slice Av l8.length cv]), .int .i64 0]) ∧ Kd.C k76 w' Av l8.length l8 ∧ l8.length ≤ cv ∧ Below W.heap.size W w')
  (h1 : message_Encode.nums [9] [tr] = some b1) (e1 : b1.length ≤ 1000) (h2 : message_Encode.nums b1 [bn, bd] = some b2) (e2 : b2.length ≤ 1000) (h3 : message_Encode.sps (b2 ++ [(l8.length : Int) % 256]) l8 = some pay) (hf : frame_Put.f 100000 [] (pay) = some (r1, r2)) :
  Calls Try.prog 16 #[.agg #[.int .i64 9, .int .u64 tr, .int .u64 bn, .int .u64 bd, .int .u64 sn, .int .u64 sd, .int .i64 v, .bool ok, .slice A8 l8.length c8, .slice A9 l9.length c9, .slice A10 l10.length c10]] w fun e w' => ∃ v0_ : Value, e = .returned (.tuple #[v0_, .int .i64 r2]) ∧ Kd.R (Kd.int .u8) 5 w' w.heap.size (fun _ => True) v0_ r1 ∧ Below w.heap.size w w' := by
 have hu30 := Try.underlying30; have hu24 := Try.underlying24; have hu51 := Try.underlying51; have hu54 := Try.underlying54; have hu57 := Try.underlying57; have hu60 := Try.underlying60; have hu63 := Try.underlying63; have hu66 := Try.underlying66; have hu69 := Try.underlying69; have hu87 := Try.underlying87; have HOF := Aside0.mk hOf; have HF := Aside0.mk hf; have H1 := Aside0.mk h1; have H2 := Aside0.mk h2; have H3 := Aside0.mk h3; clear hOf hf h1 h2 h3
 go_enter Try.func16, Try.ntmps16
 go_wp2_with (first | ((with_reducible refine gate_dst (N := 1) rfl ?_); refine box_event ?hg (N := 1) ?hd (cs := #[.int .i64 9, .int .u64 tr, .int .u64 bn, .int .u64 bd, .int .u64 sn, .int .u64 sd, .int .i64 v, .bool ok, .slice A8 l8.length c8, .slice A9 l9.length c9, .slice A10 l10.length c10]) (t := 30) ?hr ?_; (case hd => rfl); (case hg => rfl); (case hr => (go_simp; done)); intro gp hg w1 hbox hb; have HB := Aside0.mk hb; have BK := Aside0.mk hbox; have HGE := Aside0.mk (show w.heap.size ≤ gp from Nat.le_of_eq hg.symm); clear hb hbox hg; obtain ⟨hcz_0, hcz_1, hcz_2, hcz_3, hcz_4, hcz_5, hcz_6, hcz_7, hcz_8, hcz_9, hcz_10⟩ := Hand.Cz.c11 BK.out) | (go_at_call 23; refine (HOF.out _ HB.out).mono ?_; rintro e w2 ⟨Av, cv, rfl, hc, hle, hb⟩; have HCv := Aside0.mk hc; have HLv := Aside0.mk hle; clear hc hle; have ta51 := message_Right.ta66_51 (.agg #[.int .u64 tr, .int .u64 bn, .int .u64 bd, .slice Av l8.length cv]); have ta54 := message_Right.ta66_54 (.agg #[.int .u64 tr, .int .u64 bn, .int .u64 bd, .slice Av l8.length cv]); have ta57 := message_Right.ta66_57 (.agg #[.int .u64 tr, .int .u64 bn, .int .u64 bd, .slice Av l8.length cv]); have ta60 := message_Right.ta66_60 (.agg #[.int .u64 tr, .int .u64 bn, .int .u64 bd, .slice Av l8.length cv]); have ta63 := message_Right.ta66_63 (.agg #[.int .u64 tr, .int .u64 bn, .int .u64 bd, .slice Av l8.length cv]); have ta66 := message_Right.ta66_66 (.agg #[.int .u64 tr, .int .u64 bn, .int .u64 bd, .slice Av l8.length cv]); have BK2 := Aside0.mk (blk_below BK.out hb); have HB2 := Aside0.mk (below_step HB.out hb); clear hb; clear hcz_0 hcz_1 hcz_2 hcz_3 hcz_4 hcz_5 hcz_6 hcz_7 hcz_8 hcz_9 hcz_10; obtain ⟨hcz_0, hcz_1, hcz_2, hcz_3, hcz_4, hcz_5, hcz_6, hcz_7, hcz_8, hcz_9, hcz_10⟩ := Hand.Cz.c11 BK2.out) | ((with_reducible refine gate_dst (N := 26) rfl ?_); refine box_event ?hg (N := 26) ?hd (cs := #[.slice none 0 0]) (t := 87) ?hr ?_; (case hd => rfl); (case hg => rfl); (case hr => (go_simp; done)); intro g hg w3 hbox hb; have HW3 := Aside0.mk (show message_Encode.WS w2 w3 g (fun k => w2.heap.size ≤ k ∧ k ≠ g) [] from ⟨hb, Nat.le_of_eq hg.symm, fun h => h.2 rfl, fun k hk => by have := blk_lt hbox; exact ⟨Nat.le_trans hb.size hk, by omega⟩, _, hbox, Kd.R_nil _ _ _ _ _⟩); have BK3 := Aside0.mk (blk_below BK2.out hb); clear hb hbox hg; clear hcz_0 hcz_1 hcz_2 hcz_3 hcz_4 hcz_5 hcz_6 hcz_7 hcz_8 hcz_9 hcz_10; obtain ⟨hcz_0, hcz_1, hcz_2, hcz_3, hcz_4, hcz_5, hcz_6, hcz_7, hcz_8, hcz_9, hcz_10⟩ := Hand.Cz.c11 BK3.out))
 refine (message_Encode.small w2 _ g (fun k => w2.heap.size ≤ k ∧ k ≠ g) [] 9 HW3.out (by simp)).mono ?_
 rintro e w4 ⟨rfl, hW, hK⟩
 rw [show ([] : List Int) ++ [(9 : Int) % 256] = [9] from rfl] at hW
 have HW4 := Aside0.mk hW; have BK4 := Aside0.mk (message_Encode.WS_blk hW BK2.out); clear hW hK; clear hcz_0 hcz_1 hcz_2 hcz_3 hcz_4 hcz_5 hcz_6 hcz_7 hcz_8 hcz_9 hcz_10
 obtain ⟨hcz_0, hcz_1, hcz_2, hcz_3, hcz_4, hcz_5, hcz_6, hcz_7, hcz_8, hcz_9, hcz_10⟩ := Hand.Cz.c11 BK4.out
 go_wp2_with ((with_reducible refine gate_dst (N := 37) rfl ?_); refine Kd.R_lit (Kd.int .u64) (w0 := w4) w4.heap.size 22 ?hg (N := 37) ?hd (xs := ([tr] : List Int)) (inner := [.int .u64 tr]) (ok := fun k => k = w4.heap.size) (okp := fun _ => False) ?hr ?hp (fun _ hk => hk.elim) rfl (Below.refl _ _) (Nat.le_refl _) (by simp) ?_; (case hd => rfl); (case hg => rfl); (case hr => (go_simp; done)); (case hp => exact (Reps.one (show Kd.M (Kd.int .u64) _ _ _ tr [.int .u64 tr] from rfl) (Reps.none _ _))); intro vl wl ho hb hg_ hnew_; have HRL := Aside0.mk ho; have HBL := Aside0.mk hb; have HNW := Aside0.mk hnew_; clear ho hb hg_ hnew_)
 obtain ⟨Al, cl, rfl⟩ := Kd.R_slice HRL.out
 refine (message_Encode.numbers_lit w2 w4 wl g (fun k => w2.heap.size ≤ k ∧ k ≠ g) [9] Al cl [tr] b1 HW4.out HBL.out HRL.out HNW.out (by simp) H1.out).mono ?_
 rintro e w5 ⟨rfl, hW, hK⟩
 have HW5 := Aside0.mk hW; clear hW hK HRL HBL HNW HW4 H1; clear hcz_0 hcz_1 hcz_2 hcz_3 hcz_4 hcz_5 hcz_6 hcz_7 hcz_8 hcz_9 hcz_10
 go_upto_region 41 with ((with_reducible refine gate_dst (N := 15) rfl ?_); refine box_event ?hg (N := 15) ?hd (cs := #[.int .u64 0, .int .u64 0, .int .u64 0, .slice none 0 0]) (t := 66) ?hr ?_; (case hd => rfl); (case hg => rfl); (case hr => (go_simp; done)); intro gx hg w6 hbox hb; have hgx := hg.symm; have HX := Aside0.mk (show message_Encode.WS w2 w6 g (fun k => ((fun k => w2.heap.size ≤ k ∧ k ≠ g)) k ∧ k ≠ gx) _ from by rw [hg]; exact message_Encode.WS_lit HW5.out hb (by rw [← hg]; exact blk_lt hbox)); have HNE := Aside0.mk (show g ≠ gx from by have := message_Encode.WS_lt HW5.out; omega); have HGX := Aside0.mk (show w2.heap.size ≤ gx from by have := HW5.out.1.size; omega); have HGW := Aside0.mk (Nat.le_of_eq hgx); have HBX := Aside0.mk hb; have BX := Aside0.mk hbox; clear hbox hb hg hgx; obtain ⟨hxz_0, hxz_1, hxz_2, hxz_3⟩ := Hand.Cz.c4 BX.out; obtain ⟨hxf_0, hxf_1, hxf_2, hxf_3⟩ := Hand.Cz.f4 BX.out)
 generalize hW7 : World.setCell _ (Addr.mk gx 3 none) _ = w7
 have BX7 := Aside0.mk (show w7.heap[gx]? = some (.cells #[.int .u64 tr, .int .u64 bn, .int .u64 bd, .slice Av l8.length cv] 66 (0, 0)) from by rw [← hW7]; exact Hand.Cz.p4 BX.out)
 have HX7 := Aside0.mk (show message_Encode.WS w2 w7 g (fun k => (w2.heap.size ≤ k ∧ k ≠ g) ∧ k ≠ gx) b1 from by rw [← hW7]; exact (message_Encode.WS_far (message_Encode.WS_far (message_Encode.WS_far (message_Encode.WS_far HX.out HGX.out (fun h => h.2 rfl) HNE.out 0 _) HGX.out (fun h => h.2 rfl) HNE.out 1 _) HGX.out (fun h => h.2 rfl) HNE.out 2 _) HGX.out (fun h => h.2 rfl) HNE.out 3 _))
 clear hW7 HX BX HBX HGX HGW hxz_0 hxz_1 hxz_2 hxz_3 hxf_0 hxf_1 hxf_2 hxf_3
 obtain ⟨hx_0, hx_1, hx_2, hx_3⟩ := Hand.Cz.c4 BX7.out
 go_wp2_with fail
 refine (message_Encode.ballot w2 _ g (fun k => (w2.heap.size ≤ k ∧ k ≠ g) ∧ k ≠ gx) b1 bn bd b2 HX7.out H2.out).mono ?_
 rintro e w8 ⟨rfl, hW, hK⟩
 have BX8 := Aside0.mk (blk_kept BX7.out hK (fun h => h.elim (fun e => HNE.out e.symm) (fun e => e.2 rfl)))
 have HX8 := Aside0.mk hW; clear hW hK HX7 BX7 hx_0 hx_1 hx_2 hx_3
 obtain ⟨hx_0, hx_1, hx_2, hx_3⟩ := Hand.Cz.c4 BX8.out
 go_wp2_with fail
 refine (message_Encode.spans w2 _ g (fun k => (w2.heap.size ≤ k ∧ k ≠ g) ∧ k ≠ gx) b2 Av cv l8 pay HX8.out (by omega) HCv.out hl H3.out).mono ?_
 rintro e w9 ⟨rfl, hW, hK⟩
 have BX9 := Aside0.mk (blk_kept BX8.out hK (fun h => h.elim (fun e => HNE.out e.symm) (fun e => e.2 rfl)))
 have HX9 := Aside0.mk hW; clear hW hK HX8 BX8 hx_0 hx_1 hx_2 hx_3
 obtain ⟨hx_0, hx_1, hx_2, hx_3⟩ := Hand.Cz.c4 BX9.out
 clear hx_0 hx_1 hx_2 hx_3
 obtain ⟨A9, c9_, hk9, hle9, hC9⟩ := message_Encode.WS_row HX9.out
 have HC9 := Aside0.mk hC9; have HLE := Aside0.mk hle9; have hgz_0 : w9.cell? ⟨g, 0, none⟩ = some (.slice A9 (pay).length c9_) := (blk_cell hk9 0).trans rfl; clear hk9 hle9 hC9
 go_wp2_with fail
 refine (frame_Put.calls 100000 (fun _ => True) none 0 [] A9 c9_ pay r1 r2 _ (Kd.V_nil _ _ _ _ _) HC9.out HLE.out HF.out).mono ?_
 rintro e w10 ⟨v8, rfl, hR, hb⟩
 have HB8 := Aside0.mk (show Below w.heap.size w w10 from below_step (below_step HB2.out HX9.out.1) hb)
 have HR8 := Aside0.mk (Kd.R_mono (ok' := fun _ => True) (Kd.R_lower hR (below_step HB2.out HX9.out.1).size) (fun _ _ => trivial))
 clear hR hb
 go_wp2
 go_ret2
 exact ⟨_, rfl, HR8.out, HB8.out⟩

set_option maxHeartbeats 8000000 in
set_option maxRecDepth 100000 in
theorem message_Encode.enc10 (tr bn bd sn sd v : Int) (ok : Bool) (A8 : Option Addr) (c8 : Nat) (l8 : List S76) (A9 : Option Addr) (c9 : Nat) (l9 : List S92) (A10 : Option Addr) (c10 : Nat) (l10 : List Int) (w : World) (b1 pay r1 : List Int) (r2 : Int) (hl : l10.length ≤ 1000)
  (hOf : ∀ W, Below w.heap.size w W → Calls Try.prog 23 #[.agg #[.int .i64 10, .int .u64 tr, .int .u64 bn, .int .u64 bd, .int .u64 sn, .int .u64 sd, .int .i64 v, .bool ok, .slice A8 l8.length c8, .slice A9 l9.length c9, .slice A10 l10.length c10]] W fun e w' => ∃ (Av : Option Addr) (cv : Nat), e = .returned (.tuple #[.iface 69 (.agg #[.int .u64 tr, .slice Av l10.length cv]), .int .i64 0]) ∧ Kd.C (Kd.int .u64) w' Av l10.length l10 ∧ l10.length ≤ cv ∧ Below W.heap.size W w')
  (h1 : message_Encode.nums [10] [tr] = some b1) (e1 : b1.length ≤ 1000) (h2 : message_Encode.nums (b1 ++ [(l10.length : Int) % 256]) l10 = some pay) (hf : frame_Put.f 100000 [] (pay) = some (r1, r2)) :
  Calls Try.prog 16 #[.agg #[.int .i64 10, .int .u64 tr, .int .u64 bn, .int .u64 bd, .int .u64 sn, .int .u64 sd, .int .i64 v, .bool ok, .slice A8 l8.length c8, .slice A9 l9.length c9, .slice A10 l10.length c10]] w fun e w' => ∃ v0_ : Value, e = .returned (.tuple #[v0_, .int .i64 r2]) ∧ Kd.R (Kd.int .u8) 5 w' w.heap.size (fun _ => True) v0_ r1 ∧ Below w.heap.size w w' := by
 have hu30 := Try.underlying30; have hu24 := Try.underlying24; have hu51 := Try.underlying51; have hu54 := Try.underlying54; have hu57 := Try.underlying57; have hu60 := Try.underlying60; have hu63 := Try.underlying63; have hu66 := Try.underlying66; have hu69 := Try.underlying69; have hu87 := Try.underlying87; have HOF := Aside0.mk hOf; have HF := Aside0.mk hf; have H1 := Aside0.mk h1; have H2 := Aside0.mk h2; clear hOf hf h1 h2
 go_enter Try.func16, Try.ntmps16
 go_wp2_with (first | ((with_reducible refine gate_dst (N := 1) rfl ?_); refine box_event ?hg (N := 1) ?hd (cs := #[.int .i64 10, .int .u64 tr, .int .u64 bn, .int .u64 bd, .int .u64 sn, .int .u64 sd, .int .i64 v, .bool ok, .slice A8 l8.length c8, .slice A9 l9.length c9, .slice A10 l10.length c10]) (t := 30) ?hr ?_; (case hd => rfl); (case hg => rfl); (case hr => (go_simp; done)); intro gp hg w1 hbox hb; have HB := Aside0.mk hb; have BK := Aside0.mk hbox; have HGE := Aside0.mk (show w.heap.size ≤ gp from Nat.le_of_eq hg.symm); clear hb hbox hg; obtain ⟨hcz_0, hcz_1, hcz_2, hcz_3, hcz_4, hcz_5, hcz_6, hcz_7, hcz_8, hcz_9, hcz_10⟩ := Hand.Cz.c11 BK.out) | (go_at_call 23; refine (HOF.out _ HB.out).mono ?_; rintro e w2 ⟨Av, cv, rfl, hc, hle, hb⟩; have HCv := Aside0.mk hc; have HLv := Aside0.mk hle; clear hc hle; have ta51 := message_Right.ta69_51 (.agg #[.int .u64 tr, .slice Av l10.length cv]); have ta54 := message_Right.ta69_54 (.agg #[.int .u64 tr, .slice Av l10.length cv]); have ta57 := message_Right.ta69_57 (.agg #[.int .u64 tr, .slice Av l10.length cv]); have ta60 := message_Right.ta69_60 (.agg #[.int .u64 tr, .slice Av l10.length cv]); have ta63 := message_Right.ta69_63 (.agg #[.int .u64 tr, .slice Av l10.length cv]); have ta66 := message_Right.ta69_66 (.agg #[.int .u64 tr, .slice Av l10.length cv]); have ta69 := message_Right.ta69_69 (.agg #[.int .u64 tr, .slice Av l10.length cv]); have BK2 := Aside0.mk (blk_below BK.out hb); have HB2 := Aside0.mk (below_step HB.out hb); clear hb; clear hcz_0 hcz_1 hcz_2 hcz_3 hcz_4 hcz_5 hcz_6 hcz_7 hcz_8 hcz_9 hcz_10; obtain ⟨hcz_0, hcz_1, hcz_2, hcz_3, hcz_4, hcz_5, hcz_6, hcz_7, hcz_8, hcz_9, hcz_10⟩ := Hand.Cz.c11 BK2.out) | ((with_reducible refine gate_dst (N := 26) rfl ?_); refine box_event ?hg (N := 26) ?hd (cs := #[.slice none 0 0]) (t := 87) ?hr ?_; (case hd => rfl); (case hg => rfl); (case hr => (go_simp; done)); intro g hg w3 hbox hb; have HW3 := Aside0.mk (show message_Encode.WS w2 w3 g (fun k => w2.heap.size ≤ k ∧ k ≠ g) [] from ⟨hb, Nat.le_of_eq hg.symm, fun h => h.2 rfl, fun k hk => by have := blk_lt hbox; exact ⟨Nat.le_trans hb.size hk, by omega⟩, _, hbox, Kd.R_nil _ _ _ _ _⟩); have BK3 := Aside0.mk (blk_below BK2.out hb); clear hb hbox hg; clear hcz_0 hcz_1 hcz_2 hcz_3 hcz_4 hcz_5 hcz_6 hcz_7 hcz_8 hcz_9 hcz_10; obtain ⟨hcz_0, hcz_1, hcz_2, hcz_3, hcz_4, hcz_5, hcz_6, hcz_7, hcz_8, hcz_9, hcz_10⟩ := Hand.Cz.c11 BK3.out))
 refine (message_Encode.small w2 _ g (fun k => w2.heap.size ≤ k ∧ k ≠ g) [] 10 HW3.out (by simp)).mono ?_
 rintro e w4 ⟨rfl, hW, hK⟩
 rw [show ([] : List Int) ++ [(10 : Int) % 256] = [10] from rfl] at hW
 have HW4 := Aside0.mk hW; have BK4 := Aside0.mk (message_Encode.WS_blk hW BK2.out); clear hW hK; clear hcz_0 hcz_1 hcz_2 hcz_3 hcz_4 hcz_5 hcz_6 hcz_7 hcz_8 hcz_9 hcz_10
 obtain ⟨hcz_0, hcz_1, hcz_2, hcz_3, hcz_4, hcz_5, hcz_6, hcz_7, hcz_8, hcz_9, hcz_10⟩ := Hand.Cz.c11 BK4.out
 go_wp2_with ((with_reducible refine gate_dst (N := 37) rfl ?_); refine Kd.R_lit (Kd.int .u64) (w0 := w4) w4.heap.size 22 ?hg (N := 37) ?hd (xs := ([tr] : List Int)) (inner := [.int .u64 tr]) (ok := fun k => k = w4.heap.size) (okp := fun _ => False) ?hr ?hp (fun _ hk => hk.elim) rfl (Below.refl _ _) (Nat.le_refl _) (by simp) ?_; (case hd => rfl); (case hg => rfl); (case hr => (go_simp; done)); (case hp => exact (Reps.one (show Kd.M (Kd.int .u64) _ _ _ tr [.int .u64 tr] from rfl) (Reps.none _ _))); intro vl wl ho hb hg_ hnew_; have HRL := Aside0.mk ho; have HBL := Aside0.mk hb; have HNW := Aside0.mk hnew_; clear ho hb hg_ hnew_)
 obtain ⟨Al, cl, rfl⟩ := Kd.R_slice HRL.out
 refine (message_Encode.numbers_lit w2 w4 wl g (fun k => w2.heap.size ≤ k ∧ k ≠ g) [10] Al cl [tr] b1 HW4.out HBL.out HRL.out HNW.out (by simp) H1.out).mono ?_
 rintro e w5 ⟨rfl, hW, hK⟩
 have HW5 := Aside0.mk hW; clear hW hK HRL HBL HNW HW4 H1; clear hcz_0 hcz_1 hcz_2 hcz_3 hcz_4 hcz_5 hcz_6 hcz_7 hcz_8 hcz_9 hcz_10
 go_upto_region 45 with ((with_reducible refine gate_dst (N := 16) rfl ?_); refine box_event ?hg (N := 16) ?hd (cs := #[.int .u64 0, .slice none 0 0]) (t := 69) ?hr ?_; (case hd => rfl); (case hg => rfl); (case hr => (go_simp; done)); intro gx hg w6 hbox hb; have hgx := hg.symm; have HX := Aside0.mk (show message_Encode.WS w2 w6 g (fun k => ((fun k => w2.heap.size ≤ k ∧ k ≠ g)) k ∧ k ≠ gx) _ from by rw [hg]; exact message_Encode.WS_lit HW5.out hb (by rw [← hg]; exact blk_lt hbox)); have HNE := Aside0.mk (show g ≠ gx from by have := message_Encode.WS_lt HW5.out; omega); have HGX := Aside0.mk (show w2.heap.size ≤ gx from by have := HW5.out.1.size; omega); have HGW := Aside0.mk (Nat.le_of_eq hgx); have HBX := Aside0.mk hb; have BX := Aside0.mk hbox; clear hbox hb hg hgx; obtain ⟨hxz_0, hxz_1⟩ := Hand.Cz.c2 BX.out; obtain ⟨hxf_0, hxf_1⟩ := Hand.Cz.f2 BX.out)
 generalize hW7 : World.setCell _ (Addr.mk gx 1 none) _ = w7
 have BX7 := Aside0.mk (show w7.heap[gx]? = some (.cells #[.int .u64 tr, .slice Av l10.length cv] 69 (0, 0)) from by rw [← hW7]; exact Hand.Cz.p2 BX.out)
 have HX7 := Aside0.mk (show message_Encode.WS w2 w7 g (fun k => (w2.heap.size ≤ k ∧ k ≠ g) ∧ k ≠ gx) b1 from by rw [← hW7]; exact (message_Encode.WS_far (message_Encode.WS_far HX.out HGX.out (fun h => h.2 rfl) HNE.out 0 _) HGX.out (fun h => h.2 rfl) HNE.out 1 _))
 clear hW7 HX BX HBX HGX HGW hxz_0 hxz_1 hxf_0 hxf_1
 obtain ⟨hx_0, hx_1⟩ := Hand.Cz.c2 BX7.out
 go_wp2_with fail
 refine (message_Encode.small w2 _ g (fun k => (w2.heap.size ≤ k ∧ k ≠ g) ∧ k ≠ gx) b1 (l10.length : Int) HX7.out (by (omega))).mono ?_
 rintro e w8 ⟨rfl, hW, hK⟩
 have BX8 := Aside0.mk (blk_kept BX7.out hK (fun h => h.elim (fun e => HNE.out e.symm) (fun e => e.2 rfl)))
 have HX8 := Aside0.mk hW; clear hW hK HX7 BX7 hx_0 hx_1
 obtain ⟨hx_0, hx_1⟩ := Hand.Cz.c2 BX8.out
 go_wp2_with fail
 refine (message_Encode.numbers w2 _ g (fun k => (w2.heap.size ≤ k ∧ k ≠ g) ∧ k ≠ gx) (b1 ++ [(l10.length : Int) % 256]) Av cv l10 pay HX8.out (Kd.C_kept_came (Kd.heap_int _) HCv.out HX8.out.1 (fun k hk => hk.elim (fun e => by rw [e]; exact HX8.out.2.1) (fun e => e.1.1))) hl H2.out).mono ?_
 rintro e w9 ⟨rfl, hW, hK⟩
 have BX9 := Aside0.mk (blk_kept BX8.out hK (fun h => h.elim (fun e => HNE.out e.symm) (fun e => e.2 rfl)))
 have HX9 := Aside0.mk hW; clear hW hK HX8 BX8 hx_0 hx_1
 obtain ⟨hx_0, hx_1⟩ := Hand.Cz.c2 BX9.out
 clear hx_0 hx_1
 obtain ⟨A9, c9_, hk9, hle9, hC9⟩ := message_Encode.WS_row HX9.out
 have HC9 := Aside0.mk hC9; have HLE := Aside0.mk hle9; have hgz_0 : w9.cell? ⟨g, 0, none⟩ = some (.slice A9 (pay).length c9_) := (blk_cell hk9 0).trans rfl; clear hk9 hle9 hC9
 go_wp2_with fail
 refine (frame_Put.calls 100000 (fun _ => True) none 0 [] A9 c9_ pay r1 r2 _ (Kd.V_nil _ _ _ _ _) HC9.out HLE.out HF.out).mono ?_
 rintro e w10 ⟨v8, rfl, hR, hb⟩
 have HB8 := Aside0.mk (show Below w.heap.size w w10 from below_step (below_step HB2.out HX9.out.1) hb)
 have HR8 := Aside0.mk (Kd.R_mono (ok' := fun _ => True) (Kd.R_lower hR (below_step HB2.out HX9.out.1).size) (fun _ _ => trivial))
 clear hR hb
 go_wp2
 go_ret2
 exact ⟨_, rfl, HR8.out, HB8.out⟩

set_option maxHeartbeats 8000000 in
set_option maxRecDepth 100000 in
theorem message_Encode.bad (kd tr bn bd sn sd v : Int) (ok : Bool) (A8 : Option Addr) (c8 : Nat) (l8 : List S76) (A9 : Option Addr) (c9 : Nat) (l9 : List S92) (A10 : Option Addr) (c10 : Nat) (l10 : List Int) (w : World) (k : Int) (hk : k ≠ 0)
  (hO : ∀ W, Below w.heap.size w W → Calls Try.prog 23 #[.agg #[.int .i64 kd, .int .u64 tr, .int .u64 bn, .int .u64 bd, .int .u64 sn, .int .u64 sd, .int .i64 v, .bool ok, .slice A8 l8.length c8, .slice A9 l9.length c9, .slice A10 l10.length c10]] W fun e w' => e = .returned (.tuple #[.nilIface, .int .i64 k]) ∧ Below W.heap.size W w') :
  Calls Try.prog 16 #[.agg #[.int .i64 kd, .int .u64 tr, .int .u64 bn, .int .u64 bd, .int .u64 sn, .int .u64 sd, .int .i64 v, .bool ok, .slice A8 l8.length c8, .slice A9 l9.length c9, .slice A10 l10.length c10]] w fun e w' => ∃ v0_ : Value, e = .returned (.tuple #[v0_, .int .i64 k]) ∧ Kd.R (Kd.int .u8) 5 w' w.heap.size (fun _ => True) v0_ [] ∧ Below w.heap.size w w' := by
 have hu30 := Try.underlying30; have hu24 := Try.underlying24; have hu51 := Try.underlying51; have hu54 := Try.underlying54; have hu57 := Try.underlying57; have hu60 := Try.underlying60; have hu63 := Try.underlying63; have hu66 := Try.underlying66; have hu69 := Try.underlying69; have HO0 := Aside0.mk hO; have hkb : (k != 0) = true := bne_iff_ne.mpr hk; clear hO hk
 go_enter Try.func16, Try.ntmps16
 go_wp2_with (first | ((with_reducible refine gate_dst (N := 1) rfl ?_); refine box_event ?hg (N := 1) ?hd (cs := #[.int .i64 kd, .int .u64 tr, .int .u64 bn, .int .u64 bd, .int .u64 sn, .int .u64 sd, .int .i64 v, .bool ok, .slice A8 l8.length c8, .slice A9 l9.length c9, .slice A10 l10.length c10]) (t := 30) ?hr ?_; (case hd => rfl); (case hg => rfl); (case hr => (go_simp; done)); intro g hg w1 hbox hb; have HB := Aside0.mk hb; have BK := Aside0.mk hbox; have HGE := Aside0.mk (show w.heap.size ≤ g from Nat.le_of_eq hg.symm); clear hb hbox hg; obtain ⟨hcz_0, hcz_1, hcz_2, hcz_3, hcz_4, hcz_5, hcz_6, hcz_7, hcz_8, hcz_9, hcz_10⟩ := Hand.Cz.c11 BK.out) | (go_at_call 23; refine (HO0.out _ HB.out).mono ?_; rintro e w2 ⟨rfl, hb⟩; have HB2 := Aside0.mk (below_step HB.out hb); clear hb; clear hcz_0 hcz_1 hcz_2 hcz_3 hcz_4 hcz_5 hcz_6 hcz_7 hcz_8 hcz_9 hcz_10))
 go_ret2
 exact ⟨_, rfl, Kd.R_nil _ _ _ _ _, HB2.out⟩

def message_Encode.n1 (bs l : List Int) : Option (List Int) := (message_Encode.nums bs l).bind fun b => if b.length ≤ 1000 then some b else none
/-- The bytes of a packet by its kind, without a frame. -/
def message_Encode.pay (kd tr bn bd sn sd v : Int) (ok : Bool) (l8 : List S76) (l9 : List S92) (l10 : List Int) : Option (List Int) :=
 if kd = 1 then (message_Encode.n1 [1] [tr]).bind fun b1 => message_Encode.sps (b1 ++ [(l8.length : Int) % 256]) l8
 else if kd = 2 then (message_Encode.n1 [2] [tr]).bind fun b1 => message_Encode.sps (b1 ++ [(l8.length : Int) % 256]) l8
 else if kd = 3 then message_Encode.mems ([3] ++ [(l9.length : Int) % 256]) l9
 else if kd = 4 then (message_Encode.n1 [4] [tr]).bind fun b1 => message_Encode.n1 b1 [bn, bd]
 else if kd = 5 then (message_Encode.n1 [5] [tr]).bind fun b1 => (message_Encode.n1 b1 [bn, bd]).bind fun b2 => (message_Encode.n1 (b2 ++ [(if ok = true then (1 : Int) else 0) % 256]) [sn, sd]).bind fun b3 => some (b3 ++ [v % 256])
 else if kd = 6 then (message_Encode.n1 [6] [tr]).bind fun b1 => (message_Encode.n1 b1 [bn, bd]).bind fun b2 => some (b2 ++ [v % 256])
 else if kd = 7 then (message_Encode.n1 [7] [tr]).bind fun b1 => (message_Encode.n1 b1 [bn, bd]).bind fun b2 => message_Encode.n1 (b2 ++ [(if ok = true then (1 : Int) else 0) % 256]) [sn, sd]
 else if kd = 8 then (message_Encode.n1 [8] [tr]).bind fun b1 => some (b1 ++ [v % 256])
 else if kd = 9 then (message_Encode.n1 [9] [tr]).bind fun b1 => (message_Encode.n1 b1 [bn, bd]).bind fun b2 => message_Encode.sps (b2 ++ [(l8.length : Int) % 256]) l8
 else if kd = 10 then (message_Encode.n1 [10] [tr]).bind fun b1 => message_Encode.nums (b1 ++ [(l10.length : Int) % 256]) l10
 else none
def message_Encode.f (a0_0 a0_1 a0_2 a0_3 a0_4 a0_5 a0_6 : Int) (a0_7 : Bool) (l0_8 : List S76) (l0_9 : List S92) (l0_10 : List Int) : Option (List Int × Int) :=
 if l0_8.length ≤ 1000 ∧ l0_9.length ≤ 1000 ∧ l0_10.length ≤ 1000 then (message_Right.f a0_0 a0_1 a0_2 a0_3 a0_4 a0_5 a0_6 a0_7 l0_8 l0_9 l0_10).bind fun k => if k = 0 then (message_Encode.pay a0_0 a0_1 a0_2 a0_3 a0_4 a0_5 a0_6 a0_7 l0_8 l0_9 l0_10).bind fun p => frame_Put.f 100000 [] p else some ([], k) else none
theorem message_Encode.n1_ {bs l b : List Int} (h : message_Encode.n1 bs l = some b) : message_Encode.nums bs l = some b ∧ b.length ≤ 1000 := by
 obtain ⟨x, h1, h2⟩ := Option.bind_eq_some_iff.1 h
 by_cases q : x.length ≤ 1000
 ·rw [if_pos q] at h2
  obtain rfl := Option.some.inj h2
  exact ⟨h1, q⟩
 rw [if_neg q] at h2
 exact absurd h2 (by simp)

theorem message_Encode.calls (a0_0 a0_1 a0_2 a0_3 a0_4 a0_5 a0_6 : Int) (a0_7 : Bool) (A0_8 : Option Addr) (c0_8 : Nat) (l0_8 : List S76) (A0_9 : Option Addr) (c0_9 : Nat) (l0_9 : List S92) (A0_10 : Option Addr) (c0_10 : Nat) (l0_10 : List Int) (r1 : List Int) (r2 : Int) (w : World) (hr0_8 : Kd.C k76 w A0_8 l0_8.length l0_8) (hc0_8 : l0_8.length ≤ c0_8) (hr0_9 : Kd.C k92 w A0_9 l0_9.length l0_9) (hc0_9 : l0_9.length ≤ c0_9) (hr0_10 : Kd.C (Kd.int .u64) w A0_10 l0_10.length l0_10) (hc0_10 : l0_10.length ≤ c0_10) (h : message_Encode.f a0_0 a0_1 a0_2 a0_3 a0_4 a0_5 a0_6 a0_7 l0_8 l0_9 l0_10 = some (r1, r2)) :
  Calls Try.prog 16 #[.agg #[.int .i64 a0_0, .int .u64 a0_1, .int .u64 a0_2, .int .u64 a0_3, .int .u64 a0_4, .int .u64 a0_5, .int .i64 a0_6, .bool a0_7, .slice A0_8 l0_8.length c0_8, .slice A0_9 l0_9.length c0_9, .slice A0_10 l0_10.length c0_10]] w fun e w' => ∃ v0_ : Value, e = .returned (.tuple #[v0_, .int .i64 r2]) ∧ Kd.R (Kd.int .u8) 5 w' w.heap.size (fun _ => True) v0_ r1 ∧ Below w.heap.size w w' := by
 unfold message_Encode.f at h
 by_cases hl : l0_8.length ≤ 1000 ∧ l0_9.length ≤ 1000 ∧ l0_10.length ≤ 1000
 ·rw [if_pos hl] at h
  obtain ⟨hl8, hl9, hl10⟩ := hl
  obtain ⟨k, hk, h⟩ := Option.bind_eq_some_iff.1 h
  have hR := fun W (hB : Below w.heap.size w W) => message_Right.calls a0_0 a0_1 a0_2 a0_3 a0_4 a0_5 a0_6 a0_7 A0_8 c0_8 l0_8 A0_9 c0_9 l0_9 A0_10 c0_10 l0_10 k W (Kd.C_below hr0_8 hB) hc0_8 (Kd.C_below hr0_9 hB) hc0_9 (Kd.C_below hr0_10 hB) hc0_10 hk
  by_cases h0 : k = 0
  ·subst h0
   rw [if_pos rfl] at h
   obtain ⟨p, hp, hf⟩ := Option.bind_eq_some_iff.1 h
   unfold message_Encode.pay at hp
   by_cases h1 : a0_0 = 1
   ·subst h1
    rw [if_pos rfl] at hp
    obtain ⟨b1, q1, hp⟩ := Option.bind_eq_some_iff.1 hp
    obtain ⟨h1, e1⟩ := message_Encode.n1_ q1
    exact message_Encode.enc1 a0_1 a0_2 a0_3 a0_4 a0_5 a0_6 a0_7 A0_8 c0_8 l0_8 A0_9 c0_9 l0_9 A0_10 c0_10 l0_10 w b1 p r1 r2 hl8 (fun W hB => (message_Encode.of_ok 1 a0_1 a0_2 a0_3 a0_4 a0_5 a0_6 a0_7 A0_8 c0_8 l0_8 A0_9 c0_9 l0_9 A0_10 c0_10 l0_10 W (fun W m => ∃ (Av : Option Addr) (cv : Nat), m = .iface 51 (.agg #[.int .u64 a0_1, .bool false, .slice Av l0_8.length cv]) ∧ Kd.C k76 W Av l0_8.length l0_8 ∧ l0_8.length ≤ cv) (fun W1 hB1 => hR W1 (below_step hB hB1)) (fun W1 hB1 => (message_Right.thing1 a0_1 a0_2 a0_3 a0_4 a0_5 a0_6 a0_7 A0_8 c0_8 l0_8 A0_9 c0_9 l0_9 A0_10 c0_10 l0_10 W1 (Kd.C_below hr0_8 (below_step hB hB1)) hc0_8 hl8).mono fun e w' ⟨v1, he, hRr, hb⟩ => by obtain ⟨A1, c1, rfl, hle, hC1⟩ := Kd.R_reads hRr; exact ⟨_, he, ⟨A1, c1, rfl, hC1, hle⟩, hb⟩)).mono fun e w' ⟨m, he, ⟨Av, cv, hm, hC, hle⟩, hb⟩ => ⟨Av, cv, by rw [he, hm], hC, hle, hb⟩) h1 e1 hp hf
   rw [if_neg h1] at hp
   by_cases h2 : a0_0 = 2
   ·subst h2
    rw [if_pos rfl] at hp
    obtain ⟨b1, q1, hp⟩ := Option.bind_eq_some_iff.1 hp
    obtain ⟨h1, e1⟩ := message_Encode.n1_ q1
    exact message_Encode.enc2 a0_1 a0_2 a0_3 a0_4 a0_5 a0_6 a0_7 A0_8 c0_8 l0_8 A0_9 c0_9 l0_9 A0_10 c0_10 l0_10 w b1 p r1 r2 hl8 (fun W hB => (message_Encode.of_ok 2 a0_1 a0_2 a0_3 a0_4 a0_5 a0_6 a0_7 A0_8 c0_8 l0_8 A0_9 c0_9 l0_9 A0_10 c0_10 l0_10 W (fun W m => ∃ (Av : Option Addr) (cv : Nat), m = .iface 51 (.agg #[.int .u64 a0_1, .bool true, .slice Av l0_8.length cv]) ∧ Kd.C k76 W Av l0_8.length l0_8 ∧ l0_8.length ≤ cv) (fun W1 hB1 => hR W1 (below_step hB hB1)) (fun W1 hB1 => (message_Right.thing2 a0_1 a0_2 a0_3 a0_4 a0_5 a0_6 a0_7 A0_8 c0_8 l0_8 A0_9 c0_9 l0_9 A0_10 c0_10 l0_10 W1 (Kd.C_below hr0_8 (below_step hB hB1)) hc0_8 hl8).mono fun e w' ⟨v1, he, hRr, hb⟩ => by obtain ⟨A1, c1, rfl, hle, hC1⟩ := Kd.R_reads hRr; exact ⟨_, he, ⟨A1, c1, rfl, hC1, hle⟩, hb⟩)).mono fun e w' ⟨m, he, ⟨Av, cv, hm, hC, hle⟩, hb⟩ => ⟨Av, cv, by rw [he, hm], hC, hle, hb⟩) h1 e1 hp hf
   rw [if_neg h2] at hp
   by_cases h3 : a0_0 = 3
   ·subst h3
    rw [if_pos rfl] at hp
    exact message_Encode.enc3 a0_1 a0_2 a0_3 a0_4 a0_5 a0_6 a0_7 A0_8 c0_8 l0_8 A0_9 c0_9 l0_9 A0_10 c0_10 l0_10 w p r1 r2 hl9 (fun W hB => (message_Encode.of_ok 3 a0_1 a0_2 a0_3 a0_4 a0_5 a0_6 a0_7 A0_8 c0_8 l0_8 A0_9 c0_9 l0_9 A0_10 c0_10 l0_10 W (fun W m => ∃ (Av : Option Addr) (cv : Nat), m = .iface 54 (.agg #[.slice Av l0_9.length cv]) ∧ Kd.C k92 W Av l0_9.length l0_9 ∧ l0_9.length ≤ cv) (fun W1 hB1 => hR W1 (below_step hB hB1)) (fun W1 hB1 => (message_Right.thing3 a0_1 a0_2 a0_3 a0_4 a0_5 a0_6 a0_7 A0_8 c0_8 l0_8 A0_9 c0_9 l0_9 A0_10 c0_10 l0_10 W1 (Kd.C_below hr0_9 (below_step hB hB1)) hc0_9 hl9).mono fun e w' ⟨v1, he, hRr, hb⟩ => by obtain ⟨A1, c1, rfl, hle, hC1⟩ := Kd.R_reads hRr; exact ⟨_, he, ⟨A1, c1, rfl, hC1, hle⟩, hb⟩)).mono fun e w' ⟨m, he, ⟨Av, cv, hm, hC, hle⟩, hb⟩ => ⟨Av, cv, by rw [he, hm], hC, hle, hb⟩) hp hf
   rw [if_neg h3] at hp
   by_cases h4 : a0_0 = 4
   ·subst h4
    rw [if_pos rfl] at hp
    obtain ⟨b1, q1, hp⟩ := Option.bind_eq_some_iff.1 hp
    obtain ⟨h1, e1⟩ := message_Encode.n1_ q1
    obtain ⟨h2, e2⟩ := message_Encode.n1_ hp
    exact message_Encode.enc4 a0_1 a0_2 a0_3 a0_4 a0_5 a0_6 a0_7 A0_8 c0_8 l0_8 A0_9 c0_9 l0_9 A0_10 c0_10 l0_10 w b1 p r1 r2 (fun W hB => (message_Encode.of_ok 4 a0_1 a0_2 a0_3 a0_4 a0_5 a0_6 a0_7 A0_8 c0_8 l0_8 A0_9 c0_9 l0_9 A0_10 c0_10 l0_10 W (fun _ m => m = .iface 57 (.agg #[.int .u64 a0_1, .int .u64 a0_2, .int .u64 a0_3, .int .i64 a0_6])) (fun W1 hB1 => hR W1 (below_step hB hB1)) (fun W1 hB1 => (message_Right.thing4 a0_1 a0_2 a0_3 a0_4 a0_5 a0_6 a0_7 A0_8 c0_8 l0_8 A0_9 c0_9 l0_9 A0_10 c0_10 l0_10 W1).mono fun e w' ⟨he, hb⟩ => ⟨_, he, rfl, hb⟩)).mono fun e w' ⟨m, he, hm, hb⟩ => ⟨by rw [he, hm], hb⟩) h1 e1 h2 e2 hf
   rw [if_neg h4] at hp
   by_cases h5 : a0_0 = 5
   ·subst h5
    rw [if_pos rfl] at hp
    obtain ⟨b1, q1, hp⟩ := Option.bind_eq_some_iff.1 hp
    obtain ⟨h1, e1⟩ := message_Encode.n1_ q1
    obtain ⟨b2, q2, hp⟩ := Option.bind_eq_some_iff.1 hp
    obtain ⟨h2, e2⟩ := message_Encode.n1_ q2
    obtain ⟨b3, q3, hp⟩ := Option.bind_eq_some_iff.1 hp
    obtain ⟨h3, e3⟩ := message_Encode.n1_ q3
    obtain rfl := Option.some.inj hp
    cases a0_7
    ·exact message_Encode.enc5f a0_1 a0_2 a0_3 a0_4 a0_5 a0_6 A0_8 c0_8 l0_8 A0_9 c0_9 l0_9 A0_10 c0_10 l0_10 w b1 b2 b3 r1 r2 (fun W hB => (message_Encode.of_ok 5 a0_1 a0_2 a0_3 a0_4 a0_5 a0_6 false A0_8 c0_8 l0_8 A0_9 c0_9 l0_9 A0_10 c0_10 l0_10 W (fun _ m => m = .iface 60 (.agg #[.int .u64 a0_1, .int .u64 a0_2, .int .u64 a0_3, .bool false, .int .u64 a0_4, .int .u64 a0_5, .int .i64 a0_6, .bool false])) (fun W1 hB1 => hR W1 (below_step hB hB1)) (fun W1 hB1 => (message_Right.thing5 a0_1 a0_2 a0_3 a0_4 a0_5 a0_6 false A0_8 c0_8 l0_8 A0_9 c0_9 l0_9 A0_10 c0_10 l0_10 W1).mono fun e w' ⟨he, hb⟩ => ⟨_, he, rfl, hb⟩)).mono fun e w' ⟨m, he, hm, hb⟩ => ⟨by rw [he, hm], hb⟩) h1 e1 h2 e2 h3 e3 hf
    exact message_Encode.enc5t a0_1 a0_2 a0_3 a0_4 a0_5 a0_6 A0_8 c0_8 l0_8 A0_9 c0_9 l0_9 A0_10 c0_10 l0_10 w b1 b2 b3 r1 r2 (fun W hB => (message_Encode.of_ok 5 a0_1 a0_2 a0_3 a0_4 a0_5 a0_6 true A0_8 c0_8 l0_8 A0_9 c0_9 l0_9 A0_10 c0_10 l0_10 W (fun _ m => m = .iface 60 (.agg #[.int .u64 a0_1, .int .u64 a0_2, .int .u64 a0_3, .bool true, .int .u64 a0_4, .int .u64 a0_5, .int .i64 a0_6, .bool false])) (fun W1 hB1 => hR W1 (below_step hB hB1)) (fun W1 hB1 => (message_Right.thing5 a0_1 a0_2 a0_3 a0_4 a0_5 a0_6 true A0_8 c0_8 l0_8 A0_9 c0_9 l0_9 A0_10 c0_10 l0_10 W1).mono fun e w' ⟨he, hb⟩ => ⟨_, he, rfl, hb⟩)).mono fun e w' ⟨m, he, hm, hb⟩ => ⟨by rw [he, hm], hb⟩) h1 e1 h2 e2 h3 e3 hf
   rw [if_neg h5] at hp
   by_cases h6 : a0_0 = 6
   ·subst h6
    rw [if_pos rfl] at hp
    obtain ⟨b1, q1, hp⟩ := Option.bind_eq_some_iff.1 hp
    obtain ⟨h1, e1⟩ := message_Encode.n1_ q1
    obtain ⟨b2, q2, hp⟩ := Option.bind_eq_some_iff.1 hp
    obtain ⟨h2, e2⟩ := message_Encode.n1_ q2
    obtain rfl := Option.some.inj hp
    exact message_Encode.enc6 a0_1 a0_2 a0_3 a0_4 a0_5 a0_6 a0_7 A0_8 c0_8 l0_8 A0_9 c0_9 l0_9 A0_10 c0_10 l0_10 w b1 b2 r1 r2 (fun W hB => (message_Encode.of_ok 6 a0_1 a0_2 a0_3 a0_4 a0_5 a0_6 a0_7 A0_8 c0_8 l0_8 A0_9 c0_9 l0_9 A0_10 c0_10 l0_10 W (fun _ m => m = .iface 57 (.agg #[.int .u64 a0_1, .int .u64 a0_2, .int .u64 a0_3, .int .i64 a0_6])) (fun W1 hB1 => hR W1 (below_step hB hB1)) (fun W1 hB1 => (message_Right.thing6 a0_1 a0_2 a0_3 a0_4 a0_5 a0_6 a0_7 A0_8 c0_8 l0_8 A0_9 c0_9 l0_9 A0_10 c0_10 l0_10 W1).mono fun e w' ⟨he, hb⟩ => ⟨_, he, rfl, hb⟩)).mono fun e w' ⟨m, he, hm, hb⟩ => ⟨by rw [he, hm], hb⟩) h1 e1 h2 e2 hf
   rw [if_neg h6] at hp
   by_cases h7 : a0_0 = 7
   ·subst h7
    rw [if_pos rfl] at hp
    obtain ⟨b1, q1, hp⟩ := Option.bind_eq_some_iff.1 hp
    obtain ⟨h1, e1⟩ := message_Encode.n1_ q1
    obtain ⟨b2, q2, hp⟩ := Option.bind_eq_some_iff.1 hp
    obtain ⟨h2, e2⟩ := message_Encode.n1_ q2
    obtain ⟨h3, e3⟩ := message_Encode.n1_ hp
    cases a0_7
    ·exact message_Encode.enc7f a0_1 a0_2 a0_3 a0_4 a0_5 a0_6 A0_8 c0_8 l0_8 A0_9 c0_9 l0_9 A0_10 c0_10 l0_10 w b1 b2 p r1 r2 (fun W hB => (message_Encode.of_ok 7 a0_1 a0_2 a0_3 a0_4 a0_5 a0_6 false A0_8 c0_8 l0_8 A0_9 c0_9 l0_9 A0_10 c0_10 l0_10 W (fun _ m => m = .iface 60 (.agg #[.int .u64 a0_1, .int .u64 a0_2, .int .u64 a0_3, .bool false, .int .u64 a0_4, .int .u64 a0_5, .int .i64 a0_6, .bool true])) (fun W1 hB1 => hR W1 (below_step hB hB1)) (fun W1 hB1 => (message_Right.thing7 a0_1 a0_2 a0_3 a0_4 a0_5 a0_6 false A0_8 c0_8 l0_8 A0_9 c0_9 l0_9 A0_10 c0_10 l0_10 W1).mono fun e w' ⟨he, hb⟩ => ⟨_, he, rfl, hb⟩)).mono fun e w' ⟨m, he, hm, hb⟩ => ⟨by rw [he, hm], hb⟩) h1 e1 h2 e2 h3 e3 hf
    exact message_Encode.enc7t a0_1 a0_2 a0_3 a0_4 a0_5 a0_6 A0_8 c0_8 l0_8 A0_9 c0_9 l0_9 A0_10 c0_10 l0_10 w b1 b2 p r1 r2 (fun W hB => (message_Encode.of_ok 7 a0_1 a0_2 a0_3 a0_4 a0_5 a0_6 true A0_8 c0_8 l0_8 A0_9 c0_9 l0_9 A0_10 c0_10 l0_10 W (fun _ m => m = .iface 60 (.agg #[.int .u64 a0_1, .int .u64 a0_2, .int .u64 a0_3, .bool true, .int .u64 a0_4, .int .u64 a0_5, .int .i64 a0_6, .bool true])) (fun W1 hB1 => hR W1 (below_step hB hB1)) (fun W1 hB1 => (message_Right.thing7 a0_1 a0_2 a0_3 a0_4 a0_5 a0_6 true A0_8 c0_8 l0_8 A0_9 c0_9 l0_9 A0_10 c0_10 l0_10 W1).mono fun e w' ⟨he, hb⟩ => ⟨_, he, rfl, hb⟩)).mono fun e w' ⟨m, he, hm, hb⟩ => ⟨by rw [he, hm], hb⟩) h1 e1 h2 e2 h3 e3 hf
   rw [if_neg h7] at hp
   by_cases h8 : a0_0 = 8
   ·subst h8
    rw [if_pos rfl] at hp
    obtain ⟨b1, q1, hp⟩ := Option.bind_eq_some_iff.1 hp
    obtain ⟨h1, e1⟩ := message_Encode.n1_ q1
    obtain rfl := Option.some.inj hp
    exact message_Encode.enc8 a0_1 a0_2 a0_3 a0_4 a0_5 a0_6 a0_7 A0_8 c0_8 l0_8 A0_9 c0_9 l0_9 A0_10 c0_10 l0_10 w b1 r1 r2 (fun W hB => (message_Encode.of_ok 8 a0_1 a0_2 a0_3 a0_4 a0_5 a0_6 a0_7 A0_8 c0_8 l0_8 A0_9 c0_9 l0_9 A0_10 c0_10 l0_10 W (fun _ m => m = .iface 63 (.agg #[.int .u64 a0_1, .int .i64 a0_6])) (fun W1 hB1 => hR W1 (below_step hB hB1)) (fun W1 hB1 => (message_Right.thing8 a0_1 a0_2 a0_3 a0_4 a0_5 a0_6 a0_7 A0_8 c0_8 l0_8 A0_9 c0_9 l0_9 A0_10 c0_10 l0_10 W1).mono fun e w' ⟨he, hb⟩ => ⟨_, he, rfl, hb⟩)).mono fun e w' ⟨m, he, hm, hb⟩ => ⟨by rw [he, hm], hb⟩) h1 e1 hf
   rw [if_neg h8] at hp
   by_cases h9 : a0_0 = 9
   ·subst h9
    rw [if_pos rfl] at hp
    obtain ⟨b1, q1, hp⟩ := Option.bind_eq_some_iff.1 hp
    obtain ⟨h1, e1⟩ := message_Encode.n1_ q1
    obtain ⟨b2, q2, hp⟩ := Option.bind_eq_some_iff.1 hp
    obtain ⟨h2, e2⟩ := message_Encode.n1_ q2
    exact message_Encode.enc9 a0_1 a0_2 a0_3 a0_4 a0_5 a0_6 a0_7 A0_8 c0_8 l0_8 A0_9 c0_9 l0_9 A0_10 c0_10 l0_10 w b1 b2 p r1 r2 hl8 (fun W hB => (message_Encode.of_ok 9 a0_1 a0_2 a0_3 a0_4 a0_5 a0_6 a0_7 A0_8 c0_8 l0_8 A0_9 c0_9 l0_9 A0_10 c0_10 l0_10 W (fun W m => ∃ (Av : Option Addr) (cv : Nat), m = .iface 66 (.agg #[.int .u64 a0_1, .int .u64 a0_2, .int .u64 a0_3, .slice Av l0_8.length cv]) ∧ Kd.C k76 W Av l0_8.length l0_8 ∧ l0_8.length ≤ cv) (fun W1 hB1 => hR W1 (below_step hB hB1)) (fun W1 hB1 => (message_Right.thing9 a0_1 a0_2 a0_3 a0_4 a0_5 a0_6 a0_7 A0_8 c0_8 l0_8 A0_9 c0_9 l0_9 A0_10 c0_10 l0_10 W1 (Kd.C_below hr0_8 (below_step hB hB1)) hc0_8 hl8).mono fun e w' ⟨v1, he, hRr, hb⟩ => by obtain ⟨A1, c1, rfl, hle, hC1⟩ := Kd.R_reads hRr; exact ⟨_, he, ⟨A1, c1, rfl, hC1, hle⟩, hb⟩)).mono fun e w' ⟨m, he, ⟨Av, cv, hm, hC, hle⟩, hb⟩ => ⟨Av, cv, by rw [he, hm], hC, hle, hb⟩) h1 e1 h2 e2 hp hf
   rw [if_neg h9] at hp
   by_cases h10 : a0_0 = 10
   ·subst h10
    rw [if_pos rfl] at hp
    obtain ⟨b1, q1, hp⟩ := Option.bind_eq_some_iff.1 hp
    obtain ⟨h1, e1⟩ := message_Encode.n1_ q1
    exact message_Encode.enc10 a0_1 a0_2 a0_3 a0_4 a0_5 a0_6 a0_7 A0_8 c0_8 l0_8 A0_9 c0_9 l0_9 A0_10 c0_10 l0_10 w b1 p r1 r2 hl10 (fun W hB => (message_Encode.of_ok 10 a0_1 a0_2 a0_3 a0_4 a0_5 a0_6 a0_7 A0_8 c0_8 l0_8 A0_9 c0_9 l0_9 A0_10 c0_10 l0_10 W (fun W m => ∃ (Av : Option Addr) (cv : Nat), m = .iface 69 (.agg #[.int .u64 a0_1, .slice Av l0_10.length cv]) ∧ Kd.C (Kd.int .u64) W Av l0_10.length l0_10 ∧ l0_10.length ≤ cv) (fun W1 hB1 => hR W1 (below_step hB hB1)) (fun W1 hB1 => (message_Right.thing10 a0_1 a0_2 a0_3 a0_4 a0_5 a0_6 a0_7 A0_8 c0_8 l0_8 A0_9 c0_9 l0_9 A0_10 c0_10 l0_10 W1 (Kd.C_below hr0_10 (below_step hB hB1)) hc0_10 hl10).mono fun e w' ⟨v1, he, hRr, hb⟩ => by obtain ⟨A1, c1, rfl, hle, hC1⟩ := Kd.R_reads hRr; exact ⟨_, he, ⟨A1, c1, rfl, hC1, hle⟩, hb⟩)).mono fun e w' ⟨m, he, ⟨Av, cv, hm, hC, hle⟩, hb⟩ => ⟨Av, cv, by rw [he, hm], hC, hle, hb⟩) h1 e1 hp hf
   rw [if_neg h10] at hp
   exact absurd hp (by simp)
  rw [if_neg h0] at h
  obtain ⟨rfl, rfl⟩ := Prod.mk.inj (Option.some.inj h)
  exact message_Encode.bad a0_0 a0_1 a0_2 a0_3 a0_4 a0_5 a0_6 a0_7 A0_8 c0_8 l0_8 A0_9 c0_9 l0_9 A0_10 c0_10 l0_10 w k h0 (fun W hB => message_Encode.of_bad a0_0 a0_1 a0_2 a0_3 a0_4 a0_5 a0_6 a0_7 A0_8 c0_8 l0_8 A0_9 c0_9 l0_9 A0_10 c0_10 l0_10 W k h0 (fun W1 hB1 => hR W1 (below_step hB hB1)))
 rw [if_neg hl] at h
 exact absurd h (by simp)


end Go.Proofs.Ytlpnpnjjmpkapaa.PAll
