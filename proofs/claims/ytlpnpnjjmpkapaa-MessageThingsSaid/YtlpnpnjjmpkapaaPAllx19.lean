import Derived.Test.YtlpnpnjjmpkapaaPAllx0
import Derived.Test.YtlpnpnjjmpkapaaPAllx8
import Derived.Test.YtlpnpnjjmpkapaaPAllx10
import Derived.Test.YtlpnpnjjmpkapaaPAllx16
import Derived.Test.YtlpnpnjjmpkapaaPAllx17
import Derived.Test.YtlpnpnjjmpkapaaPAllx18
namespace Go.Proofs.Ytlpnpnjjmpkapaa.PAll
open Go.RowKit Go.Proofs.YtlpnpnjjmpkapaaW.PrintWords Go.Proofs.YtlpnpnjjmpkapaaW.PrintLast Go.Proofs.YtlpnpnjjmpkapaaW.PrintMore
attribute [local go_sem] max2_int min2_int max_two min_two max_three min_three max_four min_four   -- for this text's walks alone
set_option linter.unusedVariables false
set_option linter.unusedSimpArgs false

/-- A writer in memory: what it holds, in memory behind wm, in blocks that are ok. -/
def winnowlaw05_alive.WS (wm w : World) (g : Nat) (okw : Nat → Prop) (bs : List Int) : Prop :=
 Below wm.heap.size wm w ∧ wm.heap.size ≤ g ∧ ¬ okw g ∧ (∀ k, w.heap.size ≤ k → okw k) ∧ ∃ v : Value, w.heap[g]? = some (.cells #[v] 87 (0, 0)) ∧ Kd.R (Kd.int .u8) 5 w wm.heap.size okw v bs
theorem winnowlaw05_alive.WS_more {wm w : World} {g : Nat} {okw okw' : Nat → Prop} {bs : List Int} (h : winnowlaw05_alive.WS wm w g okw bs) (hn : ¬ okw' g) (hm : ∀ k, okw k → okw' k) : winnowlaw05_alive.WS wm w g okw' bs := by
 obtain ⟨hB, hg, _, hf, v, hk, hR⟩ := h
 exact ⟨hB, hg, hn, fun k hk => hm k (hf k hk), v, hk, Kd.R_mono hR hm⟩
set_option maxHeartbeats 8000000 in
set_option maxRecDepth 100000 in
theorem winnowlaw05_alive.small (wm w : World) (g : Nat) (okw : Nat → Prop) (bs : List Int) (n : Int) (h : winnowlaw05_alive.WS wm w g okw bs) (hl : bs.length ≤ 100000) :
  Calls Try.prog 37 #[.pointer (some ⟨g, 0, none⟩), .int .i64 n] w fun e w' => e = .returned (.tuple #[]) ∧ winnowlaw05_alive.WS wm w' g okw (bs ++ [n % 256]) ∧ Kept w w' (fun k => k = g ∨ okw k) := by
 obtain ⟨hB, hg, hn, hf, v, hk, hR⟩ := h
 have hu87 := Try.underlying87; have hcz_0 : w.cell? ⟨g, 0, none⟩ = some v := (blk_cell hk 0).trans rfl; have hfz_0 := blk_frozen hk 0; have HB := Aside0.mk hB; have HG := Aside0.mk hg; have HN := Aside0.mk hn; have HF := Aside0.mk hf; have BK := Aside0.mk hk; have HR := Aside0.mk hR
 have HL := Aside0.mk (show (bs.length + 1) * 1 ≤ 140737488355328 by omega)
 clear hB hg hk hR hn hf
 go_enter Try.func37, Try.ntmps37
 go_wp2_with (at_builtin; refine Kd.R_append (Kd.int .u8) (w0 := wm) wm.heap.size rfl (.tmp 8) (.tmp 11) 35 5 (.int .u8 0) 1 rfl Try.underlying35 info5 rfl (by decide) (by decide) _ bs (n % 256) [.int .u8 (n % 256)] okw (fun _ => False) rfl rfl rfl (fun _ hk => hk.elim) (fun k hk => HF.out k hk) HR.out HB.out HB.out.size HL.out ?_; intro v7 w7 ho7 hb7 hg7 hat7; obtain ⟨A7, c7, rfl⟩ := Kd.R_slice ho7; have BK7 := Aside0.mk (blk_grown BK.out hg7 (Kd.R_away HR.out (fun k hk e => HN.out (e ▸ hk)))); have HO7 := Aside0.mk ho7; have HB7 := Aside0.mk hb7; have HG7 := Aside0.mk hg7; have hq_0 : w7.cell? ⟨g, 0, none⟩ = some v := (blk_cell BK7.out 0).trans rfl; have hqf_0 := blk_frozen BK7.out 0; clear ho7 hb7 hg7 hat7)
 go_end0
 have hsz : ∀ u, (w7.setCell ⟨g, 0, none⟩ u).heap.size = w7.heap.size := fun u => by simp [World.setCell]
 have hK : Kept w w7 (fun k => k = g ∨ okw k) := Kept.of_grown HG7.out (Kept.refl _ _) (fun k hk => .inl (.inr (HR.out.1 k hk)))
 exact ⟨rfl, ⟨below_set HB7.out HG.out, HG.out, HN.out, fun k hk => HF.out k (by have := hK.1; rw [hsz] at hk; omega), _, (blk_set BK7.out 0 _).trans rfl, (by have hq := Kd.R_far (p := ⟨g, 0, none⟩) HO7.out (fun k h e => HN.out (by rw [show k = g from e] at h; exact h)) (.slice A7 (bs.length + 1) c7); rw [List.length_append, List.length_singleton] at hq; exact hq)⟩, hK.setCell (.inl (.inl rfl)) _⟩
/-- The bytes of numbers, behind bytes. -/
def winnowlaw05_alive.nums : List Int → List Int → Option (List Int)
 | bs, [] => some bs
 | bs, n :: l => (num_Put64.f 100 bs n).bind fun b => winnowlaw05_alive.nums b l
theorem winnowlaw05_alive.dropi (l : List Int) {k : Nat} (h : k < l.length) : l.drop k = l.getD k 0 :: l.drop (k + 1) := by
 rw [List.drop_eq_getElem_cons h]
 simp [List.getD_eq_getElem?_getD, List.getElem?_eq_getElem h]
set_option maxHeartbeats 8000000 in
set_option maxRecDepth 100000 in
theorem winnowlaw05_alive.numbers (wm w : World) (g : Nat) (okw : Nat → Prop) (bs : List Int) (A : Option Addr) (c : Nat) (l : List Int) (r : List Int) (h : winnowlaw05_alive.WS wm w g okw bs) (hC : ∀ W', Kept w W' (fun k => k = g ∨ okw k) → Kd.C (Kd.int .u64) W' A l.length l) (hl : l.length ≤ 1000) (hn : winnowlaw05_alive.nums bs l = some r) :
  Calls Try.prog 38 #[.pointer (some ⟨g, 0, none⟩), .slice A l.length c] w fun e w' => e = .returned (.tuple #[]) ∧ winnowlaw05_alive.WS wm w' g okw r ∧ Kept w w' (fun k => k = g ∨ okw k) := by
 have hu87 := Try.underlying87; have HW := Aside0.mk h; have HC := Aside0.mk hC; have HN := Aside0.mk hn; clear h hC hn
 go_enter Try.func38, Try.ntmps38
 go_wp2
 go_loopw [8] (fun i wr => ∃ k : Nat, k ≤ l.length ∧ i = .int .i64 k ∧ ∃ b : List Int, Aside0 (winnowlaw05_alive.nums b (l.drop k) = some r) ∧ Aside0 (winnowlaw05_alive.WS wm wr g okw b) ∧ Aside0 (Kept w wr (fun k => k = g ∨ okw k))) (fun i _ => l.length - (intOf i).toNat)
 case atStart => exact ⟨0, Nat.zero_le _, rfl, bs, HN, HW, ⟨Kept.refl _ _⟩⟩
 case round =>
  clear HN HW
  obtain ⟨k, hk, rfl, b, HN, HW, HK⟩ := hrel
  by_cases hlt : k < l.length
  ·have hn := HN.out
   rw [winnowlaw05_alive.dropi l hlt, winnowlaw05_alive.nums] at hn
   obtain ⟨b2, hp, hn2⟩ := Option.bind_eq_some_iff.1 hn
   obtain ⟨ad, rfl, hx0⟩ := Kd.at_int (HC.out _ HK.out) (k : Int) (by omega) (by omega)
   rw [show rd l (k : Int) = l.getD k 0 from rfl, Int.toNat_natCast] at hx0
   generalize l.getD k 0 = n at *
   obtain ⟨hB, hg, hno, hf, v, hkk, hR⟩ := HW.out
   have hcz_0 : wr.cell? ⟨g, 0, none⟩ = some v := (blk_cell hkk 0).trans rfl; have HP := Aside0.mk hp; have HN2 := Aside0.mk hn2; have HB := Aside0.mk hB; have HG := Aside0.mk hg; have HNO := Aside0.mk hno; have HF := Aside0.mk hf; have BK := Aside0.mk hkk; have HR := Aside0.mk hR; clear hn hn2 hp hB hg hno hf hkk hR HN HW; have hltb : decide ((k : Int) < (l.length : Int)) = true := decide_eq_true (by omega); have p0 : (0 ≤ (k : Int)) = True := eq_true (by omega); have p1 : ((k : Int) < (l.length : Int)) = True := eq_true (by omega)
   go_wp2_with fail
   refine (num_Put64.calls 100 okw v b n b2 wm _ HB.out HR.out HP.out).mono ?_
   rintro e w6 ⟨v6, rfl, hR6, hb6, hk6⟩
   obtain ⟨A6, c6, rfl⟩ := Kd.R_slice hR6
   have BK6 := Aside0.mk (blk_kept BK.out hk6 HNO.out)
   have HO6 := Aside0.mk (show Kd.R (Kd.int .u8) 5 w6 wm.heap.size okw _ b2 from Kd.R_mono hR6 (fun k hk => hk.elim id (HF.out k)))
   have HB6 := Aside0.mk hb6; have HK6 := Aside0.mk hk6; clear hR6 hb6 hk6 hcz_0; have hq_0 : w6.cell? ⟨g, 0, none⟩ = some v := (blk_cell BK6.out 0).trans rfl; have hqf_0 := blk_frozen BK6.out 0
   go_wp2
   go_roundw
   case rel =>
    have hsz : ∀ u, (w6.setCell ⟨g, 0, none⟩ u).heap.size = w6.heap.size := fun u => by simp [World.setCell]
    refine ⟨k + 1, by omega, by go_num, b2, HN2, ⟨below_set HB6.out HG.out, HG.out, HNO.out, fun q hq => HF.out q (by have := HK6.out.1; rw [hsz] at hq; omega), _, (blk_set BK6.out 0 _).trans rfl, Kd.R_far (p := ⟨g, 0, none⟩) HO6.out (fun k h e => HNO.out (by rw [show k = g from e] at h; exact h)) _⟩, ⟨?_⟩⟩
    exact (HK.out.then_ HK6.out (fun q hq => .inl (.inr hq))).setCell (.inl (.inl rfl)) _
   case measure => simp [intOf]; omega
  ·obtain rfl : k = l.length := by omega
   have hn := HN.out
   rw [List.drop_of_length_le (Nat.le_refl _), winnowlaw05_alive.nums] at hn
   obtain rfl := Option.some.inj hn
   clear hn HN
   go_wp2
   go_end0
   exact ⟨rfl, HW.out, HK.out⟩

set_option maxHeartbeats 8000000 in
set_option maxRecDepth 100000 in
theorem winnowlaw05_alive.of_ok (kd tr bn bd sn sd v : Int) (ok : Bool) (A8 : Option Addr) (c8 : Nat) (l8 : List S76) (A9 : Option Addr) (c9 : Nat) (l9 : List S92) (A10 : Option Addr) (c10 : Nat) (l10 : List Int) (w : World) (M : World → Value → Prop)
  (hR : ∀ W, Below w.heap.size w W → Calls Try.prog 13 #[.agg #[.int .i64 kd, .int .u64 tr, .int .u64 bn, .int .u64 bd, .int .u64 sn, .int .u64 sd, .int .i64 v, .bool ok, .slice A8 l8.length c8, .slice A9 l9.length c9, .slice A10 l10.length c10]] W fun e w' => e = .returned (.int .i64 0) ∧ Below W.heap.size W w')
  (hT : ∀ W, Below w.heap.size w W → Calls Try.prog 28 #[.agg #[.int .i64 kd, .int .u64 tr, .int .u64 bn, .int .u64 bd, .int .u64 sn, .int .u64 sd, .int .i64 v, .bool ok, .slice A8 l8.length c8, .slice A9 l9.length c9, .slice A10 l10.length c10]] W fun e w' => ∃ m, e = .returned m ∧ M w' m ∧ Below W.heap.size W w') :
  Calls Try.prog 23 #[.agg #[.int .i64 kd, .int .u64 tr, .int .u64 bn, .int .u64 bd, .int .u64 sn, .int .u64 sd, .int .i64 v, .bool ok, .slice A8 l8.length c8, .slice A9 l9.length c9, .slice A10 l10.length c10]] w fun e w' => ∃ m, e = .returned (.tuple #[m, .int .i64 0]) ∧ M w' m ∧ Below w.heap.size w w' := by
 have hu30 := Try.underlying30; have hu24 := Try.underlying24; have hu51 := Try.underlying51; have hu54 := Try.underlying54; have hu57 := Try.underlying57; have hu60 := Try.underlying60; have hu63 := Try.underlying63; have hu66 := Try.underlying66; have hu69 := Try.underlying69; have HR0 := Aside0.mk hR; have HT0 := Aside0.mk hT; clear hR hT
 go_enter Try.func23, Try.ntmps23
 go_wp2_with (first | ((with_reducible refine gate_dst (N := 1) rfl ?_); refine box_event ?hg (N := 1) ?hd (cs := #[.int .i64 kd, .int .u64 tr, .int .u64 bn, .int .u64 bd, .int .u64 sn, .int .u64 sd, .int .i64 v, .bool ok, .slice A8 l8.length c8, .slice A9 l9.length c9, .slice A10 l10.length c10]) (t := 30) ?hr ?_; (case hd => rfl); (case hg => rfl); (case hr => (go_simp; done)); intro g hg w1 hbox hb; have HB := Aside0.mk hb; have BK := Aside0.mk hbox; have HGE := Aside0.mk (show w.heap.size ≤ g from Nat.le_of_eq hg.symm); clear hb hbox hg; obtain ⟨hcz_0, hcz_1, hcz_2, hcz_3, hcz_4, hcz_5, hcz_6, hcz_7, hcz_8, hcz_9, hcz_10⟩ := Hand.Cz.c11 BK.out) | (go_at_call 13; refine (HR0.out _ HB.out).mono ?_; rintro e w2 ⟨rfl, hb⟩; have BK2 := Aside0.mk (blk_below BK.out hb); have HB2 := Aside0.mk (below_step HB.out hb); clear hb; clear hcz_0 hcz_1 hcz_2 hcz_3 hcz_4 hcz_5 hcz_6 hcz_7 hcz_8 hcz_9 hcz_10; obtain ⟨hcz_0, hcz_1, hcz_2, hcz_3, hcz_4, hcz_5, hcz_6, hcz_7, hcz_8, hcz_9, hcz_10⟩ := Hand.Cz.c11 BK2.out) | (go_at_call 28; refine (HT0.out _ HB2.out).mono ?_; rintro e w3 ⟨m, rfl, hm, hb⟩; have HM3 := Aside0.mk hm; have HB3 := Aside0.mk (below_step HB2.out hb); clear hm hb))
 go_ret2
 exact ⟨_, rfl, HM3.out, HB3.out⟩

set_option maxHeartbeats 8000000 in
set_option maxRecDepth 100000 in
theorem winnowlaw05_alive.of_bad (kd tr bn bd sn sd v : Int) (ok : Bool) (A8 : Option Addr) (c8 : Nat) (l8 : List S76) (A9 : Option Addr) (c9 : Nat) (l9 : List S92) (A10 : Option Addr) (c10 : Nat) (l10 : List Int) (w : World) (k : Int) (hk : k ≠ 0)
  (hR : ∀ W, Below w.heap.size w W → Calls Try.prog 13 #[.agg #[.int .i64 kd, .int .u64 tr, .int .u64 bn, .int .u64 bd, .int .u64 sn, .int .u64 sd, .int .i64 v, .bool ok, .slice A8 l8.length c8, .slice A9 l9.length c9, .slice A10 l10.length c10]] W fun e w' => e = .returned (.int .i64 k) ∧ Below W.heap.size W w') :
  Calls Try.prog 23 #[.agg #[.int .i64 kd, .int .u64 tr, .int .u64 bn, .int .u64 bd, .int .u64 sn, .int .u64 sd, .int .i64 v, .bool ok, .slice A8 l8.length c8, .slice A9 l9.length c9, .slice A10 l10.length c10]] w fun e w' => e = .returned (.tuple #[.nilIface, .int .i64 k]) ∧ Below w.heap.size w w' := by
 have hu30 := Try.underlying30; have hu24 := Try.underlying24; have hu51 := Try.underlying51; have hu54 := Try.underlying54; have hu57 := Try.underlying57; have hu60 := Try.underlying60; have hu63 := Try.underlying63; have hu66 := Try.underlying66; have hu69 := Try.underlying69; have HR0 := Aside0.mk hR; have hkb : (k != 0) = true := bne_iff_ne.mpr hk; clear hR hk
 go_enter Try.func23, Try.ntmps23
 go_wp2_with (first | ((with_reducible refine gate_dst (N := 1) rfl ?_); refine box_event ?hg (N := 1) ?hd (cs := #[.int .i64 kd, .int .u64 tr, .int .u64 bn, .int .u64 bd, .int .u64 sn, .int .u64 sd, .int .i64 v, .bool ok, .slice A8 l8.length c8, .slice A9 l9.length c9, .slice A10 l10.length c10]) (t := 30) ?hr ?_; (case hd => rfl); (case hg => rfl); (case hr => (go_simp; done)); intro g hg w1 hbox hb; have HB := Aside0.mk hb; have BK := Aside0.mk hbox; have HGE := Aside0.mk (show w.heap.size ≤ g from Nat.le_of_eq hg.symm); clear hb hbox hg; obtain ⟨hcz_0, hcz_1, hcz_2, hcz_3, hcz_4, hcz_5, hcz_6, hcz_7, hcz_8, hcz_9, hcz_10⟩ := Hand.Cz.c11 BK.out) | (go_at_call 13; refine (HR0.out _ HB.out).mono ?_; rintro e w2 ⟨rfl, hb⟩; have BK2 := Aside0.mk (blk_below BK.out hb); have HB2 := Aside0.mk (below_step HB.out hb); clear hb; clear hcz_0 hcz_1 hcz_2 hcz_3 hcz_4 hcz_5 hcz_6 hcz_7 hcz_8 hcz_9 hcz_10; obtain ⟨hcz_0, hcz_1, hcz_2, hcz_3, hcz_4, hcz_5, hcz_6, hcz_7, hcz_8, hcz_9, hcz_10⟩ := Hand.Cz.c11 BK2.out))
 go_ret2
 exact ⟨rfl, HB2.out⟩

theorem winnowlaw05_alive.WS_lit {wm w w' : World} {g : Nat} {okw : Nat → Prop} {bs : List Int} (h : winnowlaw05_alive.WS wm w g okw bs) (hb : Below w.heap.size w w') (hlt : w.heap.size < w'.heap.size) : winnowlaw05_alive.WS wm w' g (fun k => okw k ∧ k ≠ w.heap.size) bs := by
 obtain ⟨hB, hg, hn, hf, v, hk, hR⟩ := h
 exact ⟨below_step hB hb, hg, fun h => hn h.1, fun k hk => ⟨hf k (by omega), by omega⟩, v, blk_below hk hb, Kd.R_below (Kd.R_mono (Kd.R_bound hR) (fun k hk => ⟨hk.1, by have := hk.2.2; omega⟩)) hb⟩
theorem winnowlaw05_alive.WS_lt {wm w : World} {g : Nat} {okw : Nat → Prop} {bs : List Int} (h : winnowlaw05_alive.WS wm w g okw bs) : g < w.heap.size := blk_lt h.2.2.2.2.choose_spec.1
/-- Numbers that stand in a row of the caller's own. -/
theorem winnowlaw05_alive.numbers_lit (wm w w2 : World) (g : Nat) (okw : Nat → Prop) (bs : List Int) (A : Option Addr) (c : Nat) (l : List Int) (r : List Int) (h : winnowlaw05_alive.WS wm w g okw bs) (hb : Below w.heap.size w w2) (hR : Kd.R (Kd.int .u64) 22 w2 w.heap.size (fun k => k = w.heap.size) (.slice A l.length c) l) (hnew : ∃ b, (Value.slice A l.length c).ownBlock = some b ∧ w.heap.size ≤ b) (hl : l.length ≤ 1000) (hn : winnowlaw05_alive.nums bs l = some r) :
  Calls Try.prog 38 #[.pointer (some ⟨g, 0, none⟩), .slice A l.length c] w2 fun e w' => e = .returned (.tuple #[]) ∧ winnowlaw05_alive.WS wm w' g okw r ∧ Kept w w' (fun k => k = g ∨ okw k) := by
 have hgl := winnowlaw05_alive.WS_lt h
 have hlt : w.heap.size < w2.heap.size := by
  obtain ⟨b, e, hbb⟩ := hnew
  have := (Kd.R_bound hR).1 b e
  omega
 refine (winnowlaw05_alive.numbers wm w2 g (fun k => okw k ∧ k ≠ w.heap.size) bs A c l r (winnowlaw05_alive.WS_lit h hb hlt) (Kd.C_kept_own hR (fun k hk => by subst hk; rintro (e | e); omega; exact e.2 rfl)) hl hn).mono ?_
 rintro e w' ⟨he, hW, hK⟩
 refine ⟨he, winnowlaw05_alive.WS_more hW h.2.2.1 (fun k hk => hk.1), (Kept.of_below hb _).then_ hK (fun k hk => .inl (hk.imp id (fun h => h.1)))⟩

theorem winnowlaw05_alive.WS_far {wm w : World} {g q : Nat} {okw : Nat → Prop} {bs : List Int} (h : winnowlaw05_alive.WS wm w g okw bs) (hq : wm.heap.size ≤ q) (hn : ¬ okw q) (hne : g ≠ q) (i : Nat) (u : Value) : winnowlaw05_alive.WS wm (w.setCell ⟨q, i, none⟩ u) g okw bs := by
 obtain ⟨hB, hg, hno, hf, v, hk, hR⟩ := h
 exact ⟨below_set hB hq, hg, hno, fun k hk => hf k (by simpa [World.setCell] using hk), v, blk_far hk (p := ⟨q, i, none⟩) hne u, Kd.R_far (p := ⟨q, i, none⟩) hR (fun k h e => hn (by rw [show k = q from e] at h; exact h)) u⟩
theorem winnowlaw05_alive.WS_blk {wm w : World} {g q : Nat} {o : Obj} {okw : Nat → Prop} {bs : List Int} (h : winnowlaw05_alive.WS wm w g okw bs) (hq : wm.heap[q]? = some o) : w.heap[q]? = some o := (h.1.block q (blk_lt hq)).trans hq
theorem winnowlaw05_alive.WS_row {wm w : World} {g : Nat} {okw : Nat → Prop} {bs : List Int} (h : winnowlaw05_alive.WS wm w g okw bs) : ∃ (A : Option Addr) (c : Nat), w.heap[g]? = some (.cells #[.slice A bs.length c] 87 (0, 0)) ∧ bs.length ≤ c ∧ Kd.C (Kd.int .u8) w A bs.length bs := by
 obtain ⟨hB, hg, hno, hf, v, hk, hR⟩ := h
 obtain ⟨A, c, rfl, hle, hC⟩ := Kd.R_reads hR
 exact ⟨A, c, hk, hle, hC⟩

set_option maxHeartbeats 8000000 in
set_option maxRecDepth 100000 in
theorem winnowlaw05_alive.enc8 (tr bn bd sn sd v : Int) (ok : Bool) (A8 : Option Addr) (c8 : Nat) (l8 : List S76) (A9 : Option Addr) (c9 : Nat) (l9 : List S92) (A10 : Option Addr) (c10 : Nat) (l10 : List Int) (w : World) (b1 r1 : List Int) (r2 : Int)
  (hOf : ∀ W, Below w.heap.size w W → Calls Try.prog 23 #[.agg #[.int .i64 8, .int .u64 tr, .int .u64 bn, .int .u64 bd, .int .u64 sn, .int .u64 sd, .int .i64 v, .bool ok, .slice A8 l8.length c8, .slice A9 l9.length c9, .slice A10 l10.length c10]] W fun e w' => ∃ m, e = .returned (.tuple #[m, .int .i64 0]) ∧ (m = .iface 63 (.agg #[.int .u64 tr, .int .i64 v])) ∧ Below W.heap.size W w')
  (h1 : winnowlaw05_alive.nums [8] [tr] = some b1) (hl1 : b1.length ≤ 1000) (h2 : frame_Put.f 100000 [] (b1 ++ [v % 256]) = some (r1, r2)) :
  Calls Try.prog 16 #[.agg #[.int .i64 8, .int .u64 tr, .int .u64 bn, .int .u64 bd, .int .u64 sn, .int .u64 sd, .int .i64 v, .bool ok, .slice A8 l8.length c8, .slice A9 l9.length c9, .slice A10 l10.length c10]] w fun e w' => ∃ v0_ : Value, e = .returned (.tuple #[v0_, .int .i64 r2]) ∧ Kd.R (Kd.int .u8) 5 w' w.heap.size (fun _ => True) v0_ r1 ∧ Below w.heap.size w w' := by
 have hu30 := Try.underlying30; have hu24 := Try.underlying24; have hu51 := Try.underlying51; have hu54 := Try.underlying54; have hu57 := Try.underlying57; have hu60 := Try.underlying60; have hu63 := Try.underlying63; have hu66 := Try.underlying66; have hu69 := Try.underlying69; have hu87 := Try.underlying87; have ta51 := message_Right.ta63_51 (.agg #[.int .u64 tr, .int .i64 v]); have ta54 := message_Right.ta63_54 (.agg #[.int .u64 tr, .int .i64 v]); have ta57 := message_Right.ta63_57 (.agg #[.int .u64 tr, .int .i64 v]); have ta60 := message_Right.ta63_60 (.agg #[.int .u64 tr, .int .i64 v]); have ta63 := message_Right.ta63_63 (.agg #[.int .u64 tr, .int .i64 v]); have HOF := Aside0.mk hOf; have H1 := Aside0.mk h1; have H2 := Aside0.mk h2; clear hOf h1 h2
 go_enter Try.func16, Try.ntmps16
 go_wp2_with (first | ((with_reducible refine gate_dst (N := 1) rfl ?_); refine box_event ?hg (N := 1) ?hd (cs := #[.int .i64 8, .int .u64 tr, .int .u64 bn, .int .u64 bd, .int .u64 sn, .int .u64 sd, .int .i64 v, .bool ok, .slice A8 l8.length c8, .slice A9 l9.length c9, .slice A10 l10.length c10]) (t := 30) ?hr ?_; (case hd => rfl); (case hg => rfl); (case hr => (go_simp; done)); intro gp hg w1 hbox hb; have HB := Aside0.mk hb; have BK := Aside0.mk hbox; have HGE := Aside0.mk (show w.heap.size ≤ gp from Nat.le_of_eq hg.symm); clear hb hbox hg; obtain ⟨hcz_0, hcz_1, hcz_2, hcz_3, hcz_4, hcz_5, hcz_6, hcz_7, hcz_8, hcz_9, hcz_10⟩ := Hand.Cz.c11 BK.out) | (go_at_call 23; refine (HOF.out _ HB.out).mono ?_; rintro e w2 ⟨m, rfl, rfl, hb⟩; have BK2 := Aside0.mk (blk_below BK.out hb); have HB2 := Aside0.mk (below_step HB.out hb); clear hb; clear hcz_0 hcz_1 hcz_2 hcz_3 hcz_4 hcz_5 hcz_6 hcz_7 hcz_8 hcz_9 hcz_10; obtain ⟨hcz_0, hcz_1, hcz_2, hcz_3, hcz_4, hcz_5, hcz_6, hcz_7, hcz_8, hcz_9, hcz_10⟩ := Hand.Cz.c11 BK2.out) | ((with_reducible refine gate_dst (N := 26) rfl ?_); refine box_event ?hg (N := 26) ?hd (cs := #[.slice none 0 0]) (t := 87) ?hr ?_; (case hd => rfl); (case hg => rfl); (case hr => (go_simp; done)); intro g hg w3 hbox hb; have HW3 := Aside0.mk (show winnowlaw05_alive.WS w2 w3 g (fun k => k ≠ g) [] from ⟨hb, Nat.le_of_eq hg.symm, fun h => h rfl, fun k hk => by have := blk_lt hbox; omega, _, hbox, Kd.R_nil _ _ _ _ _⟩); have BK3 := Aside0.mk (blk_below BK2.out hb); clear hb hbox hg; clear hcz_0 hcz_1 hcz_2 hcz_3 hcz_4 hcz_5 hcz_6 hcz_7 hcz_8 hcz_9 hcz_10; obtain ⟨hcz_0, hcz_1, hcz_2, hcz_3, hcz_4, hcz_5, hcz_6, hcz_7, hcz_8, hcz_9, hcz_10⟩ := Hand.Cz.c11 BK3.out))
 refine (winnowlaw05_alive.small w2 _ g (fun k => k ≠ g) [] 8 HW3.out (by simp)).mono ?_
 rintro e w4 ⟨rfl, hW, hK⟩
 rw [show ([] : List Int) ++ [(8 : Int) % 256] = [8] from rfl] at hW
 have HW4 := Aside0.mk hW; have BK4 := Aside0.mk (winnowlaw05_alive.WS_blk hW BK2.out); clear hW hK; clear hcz_0 hcz_1 hcz_2 hcz_3 hcz_4 hcz_5 hcz_6 hcz_7 hcz_8 hcz_9 hcz_10
 obtain ⟨hcz_0, hcz_1, hcz_2, hcz_3, hcz_4, hcz_5, hcz_6, hcz_7, hcz_8, hcz_9, hcz_10⟩ := Hand.Cz.c11 BK4.out
 go_wp2_with ((with_reducible refine gate_dst (N := 37) rfl ?_); refine Kd.R_lit (Kd.int .u64) (w0 := w4) w4.heap.size 22 ?hg (N := 37) ?hd (xs := ([tr] : List Int)) (inner := [.int .u64 tr]) (ok := fun k => k = w4.heap.size) (okp := fun _ => False) ?hr ?hp (fun _ hk => hk.elim) rfl (Below.refl _ _) (Nat.le_refl _) (by simp) ?_; (case hd => rfl); (case hg => rfl); (case hr => (go_simp; done)); (case hp => exact (Reps.one (show Kd.M (Kd.int .u64) _ _ _ tr [.int .u64 tr] from rfl) (Reps.none _ _))); intro vl wl ho hb hg_ hnew_; have HRL := Aside0.mk ho; have HBL := Aside0.mk hb; have HNW := Aside0.mk hnew_; clear ho hb hg_ hnew_)
 obtain ⟨Al, cl, rfl⟩ := Kd.R_slice HRL.out
 refine (winnowlaw05_alive.numbers_lit w2 w4 wl g (fun k => k ≠ g) [8] Al cl [tr] b1 HW4.out HBL.out HRL.out HNW.out (by simp) H1.out).mono ?_
 rintro e w5 ⟨rfl, hW, hK⟩
 have HW5 := Aside0.mk hW; clear hW hK HRL HBL HNW; clear hcz_0 hcz_1 hcz_2 hcz_3 hcz_4 hcz_5 hcz_6 hcz_7 hcz_8 hcz_9 hcz_10
 go_wp2_with ((with_reducible refine gate_dst (N := 14) rfl ?_); refine box_event ?hg (N := 14) ?hd (cs := #[.int .u64 0, .int .i64 0]) (t := 63) ?hr ?_; (case hd => rfl); (case hg => rfl); (case hr => (go_simp; done)); intro gx hg w6 hbox hb; have hgx := hg.symm; have HW6 := Aside0.mk (show winnowlaw05_alive.WS w2 w6 g (fun k => k ≠ g ∧ k ≠ gx) b1 from by rw [hg]; exact winnowlaw05_alive.WS_lit HW5.out hb (by rw [← hg]; exact blk_lt hbox)); have HNE := Aside0.mk (show g ≠ gx from by have := winnowlaw05_alive.WS_lt HW5.out; omega); have HGX := Aside0.mk (show w2.heap.size ≤ gx from by have := HW5.out.1.size; omega); have BX := Aside0.mk hbox; clear hbox hb hg hgx; obtain ⟨hxz_0, hxz_1⟩ := Hand.Cz.c2 BX.out; obtain ⟨hxf_0, hxf_1⟩ := Hand.Cz.f2 BX.out)
 refine (winnowlaw05_alive.small w2 _ g (fun k => k ≠ g ∧ k ≠ gx) b1 v (winnowlaw05_alive.WS_far (winnowlaw05_alive.WS_far HW6.out HGX.out (fun h => h.2 rfl) HNE.out 0 _) HGX.out (fun h => h.2 rfl) HNE.out 1 _) (by omega)).mono ?_
 rintro e w7 ⟨rfl, hW, hK⟩
 obtain ⟨A7, c7, hk7, hle7, hC7⟩ := winnowlaw05_alive.WS_row hW
 have HW7 := Aside0.mk hW; have HC7 := Aside0.mk hC7; have HLE := Aside0.mk hle7; have hgz_0 : w7.cell? ⟨g, 0, none⟩ = some (.slice A7 (b1 ++ [v % 256]).length c7) := (blk_cell hk7 0).trans rfl; clear hW hK hk7 hle7 hC7 hxz_0 hxf_0 hxz_1 hxf_1
 generalize b1 ++ [v % 256] = pay at *
 go_wp2_with fail
 refine (frame_Put.calls 100000 (fun _ => True) none 0 [] A7 c7 pay r1 r2 _ (Kd.V_nil _ _ _ _ _) HC7.out HLE.out H2.out).mono ?_
 rintro e w8 ⟨v8, rfl, hR, hb⟩
 have HB8 := Aside0.mk (show Below w.heap.size w w8 from below_step (below_step HB2.out HW7.out.1) hb)
 have HR8 := Aside0.mk (Kd.R_mono (ok' := fun _ => True) (Kd.R_lower hR (below_step HB2.out HW7.out.1).size) (fun _ _ => trivial))
 clear hR hb
 go_wp2
 go_ret2
 exact ⟨_, rfl, HR8.out, HB8.out⟩

/-- What a reader takes: the bytes taken, what is left, and whether something went wrong. -/
def winnowlaw05_alive.tk (rest : List Int) (bad : Bool) (n : Nat) : List Int × List Int × Bool :=
 if bad = true ∨ rest.length < n then (List.replicate n 0, rest, true) else (rest.take n, rest.drop n, false)
/-- A reader in memory, over bytes that stand ahead of it. -/
def winnowlaw05_alive.St (w0 w : World) (g : Nat) (rest : List Int) (bad : Bool) : Prop :=
 Below w0.heap.size w0 w ∧ w0.heap.size ≤ g ∧ ∃ (A : Option Addr) (c : Nat), w.heap[g]? = some (.cells #[.slice A rest.length c, .bool bad] 99 (0, 0)) ∧ rest.length ≤ c ∧ Kd.C (Kd.int .u8) w0 A rest.length rest
theorem winnowlaw05_alive.tk_len (rest : List Int) (bad : Bool) (n : Nat) : (winnowlaw05_alive.tk rest bad n).1.length = n := by
 unfold winnowlaw05_alive.tk
 split
 ·simp
 simp; omega
theorem winnowlaw05_alive.St_below {w0 w w1 : World} {g : Nat} {rest : List Int} {bad : Bool} (h : winnowlaw05_alive.St w0 w g rest bad) (hb : Below w.heap.size w w1) : winnowlaw05_alive.St w0 w1 g rest bad := by
 obtain ⟨hB, hg, A, c, hblk, hl, hC⟩ := h
 exact ⟨below_step hB hb, hg, A, c, blk_below hblk hb, hl, hC⟩
theorem winnowlaw05_alive.St_far {w0 w : World} {g q : Nat} {rest : List Int} {bad : Bool} (h : winnowlaw05_alive.St w0 w g rest bad) (hq : w0.heap.size ≤ q) (hne : g ≠ q) (i : Nat) (u : Value) : winnowlaw05_alive.St w0 (w.setCell ⟨q, i, none⟩ u) g rest bad := by
 obtain ⟨hB, hg, A, c, hblk, hl, hC⟩ := h
 exact ⟨below_set hB hq, hg, A, c, blk_far hblk (p := ⟨q, i, none⟩) hne u, hl, hC⟩
set_option maxHeartbeats 8000000 in
set_option maxRecDepth 100000 in
theorem winnowlaw05_alive.take (w0 w : World) (g : Nat) (rest : List Int) (bad : Bool) (n : Nat) (hn : n ≤ 255) (hst : winnowlaw05_alive.St w0 w g rest bad) :
  Calls Try.prog 83 #[.pointer (some ⟨g, 0, none⟩), .int .i64 n] w fun e w' => ∃ (A' : Option Addr) (c' : Nat), e = .returned (.slice A' n c') ∧ n ≤ c' ∧ Kd.C (Kd.int .u8) w' A' n (winnowlaw05_alive.tk rest bad n).1 ∧ winnowlaw05_alive.St w0 w' g (winnowlaw05_alive.tk rest bad n).2.1 (winnowlaw05_alive.tk rest bad n).2.2 ∧ KeepBut w w' g none := by
 obtain ⟨hB, hg, A, c, hblk, hl, hC⟩ := hst
 have hu99 := Try.underlying99; have hcz_0 : w.cell? ⟨g, 0, none⟩ = some (.slice A rest.length c) := (blk_cell hblk 0).trans rfl; have hcz_1 : w.cell? ⟨g, 1, none⟩ = some (.bool bad) := (blk_cell hblk 1).trans rfl; have hfz_0 := blk_frozen hblk 0; have hfz_1 := blk_frozen hblk 1; have HG := Aside0.mk hg; have HB := Aside0.mk hB; have BK := Aside0.mk hblk; have HL := Aside0.mk hl; have HC := Aside0.mk hC; clear hB hblk hl hC hg
 unfold winnowlaw05_alive.tk
 by_cases hbn : bad = true ∨ rest.length < n
 ·rw [if_pos hbn]
  have hlen : (List.replicate (n : Int).toNat (0 : Int)).length = n := by simp
  have hfin : ∀ w1 w2, w1 = w.setCell ⟨g, 1, none⟩ (.bool true) → ∀ v1, Kd.R (Kd.int .u8) 5 w2 w1.heap.size (fun _ => True) v1 (List.replicate (n : Int).toNat (0 : Int)) → Below w1.heap.size w1 w2 → ∃ (A' : Option Addr) (c' : Nat), v1 = .slice A' n c' ∧ n ≤ c' ∧ Kd.C (Kd.int .u8) w2 A' n (List.replicate n 0) ∧ winnowlaw05_alive.St w0 w2 g rest true ∧ KeepBut w w2 g none := by
   rintro w1 w2 rfl v1 hR hb
   obtain ⟨A1, c1, rfl, hle, hC1⟩ := Kd.R_reads hR
   rw [List.length_replicate, Int.toNat_natCast] at hle hC1
   refine ⟨A1, c1, by rw [hlen], hle, hC1, ⟨below_step (below_set HB.out HG.out) hb, HG.out, A, c, blk_below ((blk_set BK.out 1 _).trans rfl) hb, HL.out, HC.out⟩, KeepBut.trans ((KeepBut.refl w g none).set_ 1 _) (KeepBut.of_below hb g none) (.inl rfl)⟩
  have HFIN := Aside0.mk hfin; clear hfin; have harm : n ≤ 255 := hn
  cases bad
  ·have hlt : rest.length < n := hbn.resolve_left (by decide)
   have hltb : decide ((rest.length : Int) < (n : Int)) = true := decide_eq_true (by omega); clear hbn
   go_enter Try.func83, Try.ntmps83
   go_wp2_with ((with_reducible refine gate_dst (N := 27) rfl ?_); refine Kd.R_make (Kd.int .u8) _ 5 rfl (N := 27) rfl 35 _ _ rfl (n : Int) rfl rfl Try.underlying35 (.int .u8 0) 1 info5 rfl (by decide) (by decide) (0 : Int) (ok := fun _ => True) (okp := fun _ => False) rfl (fun _ h => h.elim) trivial (by omega) (by simp; omega) (Below.refl _ _) (Nat.le_refl _) ?_; intro v1 w1 hR hb hgr hat; have HQ := Aside0.mk (HFIN.out _ _ rfl _ hR hb); clear hR hb hgr hat)
   obtain ⟨A1, c1, rfl, hq⟩ := HQ.out
   have HQ2 := Aside0.mk hq; clear hq HQ
   go_wp2
   go_ret
   exact ⟨A1, c1, rfl, HQ2.out⟩
  clear hbn
  go_enter Try.func83, Try.ntmps83
  go_wp2_with ((with_reducible refine gate_dst (N := 27) rfl ?_); refine Kd.R_make (Kd.int .u8) _ 5 rfl (N := 27) rfl 35 _ _ rfl (n : Int) rfl rfl Try.underlying35 (.int .u8 0) 1 info5 rfl (by decide) (by decide) (0 : Int) (ok := fun _ => True) (okp := fun _ => False) rfl (fun _ h => h.elim) trivial (by omega) (by simp; omega) (Below.refl _ _) (Nat.le_refl _) ?_; intro v1 w1 hR hb hgr hat; have HQ := Aside0.mk (HFIN.out _ _ rfl _ hR hb); clear hR hb hgr hat)
  obtain ⟨A1, c1, rfl, hq⟩ := HQ.out
  have HQ2 := Aside0.mk hq; clear hq HQ
  go_wp2
  go_ret
  exact ⟨A1, c1, rfl, HQ2.out⟩
 rw [if_neg hbn]
 obtain rfl : bad = false := by cases bad; rfl; exact absurd (Or.inl rfl) hbn
 have hlt : ¬ rest.length < n := fun h => hbn (.inr h)
 have hltb : decide ((rest.length : Int) < (n : Int)) = false := decide_eq_false (by omega); clear hbn
 obtain ⟨i0, hi, hzz⟩ := Option.map_eq_some_iff.1 info5
 simp only [Prod.mk.injEq] at hzz
 have hto := fun W => Hand.run_slice_to (P := Try.prog) 35 5 .i64 Try.underlying35 hi A rest.length c n (by have := HL.out; omega) W
 have hfrom := cut_from (P := Try.prog) 35 5 .i64 Try.underlying35 hi 1 hzz.2.1 A rest.length c (n : Int) (by omega) (by omega)
 rw [Int.toNat_natCast] at hfrom
 have hd := Kd.C_drop HC.out (show n ≤ rest.length by omega) HL.out
 have ht := Kd.C_take HC.out (show n ≤ rest.length by omega)
 rw [show (Kd.int .u8).sz = 1 from rfl] at hd
 obtain ⟨A2, hA2⟩ : ∃ A2, (if c = n then A else A.map (·.add (n * 1))) = A2 := ⟨_, rfl⟩
 rw [hA2] at hd hfrom
 have HD := Aside0.mk hd; have HT := Aside0.mk ht; clear hd ht hA2 hzz
 go_enter Try.func83, Try.ntmps83
 go_wp2
 go_ret
 refine ⟨A, c, rfl, by have := HL.out; omega, ?_, ⟨below_set (below_set HB.out HG.out) HG.out, HG.out, A2, c - n, ?_, by rw [List.length_drop]; have := HL.out; omega, HD.out⟩, ((KeepBut.refl w g none).set_ 1 _).set_ 0 _⟩
 ·have h := HT.out
  rw [List.length_take, Nat.min_eq_left (by omega)] at h
  exact Kd.C_below h (below_set (below_set HB.out HG.out) HG.out)
 rw [List.length_drop]
 exact (blk_set (blk_set BK.out 1 _) 0 _).trans rfl
/-- The next number, the next byte. -/
def winnowlaw05_alive.nm (rest : List Int) (bad : Bool) : Option (Int × List Int × Bool) := (num_U64.f (winnowlaw05_alive.tk rest bad 8).1).map fun r => (r, (winnowlaw05_alive.tk rest bad 8).2)
set_option maxHeartbeats 8000000 in
set_option maxRecDepth 100000 in
theorem winnowlaw05_alive.number (w0 w : World) (g : Nat) (rest : List Int) (bad : Bool) (hst : winnowlaw05_alive.St w0 w g rest bad) (r : Int × List Int × Bool) (h : winnowlaw05_alive.nm rest bad = some r) :
  Calls Try.prog 45 #[.pointer (some ⟨g, 0, none⟩)] w fun e w' => e = .returned (.int .u64 r.1) ∧ winnowlaw05_alive.St w0 w' g r.2.1 r.2.2 ∧ KeepBut w w' g none := by
 obtain ⟨v, hv, rfl⟩ := Option.map_eq_some_iff.1 h
 have HST := Aside0.mk hst; clear hst h
 go_enter Try.func45, Try.ntmps45
 go_wp2_with fail
 refine (winnowlaw05_alive.take w0 _ g rest bad 8 (by omega) HST.out).mono ?_
 rintro e w1 ⟨A1, c1, rfl, hle, hC, hst, hkb⟩
 have hlen := winnowlaw05_alive.tk_len rest bad 8; have hU := num_U64.calls A1 c1 (winnowlaw05_alive.tk rest bad 8).1 v w1 (by rw [hlen]; exact hC) (by omega) hv
 rw [hlen] at hU
 have HU := Aside0.mk hU; have HST1 := Aside0.mk hst; have HKB := Aside0.mk hkb; clear hU hst hkb hC hlen hv
 go_wp2_with fail
 refine HU.out.mono ?_
 rintro e w2 ⟨rfl, hd⟩
 have HD := Aside0.mk hd; clear hd
 go_wp2
 go_ret
 exact ⟨rfl, winnowlaw05_alive.St_below HST1.out (Drawn0.below HD.out), KeepBut.trans HKB.out (KeepBut.of_below (Drawn0.below HD.out) g none) (.inl rfl)⟩
set_option maxHeartbeats 8000000 in
set_option maxRecDepth 100000 in
theorem winnowlaw05_alive.rsmall (w0 w : World) (g : Nat) (rest : List Int) (bad : Bool) (hst : winnowlaw05_alive.St w0 w g rest bad) (out rest1 : List Int) (bad1 : Bool) (c : Int) (ht : winnowlaw05_alive.tk rest bad 1 = (out, rest1, bad1)) (hc : rd out 0 = c) (hc0 : 0 ≤ c) (hc1 : c < 256) :
  Calls Try.prog 44 #[.pointer (some ⟨g, 0, none⟩)] w fun e w' => e = .returned (.int .i64 c) ∧ winnowlaw05_alive.St w0 w' g rest1 bad1 ∧ KeepBut w w' g none := by
 have HST := Aside0.mk hst; clear hst
 go_enter Try.func44, Try.ntmps44
 go_wp2_with fail
 refine (winnowlaw05_alive.take w0 _ g rest bad 1 (by omega) HST.out).mono ?_
 rintro e w1 ⟨A1, c1, rfl, hle, hC, hst, hkb⟩
 rw [ht] at hC hst
 obtain ⟨ad, rfl, hcell⟩ := Kd.at_int hC 0 (by omega) (by omega)
 rw [hc, show ad.add (Int.toNat 0) = ad from by simp [Addr.add]] at hcell
 have HST1 := Aside0.mk hst; have HKB := Aside0.mk hkb; clear hst hkb hC ht hc
 go_wp2
 go_ret
 exact ⟨rfl, HST1.out, HKB.out⟩
theorem winnowlaw05_alive.verdict (w0 w : World) (g : Nat) (rest : List Int) (bad : Bool) (hst : winnowlaw05_alive.St w0 w g rest bad) (out rest1 : List Int) (bad1 : Bool) (c : Int) (ht : winnowlaw05_alive.tk rest bad 1 = (out, rest1, bad1)) (hc : rd out 0 = c) (hc0 : 0 ≤ c) (hc1 : c < 256) :
  Calls Try.prog 88 #[.pointer (some ⟨g, 0, none⟩)] w fun e w' => e = .returned (.int .i64 c) ∧ winnowlaw05_alive.St w0 w' g rest1 bad1 ∧ KeepBut w w' g none := by
 have HST := Aside0.mk hst; clear hst
 go_enter Try.func88, Try.ntmps88
 go_wp2_with fail
 refine (winnowlaw05_alive.rsmall w0 _ g rest bad HST.out out rest1 bad1 c ht hc hc0 hc1).mono ?_
 rintro e w1 ⟨rfl, hst, hkb⟩
 have HST1 := Aside0.mk hst; have HKB := Aside0.mk hkb; clear hst hkb
 go_wp2
 go_ret
 exact ⟨rfl, HST1.out, HKB.out⟩

set_option maxHeartbeats 8000000 in
set_option maxRecDepth 100000 in
theorem winnowlaw05_alive.rest8 (w0 w : World) (g gp : Nat) (rest : List Int) (bad : Bool) (c1 c2 c3 c4 c5 c6 c7 c8 c9 c10 : Value) (hst : winnowlaw05_alive.St w0 w g rest bad) (hp : w.heap[gp]? = some (.cells #[.int .i64 8, c1, c2, c3, c4, c5, c6, c7, c8, c9, c10] 30 (0, 0))) (hgp : w0.heap.size ≤ gp) (hne : gp ≠ g) (out rest1 : List Int) (bad1 : Bool) (c : Int) (ht : winnowlaw05_alive.tk rest bad 1 = (out, rest1, bad1)) (hc : rd out 0 = c) (hc0 : 0 ≤ c) (hc1 : c < 256) :
  Calls Try.prog 46 #[.pointer (some ⟨g, 0, none⟩), .pointer (some ⟨gp, 0, none⟩)] w fun e w' => e = .returned (.tuple #[]) ∧ winnowlaw05_alive.St w0 w' g rest1 bad1 ∧ w'.heap[gp]? = some (.cells #[.int .i64 8, c1, c2, c3, c4, c5, .int .i64 c, c7, c8, c9, c10] 30 (0, 0)) ∧ ∀ (q : Nat) (cs : Array Value) (t : TypeId), q ≠ g → q ≠ gp → w.heap[q]? = some (.cells cs t (0, 0)) → w'.heap[q]? = some (.cells cs t (0, 0)) := by
 have hu30 := Try.underlying30; have hu24 := Try.underlying24; have hu51 := Try.underlying51; have hu54 := Try.underlying54; have hu57 := Try.underlying57; have hu60 := Try.underlying60; have hu63 := Try.underlying63; have hu66 := Try.underlying66; have hu69 := Try.underlying69; have HST := Aside0.mk hst; have HP := Aside0.mk hp; have HT := Aside0.mk ht; have HC := Aside0.mk hc; have HGP := Aside0.mk hgp; have hne2 : g ≠ gp := hne.symm; clear hst ht hc hgp; have hcz_0 : w.cell? ⟨gp, 0, none⟩ = some (.int .i64 8) := (blk_cell hp 0).trans rfl; clear hp
 go_enter Try.func46, Try.ntmps46
 go_wp2_with fail
 refine (winnowlaw05_alive.verdict w0 _ g rest bad HST.out out rest1 bad1 c HT.out HC.out hc0 hc1).mono ?_
 rintro e w1 ⟨rfl, hst, hkb⟩
 have HST1 := Aside0.mk hst; have HP1 := Aside0.mk ((hkb.2 gp (blk_lt HP.out) hne (by simp)).trans HP.out); have HKB := Aside0.mk hkb; clear hst hkb hcz_0
 obtain ⟨hq_0, hq_1, hq_2, hq_3, hq_4, hq_5, hq_6, hq_7, hq_8, hq_9, hq_10⟩ := Hand.Cz.c11 HP1.out
 obtain ⟨hf_0, hf_1, hf_2, hf_3, hf_4, hf_5, hf_6, hf_7, hf_8, hf_9, hf_10⟩ := Hand.Cz.f11 HP1.out
 go_wp2
 go_end0
 exact ⟨rfl, winnowlaw05_alive.St_far HST1.out HGP.out hne2 _ _, (blk_set HP1.out 6 _).trans rfl, fun q cs t h1 h2 hq => blk_far ((HKB.out.2 q (blk_lt hq) h1 (by simp)).trans hq) (p := ⟨gp, 6, none⟩) h2 _⟩

set_option maxHeartbeats 8000000 in
set_option maxRecDepth 100000 in
theorem winnowlaw05_alive.dec8 (A0 : Option Addr) (c0 : Nat) (l0 : List Int) (w : World) (hr0 : Kd.C (Kd.int .u8) w A0 l0.length l0) (hc0 : l0.length ≤ c0) (K : Nat) (d : List Int) (hcut : frame_Cut.f K l0 = some (d, [], 0)) (o1 d1 : List Int) (h1 : winnowlaw05_alive.tk d false 1 = (o1, d1, false)) (hk : rd o1 0 = 8) (tr : Int) (d2 : List Int) (h2 : winnowlaw05_alive.nm d1 false = some (tr, d2, false)) (o3 : List Int) (v : Int) (h3 : winnowlaw05_alive.tk d2 false 1 = (o3, [], false)) (hv : rd o3 0 = v) (hv0 : 0 ≤ v) (hv1 : v < 256) (hR : message_Right.f 8 tr 0 0 0 0 v false [] [] [] = some 0) :
  Calls Try.prog 19 #[.slice A0 l0.length c0] w fun e w' => e = .returned (.tuple #[.agg #[.int .i64 8, .int .u64 tr, .int .u64 0, .int .u64 0, .int .u64 0, .int .u64 0, .int .i64 v, .bool false, .slice none 0 0, .slice none 0 0, .slice none 0 0], .int .i64 0]) ∧ Below w.heap.size w w' := by
 have hu30 := Try.underlying30; have hu24 := Try.underlying24; have hu51 := Try.underlying51; have hu54 := Try.underlying54; have hu57 := Try.underlying57; have hu60 := Try.underlying60; have hu63 := Try.underlying63; have hu66 := Try.underlying66; have hu69 := Try.underlying69; have hu99 := Try.underlying99; have HC := Aside0.mk hr0; have HCUT := Aside0.mk hcut; have H1 := Aside0.mk h1; have HK := Aside0.mk hk; have H2 := Aside0.mk h2; have H3 := Aside0.mk h3; have HV := Aside0.mk hv; have HR := Aside0.mk hR; clear hr0 hcut h1 hk h2 h3 hv hR
 go_enter Try.func19, Try.ntmps19
 go_wp2_with ((with_reducible refine gate_dst (N := 2) rfl ?_); refine box_event ?hg (N := 2) ?hd (cs := #[.int .i64 0, .int .u64 0, .int .u64 0, .int .u64 0, .int .u64 0, .int .u64 0, .int .i64 0, .bool false, .slice none 0 0, .slice none 0 0, .slice none 0 0]) (t := 30) ?hr ?_; (case hd => rfl); (case hg => rfl); (case hr => (go_simp; done)); intro g2 hg w1 hbox hb; have HG2 := Aside0.mk (show w.heap.size ≤ g2 from Nat.le_of_eq hg.symm); have B2 := Aside0.mk hbox; have HB1 := Aside0.mk hb; clear hg hbox hb)
 refine (frame_Cut.calls K A0 c0 l0 d [] 0 _ (Kd.C_below HC.out HB1.out) hc0 HCUT.out).mono ?_
 rintro e w2 ⟨v1, v2, rfl, hR1, hR2, hb⟩
 obtain ⟨A1, c1, rfl, hle1, hC1⟩ := Kd.R_reads hR1
 obtain ⟨A2, c2, rfl⟩ := Kd.R_slice hR2
 have HB2 := Aside0.mk (below_step HB1.out hb); have B22 := Aside0.mk (blk_below B2.out hb); have HC1 := Aside0.mk hC1; have HLE := Aside0.mk hle1; clear hR1 hR2 hb hle1 hC1
 go_wp2_with ((with_reducible refine gate_dst (N := 21) rfl ?_); refine box_event ?hg (N := 21) ?hd (cs := #[.slice A1 d.length c1, .bool false]) (t := 99) ?hr ?_; (case hd => rfl); (case hg => rfl); (case hr => (go_simp; done)); intro g hg w3 hbox hb; have hgs := hg.symm; have HST := Aside0.mk (show winnowlaw05_alive.St w2 w3 g d false from ⟨hb, Nat.le_of_eq hg.symm, A1, c1, hbox, HLE.out, HC1.out⟩); have B23 := Aside0.mk (blk_below B22.out hb); have HNE := Aside0.mk (show g2 ≠ g from by have := blk_lt B22.out; omega); clear hg hbox hb hgs)
 refine (winnowlaw05_alive.rsmall w2 _ g d false HST.out o1 d1 false 8 H1.out HK.out (by omega) (by omega)).mono ?_
 rintro e w4 ⟨rfl, hst, hkb⟩
 have HST4 := Aside0.mk hst; have B24 := Aside0.mk ((hkb.2 g2 (blk_lt B23.out) HNE.out (by simp)).trans B23.out); clear hst hkb
 go_upto_region 6 with ((with_reducible refine gate_dst (N := 8) rfl ?_); refine box_event ?hg (N := 8) ?hd (cs := #[.int .i64 0, .int .u64 0, .int .u64 0, .int .u64 0, .int .u64 0, .int .u64 0, .int .i64 0, .bool false, .slice none 0 0, .slice none 0 0, .slice none 0 0]) (t := 30) ?hr ?_; (case hd => rfl); (case hg => rfl); (case hr => (go_simp; done)); intro gp hg w5 hbox hb; have hgs := hg.symm; have HNP := Aside0.mk (show gp ≠ g from by have := blk_lt HST4.out.2.2.choose_spec.choose_spec.1; omega); have HNP2 := Aside0.mk (show gp ≠ g2 from by have := blk_lt B24.out; omega); have HGP := Aside0.mk (show w2.heap.size ≤ gp from by have := HST4.out.1.size; omega); have HST5 := Aside0.mk (winnowlaw05_alive.St_below HST4.out hb); have B25 := Aside0.mk (blk_below B24.out hb); have BP := Aside0.mk hbox; clear hg hbox hb hgs; obtain ⟨hp_0, hp_1, hp_2, hp_3, hp_4, hp_5, hp_6, hp_7, hp_8, hp_9, hp_10⟩ := Hand.Cz.c11 BP.out; obtain ⟨hpf_0, hpf_1, hpf_2, hpf_3, hpf_4, hpf_5, hpf_6, hpf_7, hpf_8, hpf_9, hpf_10⟩ := Hand.Cz.f11 BP.out)
 generalize hW6 : World.setCell _ (Addr.mk gp 10 none) _ = w6
 have BP6 := Aside0.mk (show w6.heap[gp]? = some (.cells #[.int .i64 8, .int .u64 0, .int .u64 0, .int .u64 0, .int .u64 0, .int .u64 0, .int .i64 0, .bool false, .slice none 0 0, .slice none 0 0, .slice none 0 0] 30 (0, 0)) from by rw [← hW6]; exact Hand.Cz.p11 BP.out)
 have HST6 := Aside0.mk (show winnowlaw05_alive.St w2 w6 g d1 false from by rw [← hW6]; exact (winnowlaw05_alive.St_far (winnowlaw05_alive.St_far (winnowlaw05_alive.St_far (winnowlaw05_alive.St_far (winnowlaw05_alive.St_far (winnowlaw05_alive.St_far (winnowlaw05_alive.St_far (winnowlaw05_alive.St_far (winnowlaw05_alive.St_far (winnowlaw05_alive.St_far (winnowlaw05_alive.St_far HST5.out HGP.out HNP.out.symm 0 _) HGP.out HNP.out.symm 1 _) HGP.out HNP.out.symm 2 _) HGP.out HNP.out.symm 3 _) HGP.out HNP.out.symm 4 _) HGP.out HNP.out.symm 5 _) HGP.out HNP.out.symm 6 _) HGP.out HNP.out.symm 7 _) HGP.out HNP.out.symm 8 _) HGP.out HNP.out.symm 9 _) HGP.out HNP.out.symm 10 _))
 have B26 := Aside0.mk (show w6.heap[g2]? = some (.cells #[.int .i64 0, .int .u64 0, .int .u64 0, .int .u64 0, .int .u64 0, .int .u64 0, .int .i64 0, .bool false, .slice none 0 0, .slice none 0 0, .slice none 0 0] 30 (0, 0)) from by rw [← hW6]; exact Hand.Cz.o11 B25.out HNP2.out.symm)
 clear hW6 BP HST5 B25 HST4 B24 hp_0 hpf_0 hp_1 hpf_1 hp_2 hpf_2 hp_3 hpf_3 hp_4 hpf_4 hp_5 hpf_5 hp_6 hpf_6 hp_7 hpf_7 hp_8 hpf_8 hp_9 hpf_9 hp_10 hpf_10
 obtain ⟨hp_0, hp_1, hp_2, hp_3, hp_4, hp_5, hp_6, hp_7, hp_8, hp_9, hp_10⟩ := Hand.Cz.c11 BP6.out
 go_wp2_with fail
 refine (winnowlaw05_alive.number w2 _ g d1 false HST6.out (tr, d2, false) H2.out).mono ?_
 rintro e w7 ⟨rfl, hst, hkb⟩
 have HST7 := Aside0.mk hst; have BP7 := Aside0.mk ((hkb.2 gp (blk_lt BP6.out) HNP.out (by simp)).trans BP6.out); have B27 := Aside0.mk ((hkb.2 g2 (blk_lt B26.out) HNE.out (by simp)).trans B26.out); clear hst hkb hp_0 hp_1 hp_2 hp_3 hp_4 hp_5 hp_6 hp_7 hp_8 hp_9 hp_10
 obtain ⟨hp_0, hp_1, hp_2, hp_3, hp_4, hp_5, hp_6, hp_7, hp_8, hp_9, hp_10⟩ := Hand.Cz.c11 BP7.out
 obtain ⟨hpf_0, hpf_1, hpf_2, hpf_3, hpf_4, hpf_5, hpf_6, hpf_7, hpf_8, hpf_9, hpf_10⟩ := Hand.Cz.f11 BP7.out
 go_wp2_with fail
 refine (winnowlaw05_alive.rest8 w2 _ g gp d2 false (.int .u64 tr) (.int .u64 0) (.int .u64 0) (.int .u64 0) (.int .u64 0) (.int .i64 0) (.bool false) (.slice none 0 0) (.slice none 0 0) (.slice none 0 0) (winnowlaw05_alive.St_far HST7.out HGP.out HNP.out.symm 1 _) ((blk_set BP7.out 1 (.int .u64 tr)).trans rfl) HGP.out HNP.out o3 [] false v H3.out HV.out hv0 hv1).mono ?_
 rintro e w8 ⟨rfl, hst, hp8, hkq⟩
 have BP8 := Aside0.mk hp8; have B28 := Aside0.mk (hkq g2 _ _ HNE.out HNP2.out.symm (blk_far B27.out (p := ⟨gp, 1, none⟩) HNP2.out.symm _))
 obtain ⟨hB8, hg8, A8, c8, hg8b, _, _⟩ := hst
 have HB8 := Aside0.mk hB8
 obtain ⟨hgz_0, hgz_1⟩ := Hand.Cz.c2 hg8b
 clear hg8b hB8 hg8 hp8 hkq hp_0 hpf_0 hp_1 hpf_1 hp_2 hpf_2 hp_3 hpf_3 hp_4 hpf_4 hp_5 hpf_5 hp_6 hpf_6 hp_7 hpf_7 hp_8 hpf_8 hp_9 hpf_9 hp_10 hpf_10
 obtain ⟨hp_0, hp_1, hp_2, hp_3, hp_4, hp_5, hp_6, hp_7, hp_8, hp_9, hp_10⟩ := Hand.Cz.c11 BP8.out
 go_wp2_with (go_at_call 13; refine (message_Right.calls 8 tr 0 0 0 0 v false none 0 [] none 0 [] none 0 [] 0 _ (Kd.C_nil _ _) (Nat.le_refl _) (Kd.C_nil _ _) (Nat.le_refl _) (Kd.C_nil _ _) (Nat.le_refl _) HR.out).mono ?_; rintro e w9 ⟨rfl, hb⟩; have BP9 := Aside0.mk (blk_below BP8.out hb); have B29 := Aside0.mk (blk_below B28.out hb); have HB9 := Aside0.mk (below_step HB8.out hb); clear hb; clear hp_0 hp_1 hp_2 hp_3 hp_4 hp_5 hp_6 hp_7 hp_8 hp_9 hp_10; obtain ⟨hp_0, hp_1, hp_2, hp_3, hp_4, hp_5, hp_6, hp_7, hp_8, hp_9, hp_10⟩ := Hand.Cz.c11 BP9.out; obtain ⟨hs_0, hs_1, hs_2, hs_3, hs_4, hs_5, hs_6, hs_7, hs_8, hs_9, hs_10⟩ := Hand.Cz.c11 B29.out; obtain ⟨hsf_0, hsf_1, hsf_2, hsf_3, hsf_4, hsf_5, hsf_6, hsf_7, hsf_8, hsf_9, hsf_10⟩ := Hand.Cz.f11 B29.out)
 refine bodyPost_ret (results_ct rfl _ _ g2 30 #[.int .i64 8, .int .u64 tr, .int .u64 0, .int .u64 0, .int .u64 0, .int .u64 0, .int .i64 v, .bool false, .slice none 0 0, .slice none 0 0, .slice none 0 0] (0, 0) _ rfl (Hand.Cz.p11 B29.out) Try.underlying30 rfl (by kernel_rfl)) rfl ?_
 exact ⟨rfl, Hand.Cz.b11 (below_step HB2.out HB9.out) HG2.out⟩

def winnowlaw05_alive.T25_5 : Bool × List (List Nat × List Nat) := (true, [([], []), ([0], [0]), ([], []), ([2], [2]), ([3], [3]), ([1, 0, 1], [1]), ([4, 5, 0, 1, 2, 3, 4, 5], [4])])
def winnowlaw05_alive.B25_5 : List Nat := [0, 1, 0, 4, 12, 3, 63]
theorem winnowlaw05_alive.tab25_5 : rtab .any (opsOf Try.f25 5) = winnowlaw05_alive.T25_5 := by kernel_rfl
theorem winnowlaw05_alive.bits25_5 : waitsOk winnowlaw05_alive.T25_5.2 winnowlaw05_alive.B25_5 = true := by kernel_rfl
set_option maxHeartbeats 8000000 in
set_option maxRecDepth 100000 in
theorem winnowlaw05_alive.trace8 (tr v : Int) (w : World) :
  Calls Try.prog 25 #[.iface 63 (.agg #[.int .u64 tr, .int .i64 v])] w fun e w' => e = .returned (.tuple #[.int .u64 tr, .bool true]) ∧ Below w.heap.size w w' := by
 have hu30 := Try.underlying30; have hu24 := Try.underlying24; have hu51 := Try.underlying51; have hu54 := Try.underlying54; have hu57 := Try.underlying57; have hu60 := Try.underlying60; have hu63 := Try.underlying63; have hu66 := Try.underlying66; have hu69 := Try.underlying69; have ta54 := message_Right.ta63_54 (.agg #[.int .u64 tr, .int .i64 v])
 go_enter Try.func25, Try.ntmps25
 go_wp2_with fail
 refine (message_Right.packet63 tr v _).mono ?_
 rintro e w2 ⟨rfl, hb⟩
 have HB2 := Aside0.mk (show Below w.heap.size w w2 from below_step (by repeat (first | exact Below.refl _ _ | (with_reducible apply below_alloc))) hb); clear hb
 go_upto_region 5 with ((with_reducible refine gate_dst (N := 6) rfl ?_); refine box_event ?hg (N := 6) ?hd (cs := #[.int .i64 0, .int .u64 0, .int .u64 0, .int .u64 0, .int .u64 0, .int .u64 0, .int .i64 0, .bool false, .slice none 0 0, .slice none 0 0, .slice none 0 0]) (t := 30) ?hr ?_; (case hd => rfl); (case hg => rfl); (case hr => (go_simp; done)); intro g hg w3 hbox hb; have HGE := Aside0.mk (show w.heap.size ≤ g from by rw [hg]; exact HB2.out.size); have HB3 := Aside0.mk (below_step HB2.out hb); have BK3 := Aside0.mk hbox; clear hg hbox hb; obtain ⟨hp_0, hp_1, hp_2, hp_3, hp_4, hp_5, hp_6, hp_7, hp_8, hp_9, hp_10⟩ := Hand.Cz.c11 BK3.out; obtain ⟨hf_0, hf_1, hf_2, hf_3, hf_4, hf_5, hf_6, hf_7, hf_8, hf_9, hf_10⟩ := Hand.Cz.f11 BK3.out)
 generalize hW4 : World.setCell _ (Addr.mk g 10 none) _ = w4
 have BK4 := Aside0.mk (show w4.heap[g]? = some (.cells #[.int .i64 8, .int .u64 tr, .int .u64 0, .int .u64 0, .int .u64 0, .int .u64 0, .int .i64 v, .bool false, .slice none 0 0, .slice none 0 0, .slice none 0 0] 30 (0, 0)) from by rw [← hW4]; exact Hand.Cz.p11 BK3.out)
 have HB4 := Aside0.mk (show Below w.heap.size w w4 from by rw [← hW4]; exact Hand.Cz.b11 HB3.out HGE.out)
 clear hW4 hp_0 hf_0 hp_1 hf_1 hp_2 hf_2 hp_3 hf_3 hp_4 hf_4 hp_5 hf_5 hp_6 hf_6 hp_7 hf_7 hp_8 hf_8 hp_9 hf_9 hp_10 hf_10
 refine start_ (n := 7) (S := fun w' => w'.heap[g]? = some (.cells #[.int .i64 8, .int .u64 tr, .int .u64 0, .int .u64 0, .int .u64 0, .int .u64 0, .int .i64 v, .bool false, .slice none 0 0, .slice none 0 0, .slice none 0 0] 30 (0, 0)) ∧ Below w.heap.size w w') (ds := []) #[false, false, false, false, false, false, false] (by kernel_rfl) rfl rfl ⟨blk_drew BK4.out, below_drew1 HB4.out⟩ (fun hHeld => ?_)
 refine with_tabW winnowlaw05_alive.tab25_5 winnowlaw05_alive.bits25_5 (fun HT_ HW_ => ?_)
 generalize w4.drew = wd at hHeld ⊢
 refine pure_ (i := 0) (N := some 15) (v := ?_) (a' := ?_) #[true, false, false, false, false, false, false] rfl rfl (any_of HT_.out (by kernel_rfl)) (fun _ _ _ h => h) (Or.inl ⟨by rfl, ?_⟩) ?_ ?_
 rotate_left
 ·intro w'; go_simp; with_reducible rfl
 rotate_left
 ·simp only [Act.put, List.setIfInBounds_toArray, List.set_cons_zero, List.set_cons_succ, i64_w, i32_w]; rfl
 refine take_ (i := 1) (N := some 16) (v := ?_) (a' := ?_) #[true, true, false, false, false, false, false] rfl rfl (take_ofW HT_.out HW_.out (by kernel_rfl)) (fun _ _ _ h => h) (Or.inl ⟨by rfl, ?_⟩) hHeld ?_ ?_
 rotate_left
 ·rintro w' ⟨E, I⟩
  have z1 : w'.cell? ⟨g, 1, none⟩ = some (.int .u64 tr) := (blk_cell E 1).trans rfl
  go_simp
  with_reducible rfl
 rotate_left
 ·simp only [Act.put, List.setIfInBounds_toArray, List.set_cons_zero, List.set_cons_succ, i64_w, i32_w]; rfl
 refine pure_ (i := 2) (N := some 17) (v := ?_) (a' := ?_) #[true, true, true, false, false, false, false] rfl rfl (any_of HT_.out (by kernel_rfl)) (fun _ _ _ h => h) (Or.inl ⟨by rfl, ?_⟩) ?_ ?_
 rotate_left
 ·intro w'; go_simp; with_reducible rfl
 rotate_left
 ·simp only [Act.put, List.setIfInBounds_toArray, List.set_cons_zero, List.set_cons_succ, i64_w, i32_w]; rfl
 refine take_ (i := 3) (N := some 18) (v := ?_) (a' := ?_) #[true, true, true, true, false, false, false] rfl rfl (take_ofW HT_.out HW_.out (by kernel_rfl)) (fun _ _ _ h => h) (Or.inl ⟨by rfl, ?_⟩) hHeld ?_ ?_
 rotate_left
 ·rintro w' ⟨E, I⟩
  have z0 : w'.cell? ⟨g, 0, none⟩ = some (.int .i64 8) := (blk_cell E 0).trans rfl
  go_simp
  with_reducible rfl
 rotate_left
 ·simp only [Act.put, List.setIfInBounds_toArray, List.set_cons_zero, List.set_cons_succ, i64_w, i32_w]; rfl
 refine pure_ (i := 4) (N := some 19) (v := ?_) (a' := ?_) #[true, true, true, true, true, false, false] rfl rfl (any_of HT_.out (by kernel_rfl)) (fun _ _ _ h => h) (Or.inl ⟨by rfl, ?_⟩) ?_ ?_
 rotate_left
 ·intro w'; go_simp; with_reducible rfl
 rotate_left
 ·simp only [Act.put, List.setIfInBounds_toArray, List.set_cons_zero, List.set_cons_succ, i64_w, i32_w]; rfl
 refine pure_ (i := 5) (N := some 2) (v := ?_) (a' := ?_) #[true, true, true, true, true, true, false] rfl rfl (any_of HT_.out (by kernel_rfl)) (fun _ _ _ h => h) (Or.inl ⟨by rfl, ?_⟩) ?_ ?_
 rotate_left
 ·intro w'; go_simp; with_reducible rfl
 rotate_left
 ·simp only [Act.put, List.setIfInBounds_toArray, List.set_cons_zero, List.set_cons_succ, i64_w, i32_w]; rfl
 refine pure_ (i := 6) (N := some 3) (v := ?_) (a' := ?_) #[true, true, true, true, true, true, true] rfl rfl (any_of HT_.out (by kernel_rfl)) (fun _ _ _ h => h) (Or.inl ⟨by rfl, ?_⟩) ?_ ?_
 rotate_left
 ·intro w'; go_simp; with_reducible rfl
 rotate_left
 ·simp only [Act.put, List.setIfInBounds_toArray, List.set_cons_zero, List.set_cons_succ, i64_w, i32_w]; rfl
 refine done_ (done_of HT_.out (by kernel_rfl)) ?_
 go_wp2
 go_ret2
 exact ⟨rfl, hHeld.2⟩

theorem winnowlaw05_alive.v1 : frame_Put.f 100000 [] ([8, 0, 0, 0, 0, 0, 0, 0, 5] ++ [(1 : Int) % 256]) = some ([10, 0, 0, 0, 8, 0, 0, 0, 0, 0, 0, 0, 5, 1, 123, 39, 43, 26], 0) := by kernel_rfl
theorem winnowlaw05_alive.v2 : winnowlaw05_alive.nums [8] [5] = some [8, 0, 0, 0, 0, 0, 0, 0, 5] := by kernel_rfl
theorem winnowlaw05_alive.v3 : frame_Cut.f 100000 [10, 0, 0, 0, 8, 0, 0, 0, 0, 0, 0, 0, 5, 1, 123, 39, 43, 26] = some ([8, 0, 0, 0, 0, 0, 0, 0, 5, 1], [], 0) := by kernel_rfl
theorem winnowlaw05_alive.v4 : message_Right.f 8 5 0 0 0 0 1 false [] [] [] = some 0 := by kernel_rfl
theorem winnowlaw05_alive.v5 : winnowref05_Same.f 1000 8 5 0 0 0 0 1 false [] [] [] 8 5 0 0 0 0 1 false [] [] [] = some true := by kernel_rfl
theorem winnowlaw05_alive.v6 : winnowlaw05_alive.nm [0, 0, 0, 0, 0, 0, 0, 5, 1] false = some (5, [1], false) := by kernel_rfl
theorem winnowlaw05_alive.v7 : winnowlaw05_tell.f = some (8, 5, 0, 0, 0, 0, 1, false, [], [], []) := by kernel_rfl

set_option maxHeartbeats 8000000 in
set_option maxRecDepth 100000 in
theorem winnowlaw05_alive.of8 (A8 : Option Addr) (c8 : Nat) (A9 : Option Addr) (c9 : Nat) (A10 : Option Addr) (c10 : Nat) (w : World) (h8 : Kd.C k76 w A8 0 []) (h9 : Kd.C k92 w A9 0 []) (h10 : Kd.C (Kd.int .u64) w A10 0 []) :
  Calls Try.prog 23 #[.agg #[.int .i64 8, .int .u64 5, .int .u64 0, .int .u64 0, .int .u64 0, .int .u64 0, .int .i64 1, .bool false, .slice A8 0 c8, .slice A9 0 c9, .slice A10 0 c10]] w fun e w' => ∃ m, e = .returned (.tuple #[m, .int .i64 0]) ∧ (m = .iface 63 (.agg #[.int .u64 5, .int .i64 1])) ∧ Below w.heap.size w w' :=
 winnowlaw05_alive.of_ok 8 5 0 0 0 0 1 false A8 c8 [] A9 c9 [] A10 c10 [] w (fun _ m => m = .iface 63 (.agg #[.int .u64 5, .int .i64 1]))
  (fun W hB => message_Right.calls 8 5 0 0 0 0 1 false A8 c8 [] A9 c9 [] A10 c10 [] 0 W (Kd.C_below h8 hB) (Nat.zero_le _) (Kd.C_below h9 hB) (Nat.zero_le _) (Kd.C_below h10 hB) (Nat.zero_le _) winnowlaw05_alive.v4)
  (fun W hB => (message_Right.thing8 5 0 0 0 0 1 false A8 c8 [] A9 c9 [] A10 c10 [] W).mono fun e w' ⟨he, hb⟩ => ⟨_, he, rfl, hb⟩)

set_option maxHeartbeats 8000000 in
set_option maxRecDepth 100000 in
theorem winnowlaw05_alive.enc8_ (A8 : Option Addr) (c8 : Nat) (A9 : Option Addr) (c9 : Nat) (A10 : Option Addr) (c10 : Nat) (w : World) (h8 : Kd.C k76 w A8 0 []) (h9 : Kd.C k92 w A9 0 []) (h10 : Kd.C (Kd.int .u64) w A10 0 []) :
  Calls Try.prog 16 #[.agg #[.int .i64 8, .int .u64 5, .int .u64 0, .int .u64 0, .int .u64 0, .int .u64 0, .int .i64 1, .bool false, .slice A8 0 c8, .slice A9 0 c9, .slice A10 0 c10]] w fun e w' => ∃ v0_ : Value, e = .returned (.tuple #[v0_, .int .i64 0]) ∧ Kd.R (Kd.int .u8) 5 w' w.heap.size (fun _ => True) v0_ [10, 0, 0, 0, 8, 0, 0, 0, 0, 0, 0, 0, 5, 1, 123, 39, 43, 26] ∧ Below w.heap.size w w' :=
 winnowlaw05_alive.enc8 5 0 0 0 0 1 false A8 c8 [] A9 c9 [] A10 c10 [] w _ _ _ (fun W hB => winnowlaw05_alive.of8 A8 c8 A9 c9 A10 c10 W (Kd.C_below h8 hB) (Kd.C_below h9 hB) (Kd.C_below h10 hB)) winnowlaw05_alive.v2 (by decide) winnowlaw05_alive.v1

set_option maxHeartbeats 8000000 in
set_option maxRecDepth 100000 in
theorem winnowlaw05_alive.dec8_ (A0 : Option Addr) (c0 : Nat) (w : World) (hr0 : Kd.C (Kd.int .u8) w A0 18 [10, 0, 0, 0, 8, 0, 0, 0, 0, 0, 0, 0, 5, 1, 123, 39, 43, 26]) (hc0 : 18 ≤ c0) :
  Calls Try.prog 19 #[.slice A0 18 c0] w fun e w' => e = .returned (.tuple #[.agg #[.int .i64 8, .int .u64 5, .int .u64 0, .int .u64 0, .int .u64 0, .int .u64 0, .int .i64 1, .bool false, .slice none 0 0, .slice none 0 0, .slice none 0 0], .int .i64 0]) ∧ Below w.heap.size w w' :=
 winnowlaw05_alive.dec8 A0 c0 [10, 0, 0, 0, 8, 0, 0, 0, 0, 0, 0, 0, 5, 1, 123, 39, 43, 26] w hr0 hc0 100000 _ winnowlaw05_alive.v3 [8] [0, 0, 0, 0, 0, 0, 0, 5, 1] rfl rfl 5 [1] winnowlaw05_alive.v6 [1] 1 rfl rfl (by decide) (by decide) winnowlaw05_alive.v4

theorem winnowlaw05_alive.same8 (A8 : Option Addr) (c8 : Nat) (A9 : Option Addr) (c9 : Nat) (A10 : Option Addr) (c10 : Nat) (w : World) (h8 : Kd.C k76 w A8 0 []) (h9 : Kd.C k92 w A9 0 []) (h10 : Kd.C (Kd.int .u64) w A10 0 []) :
  Calls Try.prog 21 #[.agg #[.int .i64 8, .int .u64 5, .int .u64 0, .int .u64 0, .int .u64 0, .int .u64 0, .int .i64 1, .bool false, .slice none 0 0, .slice none 0 0, .slice none 0 0], .agg #[.int .i64 8, .int .u64 5, .int .u64 0, .int .u64 0, .int .u64 0, .int .u64 0, .int .i64 1, .bool false, .slice A8 0 c8, .slice A9 0 c9, .slice A10 0 c10]] w fun e w' => e = .returned (.bool true) ∧ Below w.heap.size w w' :=
 winnowref05_Same.calls 1000 8 5 0 0 0 0 1 false none 0 [] none 0 [] none 0 [] 8 5 0 0 0 0 1 false A8 c8 [] A9 c9 [] A10 c10 [] true w (Kd.C_nil _ _) (Nat.le_refl _) (Kd.C_nil _ _) (Nat.le_refl _) (Kd.C_nil _ _) (Nat.le_refl _) h8 (Nat.zero_le _) h9 (Nat.zero_le _) h10 (Nat.zero_le _) winnowlaw05_alive.v5

def winnowlaw05_alive.T15_5 : Bool × List (List Nat × List Nat) := (true, [([], []), ([0], [0]), ([1], [1]), ([2], [2]), ([3, 2], [2, 3]), ([2, 4], [2, 4]), ([5, 2], [5]), ([6], [6]), ([7, 6], [6, 7]), ([6, 8], [6, 8]), ([9, 6], [9]), ([10], [10]), ([11, 10], [10, 11]), ([12, 10], [10, 12]), ([10, 13], [10, 13]), ([14, 10], [14]), ([15], [15]), ([16, 15], [15, 16]), ([17, 15], [15, 17]), ([18, 15], [15, 18]), ([15, 19], [15, 19]), ([20, 15], [20]), ([21], [21]), ([22, 21], [21, 22]), ([23, 21], [21, 23]), ([24, 21], [21, 24]), ([21, 25], [21, 25]), ([26, 21], [26]), ([27], [27]), ([27, 27], [27]), ([28, 29, 29, 27], [27, 28, 29]), ([27, 30], [27, 30]), ([31, 30], [31]), ([32], [32]), ([33, 32], [32, 33]), ([32, 34], [32, 34]), ([35, 32], [35]), ([36], [36]), ([36, 37], [36, 37]), ([38, 36, 0, 1, 2, 3, 4, 5, 6, 7, 8, 9, 10, 11, 12, 13, 14, 15, 16, 17, 18, 19, 20, 21, 22, 23, 24, 25, 26, 27, 28, 29, 30, 31, 32, 33, 34, 35, 36, 37, 38], [38])])
def winnowlaw05_alive.B15_5 : List Nat := [0, 1, 3, 7, 15, 31, 63, 127, 255, 511, 1023, 2047, 4095, 8191, 16383, 32767, 65535, 131071, 262143, 524287, 1048575, 2097151, 4194303, 8388607, 16777215, 33554431, 67108863, 134217727, 268435455, 268435455, 1073741823, 2147483647, 4294967295, 8589934591, 17179869183, 34359738367, 68719476735, 137438953471, 274877906943, 549755813887]
theorem winnowlaw05_alive.tab15_5 : rtab .any (opsOf Try.f15 5) = winnowlaw05_alive.T15_5 := by kernel_rfl
theorem winnowlaw05_alive.bits15_5 : waitsOk winnowlaw05_alive.T15_5.2 winnowlaw05_alive.B15_5 = true := by kernel_rfl
def winnowlaw05_alive.f : Option Bool := some true
set_option maxHeartbeats 8000000 in
set_option maxRecDepth 100000 in
theorem winnowlaw05_alive.calls (r : Bool) (w : World) (h : winnowlaw05_alive.f = some r) :
  Calls Try.prog 15 #[] w fun e w' => e = .returned (.bool r) ∧ Below w.heap.size w w' := by
 obtain rfl : true = r := Option.some.inj h
 have hu30 := Try.underlying30; have hu24 := Try.underlying24; have hu51 := Try.underlying51; have hu54 := Try.underlying54; have hu57 := Try.underlying57; have hu60 := Try.underlying60; have hu63 := Try.underlying63; have hu66 := Try.underlying66; have hu69 := Try.underlying69
 go_enter Try.func15, Try.ntmps15
 go_wp2_with fail
 refine (winnowlaw05_tell.calls _ _ _ _ _ _ _ _ _ _ _ _ winnowlaw05_alive.v7).mono ?_
 rintro e w1 ⟨v8, v9, v10, rfl, h8r, h9r, h10r, hb⟩
 obtain ⟨A8a, c8a, rfl, _, h8a⟩ := Kd.R_reads h8r
 obtain ⟨A9a, c9a, rfl, _, h9a⟩ := Kd.R_reads h9r
 obtain ⟨A10a, c10a, rfl, _, h10a⟩ := Kd.R_reads h10r
 have H8a := Aside0.mk h8a; have H9a := Aside0.mk h9a; have H10a := Aside0.mk h10a; have HB1 := Aside0.mk hb; clear hb h8r h9r h10r h8a h9a h10a
 go_wp2_with fail
 refine (winnowlaw05_alive.enc8_ A8a c8a A9a c9a A10a c10a _ H8a.out H9a.out H10a.out).mono ?_
 rintro e w2 ⟨vb, rfl, hR, hb⟩
 obtain ⟨Ab, cb, rfl, hle, hC⟩ := Kd.R_reads hR
 have HB2 := Aside0.mk (below_step HB1.out hb); have HCb := Aside0.mk (show Kd.C (Kd.int .u8) w2 Ab 18 [10, 0, 0, 0, 8, 0, 0, 0, 0, 0, 0, 0, 5, 1, 123, 39, 43, 26] from hC); have HLE := Aside0.mk (show 18 ≤ cb from hle); clear hR hb hle hC H8a H9a H10a
 go_wp2_with fail
 refine (winnowlaw05_alive.dec8_ Ab cb _ HCb.out HLE.out).mono ?_
 rintro e w3 ⟨rfl, hb⟩
 have HB3 := Aside0.mk (below_step HB2.out hb); have HCb3 := Aside0.mk (Kd.C_below HCb.out hb); clear hb HCb
 go_upto_region 3 with ((with_reducible refine gate_dst (N := 3) rfl ?_); refine box_event ?hg (N := 3) ?hd (cs := #[.int .i64 0, .int .u64 0, .int .u64 0, .int .u64 0, .int .u64 0, .int .u64 0, .int .i64 0, .bool false, .slice none 0 0, .slice none 0 0, .slice none 0 0]) (t := 30) ?hr ?_; (case hd => rfl); (case hg => rfl); (case hr => (go_simp; done)); intro g hg w4 hbox hb; have HGE := Aside0.mk (show w.heap.size ≤ g from by rw [hg]; exact HB3.out.size); have HB4 := Aside0.mk (below_step HB3.out hb); have HB34 := Aside0.mk hb; have HNB := Aside0.mk (show w3.heap.size ≤ g from Nat.le_of_eq hg.symm); have BK4 := Aside0.mk hbox; clear hg hbox hb; obtain ⟨hp_0, hp_1, hp_2, hp_3, hp_4, hp_5, hp_6, hp_7, hp_8, hp_9, hp_10⟩ := Hand.Cz.c11 BK4.out; obtain ⟨hf_0, hf_1, hf_2, hf_3, hf_4, hf_5, hf_6, hf_7, hf_8, hf_9, hf_10⟩ := Hand.Cz.f11 BK4.out)
 generalize hW5 : World.setCell _ (Addr.mk g 10 none) _ = w5
 have BK5 := Aside0.mk (show w5.heap[g]? = some (.cells #[.int .i64 8, .int .u64 5, .int .u64 0, .int .u64 0, .int .u64 0, .int .u64 0, .int .i64 1, .bool false, .slice none 0 0, .slice none 0 0, .slice none 0 0] 30 (0, 0)) from by rw [← hW5]; exact Hand.Cz.p11 BK4.out)
 have HB5 := Aside0.mk (show Below w.heap.size w w5 from by rw [← hW5]; exact Hand.Cz.b11 HB4.out HGE.out)
 have HB35 := Aside0.mk (show Below w3.heap.size w3 w5 from by rw [← hW5]; exact Hand.Cz.b11 HB34.out HNB.out)
 have HCb5 := Aside0.mk (Kd.C_below HCb3.out HB35.out); clear hW5 HB34 HB35 hp_0 hf_0 hp_1 hf_1 hp_2 hf_2 hp_3 hf_3 hp_4 hf_4 hp_5 hf_5 hp_6 hf_6 hp_7 hf_7 hp_8 hf_8 hp_9 hf_9 hp_10 hf_10
 go_wp2_with fail
 refine (winnowlaw05_tell.calls _ _ _ _ _ _ _ _ _ _ _ _ winnowlaw05_alive.v7).mono ?_
 rintro e w6 ⟨v8, v9, v10, rfl, h8r, h9r, h10r, hb⟩
 obtain ⟨A8b, c8b, rfl, _, h8b⟩ := Kd.R_reads h8r
 obtain ⟨A9b, c9b, rfl, _, h9b⟩ := Kd.R_reads h9r
 obtain ⟨A10b, c10b, rfl, _, h10b⟩ := Kd.R_reads h10r
 have H8b := Aside0.mk h8b; have H9b := Aside0.mk h9b; have H10b := Aside0.mk h10b; have HB6 := Aside0.mk (below_step HB5.out hb); have BK6 := Aside0.mk (blk_below BK5.out hb); have HCb6 := Aside0.mk (Kd.C_below HCb5.out hb); clear hb h8r h9r h10r h8b h9b h10b
 go_wp2_with fail
 refine (winnowlaw05_alive.of8 A8b c8b A9b c9b A10b c10b _ H8b.out H9b.out H10b.out).mono ?_
 rintro e w7 ⟨m, rfl, rfl, hb⟩
 have HB7 := Aside0.mk (below_step HB6.out hb); have BK7 := Aside0.mk (blk_below BK6.out hb); have HCb7 := Aside0.mk (Kd.C_below HCb6.out hb); clear hb H8b H9b H10b
 go_wp2_with fail
 refine (winnowlaw05_alive.trace8 5 1 _).mono ?_
 rintro e w8 ⟨rfl, hb⟩
 have HB8 := Aside0.mk (below_step HB7.out hb); have BK8 := Aside0.mk (blk_below BK7.out hb); have HCb8 := Aside0.mk (Kd.C_below HCb7.out hb); clear hb HB1 HB2 HB3 HB4 HB5 HB6 HB7 BK4 BK5 BK6 BK7 HCb3 HCb5 HCb6 HCb7 HNB
 go_wp2_with fail
 obtain ⟨ad, rfl, _⟩ := Kd.at_int HCb8.out 4 (by decide) (by decide)
 refine start_ (n := 40) (S := fun w' => Kd.C (Kd.int .u8) w' (some ad) 18 [10, 0, 0, 0, 8, 0, 0, 0, 0, 0, 0, 0, 5, 1, 123, 39, 43, 26] ∧ w'.heap[g]? = some (.cells #[.int .i64 8, .int .u64 5, .int .u64 0, .int .u64 0, .int .u64 0, .int .u64 0, .int .i64 1, .bool false, .slice none 0 0, .slice none 0 0, .slice none 0 0] 30 (0, 0)) ∧ Below w.heap.size w w') (ds := []) #[false, false, false, false, false, false, false, false, false, false, false, false, false, false, false, false, false, false, false, false, false, false, false, false, false, false, false, false, false, false, false, false, false, false, false, false, false, false, false, false] (by kernel_rfl) rfl rfl ⟨Kd.C_drew HCb8.out, blk_drew BK8.out, below_drew1 HB8.out⟩ (fun hHeld => ?_)
 refine with_tabW winnowlaw05_alive.tab15_5 winnowlaw05_alive.bits15_5 (fun HT_ HW_ => ?_)
 generalize w8.drew = wd at hHeld ⊢
 refine pure_ (i := 0) (N := some 29) (v := ?_) (a' := ?_) #[true, false, false, false, false, false, false, false, false, false, false, false, false, false, false, false, false, false, false, false, false, false, false, false, false, false, false, false, false, false, false, false, false, false, false, false, false, false, false, false] rfl rfl (any_of HT_.out (by kernel_rfl)) (fun _ _ _ h => h) (Or.inl ⟨by rfl, ?_⟩) ?_ ?_
 rotate_left
 ·intro w'; go_simp; with_reducible rfl
 rotate_left
 ·simp only [Act.put, List.setIfInBounds_toArray, List.set_cons_zero, List.set_cons_succ, i64_w, i32_w]; rfl
 refine pure_ (i := 1) (N := some 30) (v := ?_) (a' := ?_) #[true, true, false, false, false, false, false, false, false, false, false, false, false, false, false, false, false, false, false, false, false, false, false, false, false, false, false, false, false, false, false, false, false, false, false, false, false, false, false, false] rfl rfl (any_of HT_.out (by kernel_rfl)) (fun _ _ _ h => h) (Or.inl ⟨by rfl, ?_⟩) ?_ ?_
 rotate_left
 ·intro w'; go_simp; with_reducible rfl
 rotate_left
 ·simp only [Act.put, List.setIfInBounds_toArray, List.set_cons_zero, List.set_cons_succ, i64_w, i32_w]; rfl
 refine pure_ (i := 2) (N := some 31) (v := ?_) (a' := ?_) #[true, true, true, false, false, false, false, false, false, false, false, false, false, false, false, false, false, false, false, false, false, false, false, false, false, false, false, false, false, false, false, false, false, false, false, false, false, false, false, false] rfl rfl (any_of HT_.out (by kernel_rfl)) (fun _ _ _ h => h) (Or.inl ⟨by rfl, ?_⟩) ?_ ?_
 rotate_left
 ·intro w'; go_simp; with_reducible rfl
 rotate_left
 ·simp only [Act.put, List.setIfInBounds_toArray, List.set_cons_zero, List.set_cons_succ, i64_w, i32_w]; rfl
 refine pure_ (i := 3) (N := some 32) (v := ?_) (a' := ?_) #[true, true, true, true, false, false, false, false, false, false, false, false, false, false, false, false, false, false, false, false, false, false, false, false, false, false, false, false, false, false, false, false, false, false, false, false, false, false, false, false] rfl rfl (any_of HT_.out (by kernel_rfl)) (fun _ _ _ h => h) (Or.inl ⟨by rfl, ?_⟩) ?_ ?_
 rotate_left
 ·intro w'; go_simp; with_reducible rfl
 rotate_left
 ·simp only [Act.put, List.setIfInBounds_toArray, List.set_cons_zero, List.set_cons_succ, i64_w, i32_w]; rfl
 refine pure_ (i := 4) (N := some 33) (v := ?_) (a' := ?_) #[true, true, true, true, true, false, false, false, false, false, false, false, false, false, false, false, false, false, false, false, false, false, false, false, false, false, false, false, false, false, false, false, false, false, false, false, false, false, false, false] rfl rfl (any_of HT_.out (by kernel_rfl)) (fun _ _ _ h => h) (Or.inl ⟨by rfl, ?_⟩) ?_ ?_
 rotate_left
 ·intro w'; go_simp; with_reducible rfl
 rotate_left
 ·simp only [Act.put, List.setIfInBounds_toArray, List.set_cons_zero, List.set_cons_succ, i64_w, i32_w]; rfl
 refine pure_ (i := 5) (N := some 34) (v := ?_) (a' := ?_) #[true, true, true, true, true, true, false, false, false, false, false, false, false, false, false, false, false, false, false, false, false, false, false, false, false, false, false, false, false, false, false, false, false, false, false, false, false, false, false, false] rfl rfl (any_of HT_.out (by kernel_rfl)) (fun _ _ _ h => h) (Or.inl ⟨by rfl, ?_⟩) ?_ ?_
 rotate_left
 ·intro w'; go_simp; with_reducible rfl
 rotate_left
 ·simp only [Act.put, List.setIfInBounds_toArray, List.set_cons_zero, List.set_cons_succ, i64_w, i32_w]; rfl
 refine pure_ (i := 6) (N := some 35) (v := ?_) (a' := ?_) #[true, true, true, true, true, true, true, false, false, false, false, false, false, false, false, false, false, false, false, false, false, false, false, false, false, false, false, false, false, false, false, false, false, false, false, false, false, false, false, false] rfl rfl (any_of HT_.out (by kernel_rfl)) (fun _ _ _ h => h) (Or.inl ⟨by rfl, ?_⟩) ?_ ?_
 rotate_left
 ·intro w'; go_simp; with_reducible rfl
 rotate_left
 ·simp only [Act.put, List.setIfInBounds_toArray, List.set_cons_zero, List.set_cons_succ, i64_w, i32_w]; rfl
 refine pure_ (i := 7) (N := some 36) (v := ?_) (a' := ?_) #[true, true, true, true, true, true, true, true, false, false, false, false, false, false, false, false, false, false, false, false, false, false, false, false, false, false, false, false, false, false, false, false, false, false, false, false, false, false, false, false] rfl rfl (any_of HT_.out (by kernel_rfl)) (fun _ _ _ h => h) (Or.inl ⟨by rfl, ?_⟩) ?_ ?_
 rotate_left
 ·intro w'; go_simp; with_reducible rfl
 rotate_left
 ·simp only [Act.put, List.setIfInBounds_toArray, List.set_cons_zero, List.set_cons_succ, i64_w, i32_w]; rfl
 refine pure_ (i := 8) (N := some 37) (v := ?_) (a' := ?_) #[true, true, true, true, true, true, true, true, true, false, false, false, false, false, false, false, false, false, false, false, false, false, false, false, false, false, false, false, false, false, false, false, false, false, false, false, false, false, false, false] rfl rfl (any_of HT_.out (by kernel_rfl)) (fun _ _ _ h => h) (Or.inl ⟨by rfl, ?_⟩) ?_ ?_
 rotate_left
 ·intro w'; go_simp; with_reducible rfl
 rotate_left
 ·simp only [Act.put, List.setIfInBounds_toArray, List.set_cons_zero, List.set_cons_succ, i64_w, i32_w]; rfl
 refine pure_ (i := 9) (N := some 38) (v := ?_) (a' := ?_) #[true, true, true, true, true, true, true, true, true, true, false, false, false, false, false, false, false, false, false, false, false, false, false, false, false, false, false, false, false, false, false, false, false, false, false, false, false, false, false, false] rfl rfl (any_of HT_.out (by kernel_rfl)) (fun _ _ _ h => h) (Or.inl ⟨by rfl, ?_⟩) ?_ ?_
 rotate_left
 ·intro w'; go_simp; with_reducible rfl
 rotate_left
 ·simp only [Act.put, List.setIfInBounds_toArray, List.set_cons_zero, List.set_cons_succ, i64_w, i32_w]; rfl
 refine pure_ (i := 10) (N := some 39) (v := ?_) (a' := ?_) #[true, true, true, true, true, true, true, true, true, true, true, false, false, false, false, false, false, false, false, false, false, false, false, false, false, false, false, false, false, false, false, false, false, false, false, false, false, false, false, false] rfl rfl (any_of HT_.out (by kernel_rfl)) (fun _ _ _ h => h) (Or.inl ⟨by rfl, ?_⟩) ?_ ?_
 rotate_left
 ·intro w'; go_simp; with_reducible rfl
 rotate_left
 ·simp only [Act.put, List.setIfInBounds_toArray, List.set_cons_zero, List.set_cons_succ, i64_w, i32_w]; rfl
 refine pure_ (i := 11) (N := some 40) (v := ?_) (a' := ?_) #[true, true, true, true, true, true, true, true, true, true, true, true, false, false, false, false, false, false, false, false, false, false, false, false, false, false, false, false, false, false, false, false, false, false, false, false, false, false, false, false] rfl rfl (any_of HT_.out (by kernel_rfl)) (fun _ _ _ h => h) (Or.inl ⟨by rfl, ?_⟩) ?_ ?_
 rotate_left
 ·intro w'; go_simp; with_reducible rfl
 rotate_left
 ·simp only [Act.put, List.setIfInBounds_toArray, List.set_cons_zero, List.set_cons_succ, i64_w, i32_w]; rfl
 refine pure_ (i := 12) (N := some 41) (v := ?_) (a' := ?_) #[true, true, true, true, true, true, true, true, true, true, true, true, true, false, false, false, false, false, false, false, false, false, false, false, false, false, false, false, false, false, false, false, false, false, false, false, false, false, false, false] rfl rfl (any_of HT_.out (by kernel_rfl)) (fun _ _ _ h => h) (Or.inl ⟨by rfl, ?_⟩) ?_ ?_
 rotate_left
 ·intro w'; go_simp; with_reducible rfl
 rotate_left
 ·simp only [Act.put, List.setIfInBounds_toArray, List.set_cons_zero, List.set_cons_succ, i64_w, i32_w]; rfl
 refine pure_ (i := 13) (N := some 42) (v := ?_) (a' := ?_) #[true, true, true, true, true, true, true, true, true, true, true, true, true, true, false, false, false, false, false, false, false, false, false, false, false, false, false, false, false, false, false, false, false, false, false, false, false, false, false, false] rfl rfl (any_of HT_.out (by kernel_rfl)) (fun _ _ _ h => h) (Or.inl ⟨by rfl, ?_⟩) ?_ ?_
 rotate_left
 ·intro w'; go_simp; with_reducible rfl
 rotate_left
 ·simp only [Act.put, List.setIfInBounds_toArray, List.set_cons_zero, List.set_cons_succ, i64_w, i32_w]; rfl
 refine pure_ (i := 14) (N := some 43) (v := ?_) (a' := ?_) #[true, true, true, true, true, true, true, true, true, true, true, true, true, true, true, false, false, false, false, false, false, false, false, false, false, false, false, false, false, false, false, false, false, false, false, false, false, false, false, false] rfl rfl (any_of HT_.out (by kernel_rfl)) (fun _ _ _ h => h) (Or.inl ⟨by rfl, ?_⟩) ?_ ?_
 rotate_left
 ·intro w'; go_simp; with_reducible rfl
 rotate_left
 ·simp only [Act.put, List.setIfInBounds_toArray, List.set_cons_zero, List.set_cons_succ, i64_w, i32_w]; rfl
 refine pure_ (i := 15) (N := some 44) (v := ?_) (a' := ?_) #[true, true, true, true, true, true, true, true, true, true, true, true, true, true, true, true, false, false, false, false, false, false, false, false, false, false, false, false, false, false, false, false, false, false, false, false, false, false, false, false] rfl rfl (any_of HT_.out (by kernel_rfl)) (fun _ _ _ h => h) (Or.inl ⟨by rfl, ?_⟩) ?_ ?_
 rotate_left
 ·intro w'; go_simp; with_reducible rfl
 rotate_left
 ·simp only [Act.put, List.setIfInBounds_toArray, List.set_cons_zero, List.set_cons_succ, i64_w, i32_w]; rfl
 refine pure_ (i := 16) (N := some 45) (v := ?_) (a' := ?_) #[true, true, true, true, true, true, true, true, true, true, true, true, true, true, true, true, true, false, false, false, false, false, false, false, false, false, false, false, false, false, false, false, false, false, false, false, false, false, false, false] rfl rfl (any_of HT_.out (by kernel_rfl)) (fun _ _ _ h => h) (Or.inl ⟨by rfl, ?_⟩) ?_ ?_
 rotate_left
 ·intro w'; go_simp; with_reducible rfl
 rotate_left
 ·simp only [Act.put, List.setIfInBounds_toArray, List.set_cons_zero, List.set_cons_succ, i64_w, i32_w]; rfl
 refine pure_ (i := 17) (N := some 46) (v := ?_) (a' := ?_) #[true, true, true, true, true, true, true, true, true, true, true, true, true, true, true, true, true, true, false, false, false, false, false, false, false, false, false, false, false, false, false, false, false, false, false, false, false, false, false, false] rfl rfl (any_of HT_.out (by kernel_rfl)) (fun _ _ _ h => h) (Or.inl ⟨by rfl, ?_⟩) ?_ ?_
 rotate_left
 ·intro w'; go_simp; with_reducible rfl
 rotate_left
 ·simp only [Act.put, List.setIfInBounds_toArray, List.set_cons_zero, List.set_cons_succ, i64_w, i32_w]; rfl
 refine take_ (i := 18) (N := some 47) (v := ?_) (a' := ?_) #[true, true, true, true, true, true, true, true, true, true, true, true, true, true, true, true, true, true, true, false, false, false, false, false, false, false, false, false, false, false, false, false, false, false, false, false, false, false, false, false] rfl rfl (take_ofW HT_.out HW_.out (by kernel_rfl)) (fun _ _ _ h => h) (Or.inl ⟨by rfl, ?_⟩) hHeld ?_ ?_
 rotate_left
 ·rintro w' ⟨C_, E, I⟩
  obtain ⟨ad_, he_, hx_⟩ := Kd.at_int C_ 4 (by decide) (by decide)
  cases he_
  have hz_ : w'.cell? ⟨ad.block, ad.off + 4, none⟩ = some (.int .u8 8) := hx_
  go_simp
  with_reducible rfl
 rotate_left
 ·simp only [Act.put, List.setIfInBounds_toArray, List.set_cons_zero, List.set_cons_succ, i64_w, i32_w]; rfl
 refine pure_ (i := 19) (N := some 48) (v := ?_) (a' := ?_) #[true, true, true, true, true, true, true, true, true, true, true, true, true, true, true, true, true, true, true, true, false, false, false, false, false, false, false, false, false, false, false, false, false, false, false, false, false, false, false, false] rfl rfl (any_of HT_.out (by kernel_rfl)) (fun _ _ _ h => h) (Or.inl ⟨by rfl, ?_⟩) ?_ ?_
 rotate_left
 ·intro w'; go_simp; with_reducible rfl
 rotate_left
 ·simp only [Act.put, List.setIfInBounds_toArray, List.set_cons_zero, List.set_cons_succ, i64_w, i32_w]; rfl
 refine pure_ (i := 20) (N := some 49) (v := ?_) (a' := ?_) #[true, true, true, true, true, true, true, true, true, true, true, true, true, true, true, true, true, true, true, true, true, false, false, false, false, false, false, false, false, false, false, false, false, false, false, false, false, false, false, false] rfl rfl (any_of HT_.out (by kernel_rfl)) (fun _ _ _ h => h) (Or.inl ⟨by rfl, ?_⟩) ?_ ?_
 rotate_left
 ·intro w'; go_simp; with_reducible rfl
 rotate_left
 ·simp only [Act.put, List.setIfInBounds_toArray, List.set_cons_zero, List.set_cons_succ, i64_w, i32_w]; rfl
 refine pure_ (i := 21) (N := some 50) (v := ?_) (a' := ?_) #[true, true, true, true, true, true, true, true, true, true, true, true, true, true, true, true, true, true, true, true, true, true, false, false, false, false, false, false, false, false, false, false, false, false, false, false, false, false, false, false] rfl rfl (any_of HT_.out (by kernel_rfl)) (fun _ _ _ h => h) (Or.inl ⟨by rfl, ?_⟩) ?_ ?_
 rotate_left
 ·intro w'; go_simp; with_reducible rfl
 rotate_left
 ·simp only [Act.put, List.setIfInBounds_toArray, List.set_cons_zero, List.set_cons_succ, i64_w, i32_w]; rfl
 refine pure_ (i := 22) (N := some 51) (v := ?_) (a' := ?_) #[true, true, true, true, true, true, true, true, true, true, true, true, true, true, true, true, true, true, true, true, true, true, true, false, false, false, false, false, false, false, false, false, false, false, false, false, false, false, false, false] rfl rfl (any_of HT_.out (by kernel_rfl)) (fun _ _ _ h => h) (Or.inl ⟨by rfl, ?_⟩) ?_ ?_
 rotate_left
 ·intro w'; go_simp; with_reducible rfl
 rotate_left
 ·simp only [Act.put, List.setIfInBounds_toArray, List.set_cons_zero, List.set_cons_succ, i64_w, i32_w]; rfl
 refine pure_ (i := 23) (N := some 52) (v := ?_) (a' := ?_) #[true, true, true, true, true, true, true, true, true, true, true, true, true, true, true, true, true, true, true, true, true, true, true, true, false, false, false, false, false, false, false, false, false, false, false, false, false, false, false, false] rfl rfl (any_of HT_.out (by kernel_rfl)) (fun _ _ _ h => h) (Or.inl ⟨by rfl, ?_⟩) ?_ ?_
 rotate_left
 ·intro w'; go_simp; with_reducible rfl
 rotate_left
 ·simp only [Act.put, List.setIfInBounds_toArray, List.set_cons_zero, List.set_cons_succ, i64_w, i32_w]; rfl
 refine take_ (i := 24) (N := some 53) (v := ?_) (a' := ?_) #[true, true, true, true, true, true, true, true, true, true, true, true, true, true, true, true, true, true, true, true, true, true, true, true, true, false, false, false, false, false, false, false, false, false, false, false, false, false, false, false] rfl rfl (take_ofW HT_.out HW_.out (by kernel_rfl)) (fun _ _ _ h => h) (Or.inl ⟨by rfl, ?_⟩) hHeld ?_ ?_
 rotate_left
 ·rintro w' ⟨C_, E, I⟩
  obtain ⟨ad_, he_, hx_⟩ := Kd.at_int C_ 13 (by decide) (by decide)
  cases he_
  have hz_ : w'.cell? ⟨ad.block, ad.off + 13, none⟩ = some (.int .u8 1) := hx_
  go_simp
  with_reducible rfl
 rotate_left
 ·simp only [Act.put, List.setIfInBounds_toArray, List.set_cons_zero, List.set_cons_succ, i64_w, i32_w]; rfl
 refine pure_ (i := 25) (N := some 54) (v := ?_) (a' := ?_) #[true, true, true, true, true, true, true, true, true, true, true, true, true, true, true, true, true, true, true, true, true, true, true, true, true, true, false, false, false, false, false, false, false, false, false, false, false, false, false, false] rfl rfl (any_of HT_.out (by kernel_rfl)) (fun _ _ _ h => h) (Or.inl ⟨by rfl, ?_⟩) ?_ ?_
 rotate_left
 ·intro w'; go_simp; with_reducible rfl
 rotate_left
 ·simp only [Act.put, List.setIfInBounds_toArray, List.set_cons_zero, List.set_cons_succ, i64_w, i32_w]; rfl
 refine pure_ (i := 26) (N := some 55) (v := ?_) (a' := ?_) #[true, true, true, true, true, true, true, true, true, true, true, true, true, true, true, true, true, true, true, true, true, true, true, true, true, true, true, false, false, false, false, false, false, false, false, false, false, false, false, false] rfl rfl (any_of HT_.out (by kernel_rfl)) (fun _ _ _ h => h) (Or.inl ⟨by rfl, ?_⟩) ?_ ?_
 rotate_left
 ·intro w'; go_simp; with_reducible rfl
 rotate_left
 ·simp only [Act.put, List.setIfInBounds_toArray, List.set_cons_zero, List.set_cons_succ, i64_w, i32_w]; rfl
 refine pure_ (i := 27) (N := some 56) (v := ?_) (a' := ?_) #[true, true, true, true, true, true, true, true, true, true, true, true, true, true, true, true, true, true, true, true, true, true, true, true, true, true, true, true, false, false, false, false, false, false, false, false, false, false, false, false] rfl rfl (any_of HT_.out (by kernel_rfl)) (fun _ _ _ h => h) (Or.inl ⟨by rfl, ?_⟩) ?_ ?_
 rotate_left
 ·intro w'; go_simp; with_reducible rfl
 rotate_left
 ·simp only [Act.put, List.setIfInBounds_toArray, List.set_cons_zero, List.set_cons_succ, i64_w, i32_w]; rfl
 refine take_ (i := 28) (N := some 57) (v := ?_) (a' := ?_) #[true, true, true, true, true, true, true, true, true, true, true, true, true, true, true, true, true, true, true, true, true, true, true, true, true, true, true, true, true, false, false, false, false, false, false, false, false, false, false, false] rfl rfl (take_ofW HT_.out HW_.out (by kernel_rfl)) (fun _ _ _ h => h) (Or.inl ⟨by rfl, ?_⟩) hHeld ?_ ?_
 rotate_left
 ·rintro w' ⟨C_, E, I⟩
  have z0 : w'.cell? ⟨g, 0, none⟩ = some (.int .i64 8) := (blk_cell E 0).trans rfl; have z1 : w'.cell? ⟨g, 1, none⟩ = some (.int .u64 5) := (blk_cell E 1).trans rfl; have z2 : w'.cell? ⟨g, 2, none⟩ = some (.int .u64 0) := (blk_cell E 2).trans rfl; have z3 : w'.cell? ⟨g, 3, none⟩ = some (.int .u64 0) := (blk_cell E 3).trans rfl; have z4 : w'.cell? ⟨g, 4, none⟩ = some (.int .u64 0) := (blk_cell E 4).trans rfl; have z5 : w'.cell? ⟨g, 5, none⟩ = some (.int .u64 0) := (blk_cell E 5).trans rfl; have z6 : w'.cell? ⟨g, 6, none⟩ = some (.int .i64 1) := (blk_cell E 6).trans rfl; have z7 : w'.cell? ⟨g, 7, none⟩ = some (.bool false) := (blk_cell E 7).trans rfl; have z8 : w'.cell? ⟨g, 8, none⟩ = some (.slice none 0 0) := (blk_cell E 8).trans rfl; have z9 : w'.cell? ⟨g, 9, none⟩ = some (.slice none 0 0) := (blk_cell E 9).trans rfl; have z10 : w'.cell? ⟨g, 10, none⟩ = some (.slice none 0 0) := (blk_cell E 10).trans rfl
  go_simp
  with_reducible rfl
 rotate_left
 ·simp only [Act.put, List.setIfInBounds_toArray, List.set_cons_zero, List.set_cons_succ, i64_w, i32_w]; rfl
 refine one_ (i := 29) (N := some 58) #[true, true, true, true, true, true, true, true, true, true, true, true, true, true, true, true, true, true, true, true, true, true, true, true, true, true, true, true, true, true, false, false, false, false, false, false, false, false, false, false] rfl rfl (one_of HT_.out (by kernel_rfl)) (by decide) (fun K hK => ?_)
 refine goes_ Try.func36 (by kernel_rfl) rfl #[] (by rfl) rfl rfl (by simp) ?_
 with_reducible refine (winnowlaw05_tell.calls _ _ _ _ _ _ _ _ _ _ _ _ winnowlaw05_alive.v7).mono ?_
 rintro e w9 ⟨v8, v9, v10, rfl, h8r, h9r, h10r, hb⟩
 obtain ⟨A8c, c8c, rfl, _, h8c⟩ := Kd.R_reads h8r
 obtain ⟨A9c, c9c, rfl, _, h9c⟩ := Kd.R_reads h9r
 obtain ⟨A10c, c10c, rfl, _, h10c⟩ := Kd.R_reads h10r
 refine ⟨_, rfl, ?_⟩
 have H8c := Aside0.mk h8c; have H9c := Aside0.mk h9c; have H10c := Aside0.mk h10c; clear h8r h9r h10r h8c h9c h10c
 refine hK.out _ _ ⟨Kd.C_below hHeld.1 hb, blk_below hHeld.2.1 hb, below_step hHeld.2.2 hb⟩ (fun hHeld => ?_)
 clear hK K
 refine norm_ (a' := ?_) ?_ ?_
 rotate_left
 ·show Act.put _ (some 58) _ = _; simp only [Act.put, List.setIfInBounds_toArray, List.set_cons_zero, List.set_cons_succ, i64_w, i32_w]; rfl
 refine one_ (i := 30) (N := some 59) #[true, true, true, true, true, true, true, true, true, true, true, true, true, true, true, true, true, true, true, true, true, true, true, true, true, true, true, true, true, true, true, false, false, false, false, false, false, false, false, false] rfl rfl (one_of HT_.out (by kernel_rfl)) (by decide) (fun K hK => ?_)
 refine goes_ Try.func21 (by kernel_rfl) rfl #[.agg #[.int .i64 8, .int .u64 5, .int .u64 0, .int .u64 0, .int .u64 0, .int .u64 0, .int .i64 1, .bool false, .slice none 0 0, .slice none 0 0, .slice none 0 0], .agg #[.int .i64 8, .int .u64 5, .int .u64 0, .int .u64 0, .int .u64 0, .int .u64 0, .int .i64 1, .bool false, .slice A8c 0 c8c, .slice A9c 0 c9c, .slice A10c 0 c10c]] (by rfl) rfl rfl (by (try simp only [List.map_toArray, List.map_cons, List.map_nil]); (rfl)) ?_
 with_reducible refine (winnowlaw05_alive.same8 A8c c8c A9c c9c A10c c10c _ H8c.out H9c.out H10c.out).mono ?_
 rintro e w10 ⟨rfl, hb⟩
 refine ⟨_, rfl, ?_⟩
 refine hK.out _ _ ⟨Kd.C_below hHeld.1 hb, blk_below hHeld.2.1 hb, below_step hHeld.2.2 hb⟩ (fun hHeld => ?_)
 clear hK K
 refine norm_ (a' := ?_) ?_ ?_
 rotate_left
 ·show Act.put _ (some 59) _ = _; simp only [Act.put, List.setIfInBounds_toArray, List.set_cons_zero, List.set_cons_succ, i64_w, i32_w]; rfl
 refine pure_ (i := 31) (N := some 60) (v := ?_) (a' := ?_) #[true, true, true, true, true, true, true, true, true, true, true, true, true, true, true, true, true, true, true, true, true, true, true, true, true, true, true, true, true, true, true, true, false, false, false, false, false, false, false, false] rfl rfl (any_of HT_.out (by kernel_rfl)) (fun _ _ _ h => h) (Or.inl ⟨by rfl, ?_⟩) ?_ ?_
 rotate_left
 ·intro w'; go_simp; with_reducible rfl
 rotate_left
 ·simp only [Act.put, List.setIfInBounds_toArray, List.set_cons_zero, List.set_cons_succ, i64_w, i32_w]; rfl
 refine pure_ (i := 32) (N := some 61) (v := ?_) (a' := ?_) #[true, true, true, true, true, true, true, true, true, true, true, true, true, true, true, true, true, true, true, true, true, true, true, true, true, true, true, true, true, true, true, true, true, false, false, false, false, false, false, false] rfl rfl (any_of HT_.out (by kernel_rfl)) (fun _ _ _ h => h) (Or.inl ⟨by rfl, ?_⟩) ?_ ?_
 rotate_left
 ·intro w'; go_simp; with_reducible rfl
 rotate_left
 ·simp only [Act.put, List.setIfInBounds_toArray, List.set_cons_zero, List.set_cons_succ, i64_w, i32_w]; rfl
 refine pure_ (i := 33) (N := some 62) (v := ?_) (a' := ?_) #[true, true, true, true, true, true, true, true, true, true, true, true, true, true, true, true, true, true, true, true, true, true, true, true, true, true, true, true, true, true, true, true, true, true, false, false, false, false, false, false] rfl rfl (any_of HT_.out (by kernel_rfl)) (fun _ _ _ h => h) (Or.inl ⟨by rfl, ?_⟩) ?_ ?_
 rotate_left
 ·intro w'; go_simp; with_reducible rfl
 rotate_left
 ·simp only [Act.put, List.setIfInBounds_toArray, List.set_cons_zero, List.set_cons_succ, i64_w, i32_w]; rfl
 refine pure_ (i := 34) (N := some 63) (v := ?_) (a' := ?_) #[true, true, true, true, true, true, true, true, true, true, true, true, true, true, true, true, true, true, true, true, true, true, true, true, true, true, true, true, true, true, true, true, true, true, true, false, false, false, false, false] rfl rfl (any_of HT_.out (by kernel_rfl)) (fun _ _ _ h => h) (Or.inl ⟨by rfl, ?_⟩) ?_ ?_
 rotate_left
 ·intro w'; go_simp; with_reducible rfl
 rotate_left
 ·simp only [Act.put, List.setIfInBounds_toArray, List.set_cons_zero, List.set_cons_succ, i64_w, i32_w]; rfl
 refine pure_ (i := 35) (N := some 64) (v := ?_) (a' := ?_) #[true, true, true, true, true, true, true, true, true, true, true, true, true, true, true, true, true, true, true, true, true, true, true, true, true, true, true, true, true, true, true, true, true, true, true, true, false, false, false, false] rfl rfl (any_of HT_.out (by kernel_rfl)) (fun _ _ _ h => h) (Or.inl ⟨by rfl, ?_⟩) ?_ ?_
 rotate_left
 ·intro w'; go_simp; with_reducible rfl
 rotate_left
 ·simp only [Act.put, List.setIfInBounds_toArray, List.set_cons_zero, List.set_cons_succ, i64_w, i32_w]; rfl
 refine pure_ (i := 36) (N := some 65) (v := ?_) (a' := ?_) #[true, true, true, true, true, true, true, true, true, true, true, true, true, true, true, true, true, true, true, true, true, true, true, true, true, true, true, true, true, true, true, true, true, true, true, true, true, false, false, false] rfl rfl (any_of HT_.out (by kernel_rfl)) (fun _ _ _ h => h) (Or.inl ⟨by rfl, ?_⟩) ?_ ?_
 rotate_left
 ·intro w'; go_simp; with_reducible rfl
 rotate_left
 ·simp only [Act.put, List.setIfInBounds_toArray, List.set_cons_zero, List.set_cons_succ, i64_w, i32_w]; rfl
 refine pure_ (i := 37) (N := some 66) (v := ?_) (a' := ?_) #[true, true, true, true, true, true, true, true, true, true, true, true, true, true, true, true, true, true, true, true, true, true, true, true, true, true, true, true, true, true, true, true, true, true, true, true, true, true, false, false] rfl rfl (any_of HT_.out (by kernel_rfl)) (fun _ _ _ h => h) (Or.inl ⟨by rfl, ?_⟩) ?_ ?_
 rotate_left
 ·intro w'; go_simp; with_reducible rfl
 rotate_left
 ·simp only [Act.put, List.setIfInBounds_toArray, List.set_cons_zero, List.set_cons_succ, i64_w, i32_w]; rfl
 refine pure_ (i := 38) (N := some 67) (v := ?_) (a' := ?_) #[true, true, true, true, true, true, true, true, true, true, true, true, true, true, true, true, true, true, true, true, true, true, true, true, true, true, true, true, true, true, true, true, true, true, true, true, true, true, true, false] rfl rfl (any_of HT_.out (by kernel_rfl)) (fun _ _ _ h => h) (Or.inl ⟨by rfl, ?_⟩) ?_ ?_
 rotate_left
 ·intro w'; go_simp; with_reducible rfl
 rotate_left
 ·simp only [Act.put, List.setIfInBounds_toArray, List.set_cons_zero, List.set_cons_succ, i64_w, i32_w]; rfl
 refine pure_ (i := 39) (N := some 0) (v := ?_) (a' := ?_) #[true, true, true, true, true, true, true, true, true, true, true, true, true, true, true, true, true, true, true, true, true, true, true, true, true, true, true, true, true, true, true, true, true, true, true, true, true, true, true, true] rfl rfl (any_of HT_.out (by kernel_rfl)) (fun _ _ _ h => h) (Or.inl ⟨by rfl, ?_⟩) ?_ ?_
 rotate_left
 ·intro w'; go_simp; with_reducible rfl
 rotate_left
 ·simp only [Act.put, List.setIfInBounds_toArray, List.set_cons_zero, List.set_cons_succ, i64_w, i32_w]; rfl
 refine done_ (done_of HT_.out (by kernel_rfl)) ?_
 go_wp2
 go_ret
 exact ⟨rfl, hHeld.2.2⟩


end Go.Proofs.Ytlpnpnjjmpkapaa.PAll
