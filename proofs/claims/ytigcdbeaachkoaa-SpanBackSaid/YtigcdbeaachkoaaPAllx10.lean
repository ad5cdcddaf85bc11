-- Laid by the kit's print.py, called for several functions at once (our call).
import Derived.Test.YtigcdbeaachkoaaPAllx0
import Derived.Test.YtigcdbeaachkoaaPAllx4
namespace Go.Proofs.Ytigcdbeaachkoaa.PAll
open Go.RowKit Go.Proofs.YtigcdbeaachkoaaW.PrintWords Go.Proofs.YtigcdbeaachkoaaW.PrintLast Go.Proofs.YtigcdbeaachkoaaW.PrintMore
attribute [local go_sem] max2_int min2_int max_two min_two max_three min_three max_four min_four   -- for this text's walks alone
set_option linter.unusedVariables false
set_option linter.unusedSimpArgs false

/-! ### num_U64: function 47 -/
/-- num.U64: of the first eight bytes, the highest first. -/
def num_U64.to (l0 : List Int) : Nat → Int
  | 0 => 0
  | k + 1 => num_U64.to l0 k * 256 + rd l0 k
theorem num_U64.to_bd (l0 : List Int) (hb : ∀ k : Nat, k < 8 → 0 ≤ rd l0 k ∧ rd l0 k ≤ 255) : ∀ k, k ≤ 8 → 0 ≤ num_U64.to l0 k ∧ num_U64.to l0 k < 256 ^ k := by
  intro k
  induction k with
  | zero => intro _; exact ⟨Int.le_refl _, (by decide : (0 : Int) < 256 ^ 0)⟩
  | succ k ih =>
    intro hk
    obtain ⟨h0, h1⟩ := ih (by omega)
    obtain ⟨b0, b1⟩ := hb k (by omega)
    rw [Int.pow_succ]
    show 0 ≤ num_U64.to l0 k * 256 + rd l0 k ∧ num_U64.to l0 k * 256 + rd l0 k < _
    omega
theorem num_U64.step (l0 : List Int) (hb : ∀ k : Nat, k < 8 → 0 ≤ rd l0 k ∧ rd l0 k ≤ 255) (k : Nat) (hk : k < 8) : Go.bits .or .u64 (num_U64.to l0 k * 256 % 18446744073709551616) (rd l0 k) = num_U64.to l0 (k + 1) := by
  obtain ⟨h0, h1⟩ := num_U64.to_bd l0 hb k (by omega)
  obtain ⟨b0, b1⟩ := hb k hk
  have g : (256 : Int) ^ k ≤ 72057594037927936 := by
    have hc : k = 0 ∨ k = 1 ∨ k = 2 ∨ k = 3 ∨ k = 4 ∨ k = 5 ∨ k = 6 ∨ k = 7 := by omega
    rcases hc with rfl | rfl | rfl | rfl | rfl | rfl | rfl | rfl <;> decide
  rw [Int.emod_eq_of_lt (by omega) (by omega)]
  exact Hand.or_low64 _ _ h0 (by omega) b0 b1
def num_U64.f (l0 : List Int) : Option Int := if 8 ≤ l0.length ∧ ∀ x ∈ l0.take 8, 0 ≤ x ∧ x ≤ 255 then some (num_U64.to l0 8) else none
set_option maxHeartbeats 4000000 in
set_option maxRecDepth 100000 in
theorem num_U64.calls (A0 : Option Addr) (c0 : Nat) (l0 : List Int) (r : Int) (w : World) (hr0 : Kd.C (Kd.int .u8) w A0 l0.length l0) (hc0 : l0.length ≤ c0) (h : num_U64.f l0 = some r) :
    Calls Try.prog 47 #[.slice A0 l0.length c0] w fun e w' => e = .returned (.int .u64 r) ∧ Drawn0 w w' := by
  unfold num_U64.f at h
  split at h
  · rename_i hh
    obtain rfl := Option.some.inj h
    clear h
    obtain ⟨hl, hb⟩ := hh
    have hl' : (8 : Int) ≤ l0.length := by omega
    have hc' : (8 : Int) ≤ c0 := by omega
    have HR0 := Aside0.mk hr0
    have HB4 := Aside0.mk (show ∀ k : Nat, k < 8 → 0 ≤ rd l0 k ∧ rd l0 k ≤ 255 from fun k hk => hb _ (by
      have hk2 : k < (l0.take 8).length := by simp; omega
      have e : rd l0 k = (l0.take 8)[k] := by simp [rd, List.getD_eq_getElem?_getD, List.getElem?_eq_getElem (show k < l0.length by omega)]
      rw [e]; exact List.getElem_mem hk2))
    clear hr0 hb
    obtain ⟨ad, c, rfl, _, _, _⟩ := Kd.C_get HR0.out (0 : Int) 0 (by omega) (by omega)
    go_enter Try.func47, Try.ntmps47
    go_wp2
    go_loop [2, 8] (fun n i => ∃ k : Nat, k ≤ 8 ∧ i = .int .i64 k ∧ n = .int .u64 (num_U64.to l0 k)) (fun _ i => 8 - (intOf i).toNat)
    case atStart => exact ⟨0, by omega, rfl, rfl⟩
    case round =>
      obtain ⟨k, hk, rfl, rfl⟩ := hrel
      by_cases hlt : k < 8
      · obtain ⟨ad', ead, hcell⟩ := Kd.at_int HR0.out (k : Int) (by omega) (by omega)
        cases ead
        have hx := HB4.out k hlt
        have hx0 := hx.1
        have hx1 := hx.2
        clear hx
        rw [show ((k : Int)).toNat = k from by omega] at hcell
        go_wp2
        go_round
        case rel => exact ⟨k + 1, by omega, by go_num, congrArg (Value.int .u64) (num_U64.step l0 HB4.out k hlt)⟩
        case measure => simp [intOf]; omega
      · obtain rfl : k = 8 := by omega
        go_wp2
        go_ret
        exact ⟨rfl, Drawn0.refl _⟩
  · exact absurd h (by simp)


-- NOT PRINTED: function 48 (span_reader_take)

-- NOT PRINTED: function 36 (span_reader_number)

-- NOT PRINTED: function 37 (span_reader_small)

-- NOT PRINTED: function 38 (span_reader_text)

/-! ### span_Cut: function 21 -/
/-- What a reader takes: the bytes taken, what is left, and what went wrong first. -/
def span_Cut.tk (rest : List Int) (k : Int) (n : Nat) : List Int × List Int × Int :=
  if k = 0 then (if rest.length < n then (List.replicate n 0, rest, 3) else (rest.take n, rest.drop n, 0)) else (List.replicate n 0, rest, k)
/-- A reader in memory, over bytes that came in. -/
def span_Cut.St (w0 w : World) (g : Nat) (rest : List Int) (k : Int) : Prop :=
  Below w0.heap.size w0 w ∧ ∃ (A : Option Addr) (c : Nat), w.heap[g]? = some (.cells #[.slice A rest.length c, .int .i64 k] 63 (0, 0)) ∧ rest.length ≤ c ∧ Kd.C (Kd.int .u8) w0 A rest.length rest
set_option maxHeartbeats 8000000 in
set_option maxRecDepth 100000 in
theorem span_Cut.take (w0 w : World) (g : Nat) (rest : List Int) (k : Int) (n : Nat) (hn : n ≤ 255) (hg : w0.heap.size ≤ g) (hst : span_Cut.St w0 w g rest k) :
    Calls Try.prog 48 #[.pointer (some ⟨g, 0, none⟩), .int .i64 n] w fun e w' => ∃ (A' : Option Addr) (c' : Nat), e = .returned (.slice A' n c') ∧ n ≤ c' ∧ Kd.C (Kd.int .u8) w' A' n (span_Cut.tk rest k n).1 ∧ span_Cut.St w0 w' g (span_Cut.tk rest k n).2.1 (span_Cut.tk rest k n).2.2 ∧ KeepBut w w' g none := by
  obtain ⟨hB, A, c, hblk, hl, hC⟩ := hst
  have hu63 := Try.underlying63
  have hcz_0 : w.cell? ⟨g, 0, none⟩ = some (.slice A rest.length c) := (blk_cell hblk 0).trans rfl
  have hcz_1 : w.cell? ⟨g, 1, none⟩ = some (.int .i64 k) := (blk_cell hblk 1).trans rfl
  have hfz_0 := blk_frozen hblk 0
  have hfz_1 := blk_frozen hblk 1
  have HG := Aside0.mk hg
  have HB := Aside0.mk hB
  have BK := Aside0.mk hblk
  have HL := Aside0.mk hl
  have HC := Aside0.mk hC
  clear hB hblk hl hC hg
  unfold span_Cut.tk
  by_cases hk : k = 0
  · subst hk
    rw [if_pos rfl]
    by_cases hlt : rest.length < n
    · rw [if_pos hlt]
      have hltb : decide ((rest.length : Int) < (n : Int)) = true := decide_eq_true (by omega)
      go_enter Try.func48, Try.ntmps48
      go_wp2_with ((with_reducible refine gate_dst (N := 29) rfl ?_); refine Kd.R_make (Kd.int .u8) _ 5 rfl (N := 29) rfl 31 _ _ rfl (n : Int) rfl rfl Try.underlying31 (.int .u8 0) 1 info5 rfl (by decide) (by decide) (0 : Int) (ok := fun _ => True) (okp := fun _ => False) rfl (fun _ h => h.elim) trivial (by omega) (by simp; omega) (Below.refl _ _) (Nat.le_refl _) ?_; intro v1 w1 hR hb hgr hat; have HR := Aside0.mk hR; have HBN := Aside0.mk hb; clear hR hb hgr hat)
      obtain ⟨A1, c1, rfl, hle, hC1⟩ := Kd.R_reads HR.out
      rw [List.length_replicate, Int.toNat_natCast] at hle hC1
      have HLE := Aside0.mk hle
      have HC1 := Aside0.mk hC1
      clear hle hC1 HR
      have hlen : (List.replicate (n : Int).toNat (0 : Int)).length = n := by simp
      go_wp2
      go_ret
      refine ⟨A1, c1, by rw [hlen]; rfl, HLE.out, HC1.out, ⟨below_then (below_set HB.out HG.out) (below_set HB.out HG.out).size HBN.out, A, c, ?_, HL.out, HC.out⟩, KeepBut.trans ((KeepBut.refl w g none).set_ 1 _) (KeepBut.of_below HBN.out g none) (.inl rfl)⟩
      exact blk_below ((blk_set BK.out 1 _).trans rfl) HBN.out
    · rw [if_neg hlt]
      have hltb : decide ((rest.length : Int) < (n : Int)) = false := decide_eq_false (by omega)
      obtain ⟨i0, hi, hzz⟩ := Option.map_eq_some_iff.1 info5
      simp only [Prod.mk.injEq] at hzz
      have hto := fun W => Hand.run_slice_to (P := Try.prog) 31 5 .i64 Try.underlying31 hi A rest.length c n (by have := HL.out; omega) W
      have hfrom := cut_from (P := Try.prog) 31 5 .i64 Try.underlying31 hi 1 hzz.2.1 A rest.length c (n : Int) (by omega) (by omega)
      rw [Int.toNat_natCast] at hfrom
      have hd := Kd.C_drop HC.out (show n ≤ rest.length by omega) HL.out
      have ht := Kd.C_take HC.out (show n ≤ rest.length by omega)
      rw [show (Kd.int .u8).sz = 1 from rfl] at hd
      obtain ⟨A2, hA2⟩ : ∃ A2, (if c = n then A else A.map (·.add (n * 1))) = A2 := ⟨_, rfl⟩
      rw [hA2] at hd hfrom
      have HD := Aside0.mk hd
      have HT := Aside0.mk ht
      clear hd ht hA2 hzz
      go_enter Try.func48, Try.ntmps48
      go_wp2
      go_ret
      refine ⟨A, c, rfl, by have := HL.out; omega, ?_, ⟨below_set HB.out HG.out, A2, c - n, ?_, by rw [List.length_drop]; have := HL.out; omega, HD.out⟩, (KeepBut.refl w g none).set_ 0 _⟩
      · have h := HT.out
        rw [List.length_take, Nat.min_eq_left (by omega)] at h
        exact Kd.C_below h (below_set HB.out HG.out)
      · rw [List.length_drop]
        exact (blk_set BK.out 0 _).trans rfl
  · rw [if_neg hk]
    have hkb : (k != 0) = true := bne_iff_ne.mpr hk
    have hkc : (k == 0) = false := beq_eq_false_iff_ne.mpr hk
    go_enter Try.func48, Try.ntmps48
    go_wp2_with ((with_reducible refine gate_dst (N := 29) rfl ?_); refine Kd.R_make (Kd.int .u8) _ 5 rfl (N := 29) rfl 31 _ _ rfl (n : Int) rfl rfl Try.underlying31 (.int .u8 0) 1 info5 rfl (by decide) (by decide) (0 : Int) (ok := fun _ => True) (okp := fun _ => False) rfl (fun _ h => h.elim) trivial (by omega) (by simp; omega) (Below.refl _ _) (Nat.le_refl _) ?_; intro v1 w1 hR hb hgr hat; have HR := Aside0.mk hR; have HBN := Aside0.mk hb; clear hR hb hgr hat)
    obtain ⟨A1, c1, rfl, hle, hC1⟩ := Kd.R_reads HR.out
    rw [List.length_replicate, Int.toNat_natCast] at hle hC1
    have HLE := Aside0.mk hle
    have HC1 := Aside0.mk hC1
    clear hle hC1 HR
    have hlen : (List.replicate (n : Int).toNat (0 : Int)).length = n := by simp
    go_wp2
    go_ret
    exact ⟨A1, c1, by rw [hlen]; rfl, HLE.out, HC1.out, ⟨below_then HB.out HB.out.size HBN.out, A, c, blk_below BK.out HBN.out, HL.out, HC.out⟩, KeepBut.of_below HBN.out g none⟩
theorem span_Cut.tk_len (rest : List Int) (k : Int) (n : Nat) : (span_Cut.tk rest k n).1.length = n := by
  unfold span_Cut.tk
  split
  · split
    · simp
    · simp; omega
  · simp
theorem span_Cut.St_below {w0 w w1 : World} {g : Nat} {rest : List Int} {k : Int} (h : span_Cut.St w0 w g rest k) (hb : Below w.heap.size w w1) : span_Cut.St w0 w1 g rest k := by
  obtain ⟨hB, A, c, hblk, hl, hC⟩ := h
  exact ⟨below_then hB hB.size hb, A, c, blk_below hblk hb, hl, hC⟩
theorem span_Cut.St_far {w0 w : World} {g gs i : Nat} {u : Value} {rest : List Int} {k : Int} (h : span_Cut.St w0 w g rest k) (hg : w0.heap.size ≤ gs) (hne : g ≠ gs) : span_Cut.St w0 (w.setCell ⟨gs, i, none⟩ u) g rest k := by
  obtain ⟨hB, A, c, hblk, hl, hC⟩ := h
  exact ⟨below_set hB hg, A, c, blk_far hblk (p := ⟨gs, i, none⟩) hne u, hl, hC⟩
theorem span_Cut.St_k {w0 w : World} {g : Nat} {rest : List Int} {k : Int} (h : span_Cut.St w0 w g rest k) (hg : w0.heap.size ≤ g) (k' : Int) : span_Cut.St w0 (w.setCell ⟨g, 1, none⟩ (.int .i64 k')) g rest k' := by
  obtain ⟨hB, A, c, hblk, hl, hC⟩ := h
  exact ⟨below_set hB hg, A, c, (blk_set hblk 1 _).trans rfl, hl, hC⟩
theorem span_Cut.St_cell {w0 w : World} {g : Nat} {rest : List Int} {k : Int} (h : span_Cut.St w0 w g rest k) : w.cell? ⟨g, 1, none⟩ = some (.int .i64 k) ∧ w.frozen? ⟨g, 1, none⟩ = false := by
  obtain ⟨hB, A, c, hblk, hl, hC⟩ := h
  exact ⟨(blk_cell hblk 1).trans rfl, blk_frozen hblk 1⟩
/-- The next number. -/
def span_Cut.nm (rest : List Int) (k : Int) : Option (Int × List Int × Int) := (num_U64.f (span_Cut.tk rest k 8).1).map fun r => (r, (span_Cut.tk rest k 8).2)
set_option maxHeartbeats 8000000 in
set_option maxRecDepth 100000 in
theorem span_Cut.number (w0 w : World) (g : Nat) (rest : List Int) (k : Int) (hg : w0.heap.size ≤ g) (hst : span_Cut.St w0 w g rest k) (r : Int × List Int × Int) (h : span_Cut.nm rest k = some r) :
    Calls Try.prog 36 #[.pointer (some ⟨g, 0, none⟩)] w fun e w' => e = .returned (.int .u64 r.1) ∧ span_Cut.St w0 w' g r.2.1 r.2.2 ∧ KeepBut w w' g none := by
  obtain ⟨v, hv, rfl⟩ := Option.map_eq_some_iff.1 h
  have HST := Aside0.mk hst
  clear hst h
  go_enter Try.func36, Try.ntmps36
  go_wp2_with fail
  refine (span_Cut.take w0 _ g rest k 8 (by omega) hg HST.out).mono ?_
  rintro e w1 ⟨A1, c1, rfl, hle, hC, hst, hkb⟩
  have hlen := span_Cut.tk_len rest k 8
  have hU := num_U64.calls A1 c1 (span_Cut.tk rest k 8).1 v w1 (by rw [hlen]; exact hC) (by omega) hv
  rw [hlen] at hU
  have HU := Aside0.mk hU
  have HST1 := Aside0.mk hst
  have HKB := Aside0.mk hkb
  clear hU hst hkb hC hlen hv
  go_wp2_with fail
  refine HU.out.mono ?_
  rintro e w2 ⟨rfl, hd⟩
  have HD := Aside0.mk hd
  clear hd
  go_wp2
  go_ret
  exact ⟨rfl, span_Cut.St_below HST1.out (Drawn0.below HD.out), KeepBut.trans HKB.out (KeepBut.of_below (Drawn0.below HD.out) g none) (.inl rfl)⟩
/-- A byte from lo to hi. -/
def span_Cut.sm (rest : List Int) (k lo hi : Int) : Int × List Int × Int :=
  (rd (span_Cut.tk rest k 1).1 0, (span_Cut.tk rest k 1).2.1, if (span_Cut.tk rest k 1).2.2 = 0 ∧ (rd (span_Cut.tk rest k 1).1 0 < lo ∨ hi < rd (span_Cut.tk rest k 1).1 0) then 6 else (span_Cut.tk rest k 1).2.2)
set_option maxHeartbeats 8000000 in
set_option maxRecDepth 100000 in
theorem span_Cut.small_ (w0 w : World) (g : Nat) (rest : List Int) (k lo hi : Int) (hg : w0.heap.size ≤ g) (hst : span_Cut.St w0 w g rest k) (out rest1 : List Int) (k1 c k2 : Int) (ht : span_Cut.tk rest k 1 = (out, rest1, k1)) (hc : rd out 0 = c) (h2 : (if k1 = 0 ∧ (c < lo ∨ hi < c) then 6 else k1) = k2) :
    Calls Try.prog 37 #[.pointer (some ⟨g, 0, none⟩), .int .u8 lo, .int .u8 hi] w fun e w' => e = .returned (.int .u8 c) ∧ span_Cut.St w0 w' g rest1 k2 ∧ KeepBut w w' g none := by
  have HST := Aside0.mk hst
  have hu63 := Try.underlying63
  clear hst
  go_enter Try.func37, Try.ntmps37
  go_wp2_with fail
  refine (span_Cut.take w0 _ g rest k 1 (by omega) hg HST.out).mono ?_
  rintro e w1 ⟨A1, c1, rfl, hle, hC, hst, hkb⟩
  rw [ht] at hC hst
  obtain ⟨ad, rfl, hcell⟩ := Kd.at_int hC 0 (by omega) (by omega)
  rw [hc, show ad.add (Int.toNat 0) = ad from by simp [Addr.add]] at hcell
  obtain ⟨hcz_1, hfz_1⟩ := span_Cut.St_cell hst
  have HST1 := Aside0.mk hst
  have HKB := Aside0.mk hkb
  have HG := Aside0.mk hg
  clear hst hkb hC hg ht hc
  simp only at HST1 hcz_1
  by_cases hk : k1 = 0
  · subst hk
    by_cases h1 : c < lo
    · have h1b : decide (c < lo) = true := decide_eq_true h1
      rw [if_pos ⟨rfl, .inl h1⟩] at h2
      subst h2
      go_wp2
      go_ret
      exact ⟨rfl, span_Cut.St_k HST1.out HG.out 6, HKB.out.set_ 1 _⟩
    · have h1b : decide (c < lo) = false := decide_eq_false h1
      by_cases h2' : hi < c
      · have h2b : decide (hi < c) = true := decide_eq_true h2'
        rw [if_pos ⟨rfl, .inr h2'⟩] at h2
        subst h2
        go_wp2
        go_ret
        exact ⟨rfl, span_Cut.St_k HST1.out HG.out 6, HKB.out.set_ 1 _⟩
      · have h2b : decide (hi < c) = false := decide_eq_false h2'
        rw [if_neg (fun h => h.2.elim h1 h2')] at h2
        subst h2
        go_wp2
        go_ret
        exact ⟨rfl, HST1.out, HKB.out⟩
  · have hkb : (k1 != 0) = true := bne_iff_ne.mpr hk
    have hkc : (k1 == 0) = false := beq_eq_false_iff_ne.mpr hk
    rw [if_neg (fun h => hk h.1)] at h2
    subst h2
    go_wp2
    go_ret
    exact ⟨rfl, HST1.out, HKB.out⟩
theorem span_Cut.small (w0 w : World) (g : Nat) (rest : List Int) (k lo hi : Int) (hg : w0.heap.size ≤ g) (hst : span_Cut.St w0 w g rest k) :
    Calls Try.prog 37 #[.pointer (some ⟨g, 0, none⟩), .int .u8 lo, .int .u8 hi] w fun e w' => e = .returned (.int .u8 (span_Cut.sm rest k lo hi).1) ∧ span_Cut.St w0 w' g (span_Cut.sm rest k lo hi).2.1 (span_Cut.sm rest k lo hi).2.2 ∧ KeepBut w w' g none :=
  span_Cut.small_ w0 w g rest k lo hi hg hst _ _ _ _ _ rfl rfl rfl
/-- A text behind its length. -/
def span_Cut.tx (rest : List Int) (k : Int) : ByteArray × List Int × Int :=
  if (span_Cut.sm rest k 1 32).2.2 = 0 then (strOfNums (span_Cut.tk (span_Cut.sm rest k 1 32).2.1 0 (span_Cut.sm rest k 1 32).1.toNat).1, (span_Cut.tk (span_Cut.sm rest k 1 32).2.1 0 (span_Cut.sm rest k 1 32).1.toNat).2) else (⟨#[]⟩, (span_Cut.sm rest k 1 32).2)
theorem span_Cut.sm_ok {rest : List Int} {k lo hi : Int} (h : (span_Cut.sm rest k lo hi).2.2 = 0) : lo ≤ (span_Cut.sm rest k lo hi).1 ∧ (span_Cut.sm rest k lo hi).1 ≤ hi := by
  unfold span_Cut.sm at h ⊢
  simp only at h ⊢
  split at h
  · cases h
  · rename_i hn
    simp only [h, true_and, not_or] at hn
    omega
set_option maxHeartbeats 8000000 in
set_option maxRecDepth 100000 in
theorem span_Cut.text_bad (w0 w : World) (g : Nat) (rest : List Int) (k : Int) (hg : w0.heap.size ≤ g) (hst : span_Cut.St w0 w g rest k) (c k1 : Int) (rest1 : List Int) (hs : span_Cut.sm rest k 1 32 = (c, rest1, k1)) (hk : k1 ≠ 0) :
    Calls Try.prog 38 #[.pointer (some ⟨g, 0, none⟩)] w fun e w' => e = .returned (.string ⟨#[]⟩) ∧ span_Cut.St w0 w' g rest1 k1 ∧ KeepBut w w' g none := by
  have HST := Aside0.mk hst
  have hu63 := Try.underlying63
  clear hst
  go_enter Try.func38, Try.ntmps38
  go_wp2_with fail
  refine (span_Cut.small w0 _ g rest k 1 32 hg HST.out).mono ?_
  rintro e w1 ⟨rfl, hst, hkb⟩
  rw [hs] at hst ⊢
  obtain ⟨hcz_1, hfz_1⟩ := span_Cut.St_cell hst
  have HST1 := Aside0.mk hst
  have HKB := Aside0.mk hkb
  clear hst hkb hg hs
  simp only at HST1 hcz_1
  have hkb : (k1 != 0) = true := bne_iff_ne.mpr hk
  go_wp2
  go_ret
  exact ⟨rfl, HST1.out, HKB.out⟩
set_option maxHeartbeats 8000000 in
set_option maxRecDepth 100000 in
theorem span_Cut.text_ok (w0 w : World) (g : Nat) (rest : List Int) (k : Int) (hg : w0.heap.size ≤ g) (hst : span_Cut.St w0 w g rest k) (m : Nat) (rest1 : List Int) (hs : span_Cut.sm rest k 1 32 = ((m : Int), rest1, 0)) (hm : m ≤ 32) (out rest2 : List Int) (k2 : Int) (ht : span_Cut.tk rest1 0 m = (out, rest2, k2)) :
    Calls Try.prog 38 #[.pointer (some ⟨g, 0, none⟩)] w fun e w' => e = .returned (.string (strOfNums out)) ∧ span_Cut.St w0 w' g rest2 k2 ∧ KeepBut w w' g none := by
  have HST := Aside0.mk hst
  have HG := Aside0.mk hg
  have hu63 := Try.underlying63
  clear hst hg
  go_enter Try.func38, Try.ntmps38
  go_wp2_with fail
  refine (span_Cut.small w0 _ g rest k 1 32 HG.out HST.out).mono ?_
  rintro e w1 ⟨rfl, hst, hkb⟩
  rw [hs] at hst ⊢
  obtain ⟨hcz_1, hfz_1⟩ := span_Cut.St_cell hst
  have HST1 := Aside0.mk hst
  have HKB := Aside0.mk hkb
  clear hst hkb hs
  simp only at HST1 hcz_1
  have hw : IntKind.i64.wrap (m : Int) = (m : Int) := by simp [IntKind.wrap, IntKind.signed, IntKind.bits]; omega
  have hw2 : wrap64 (m : Int) = (m : Int) := by unfold wrap64; omega
  go_wp2_with fail
  refine (span_Cut.take w0 _ g rest1 0 m (by omega) HG.out HST1.out).mono ?_
  rintro e w2 ⟨A2, c2, rfl, hle, hC, hst, hkb⟩
  have hlen := span_Cut.tk_len rest1 0 m
  rw [ht] at hC hst hlen
  simp only at hC hst hlen
  have hcv := Kd.C_string (P := Try.prog) (A := A2) (c := c2) Try.underlying31 Try.underlying5 Try.underlying9 hC
  have HST2 := Aside0.mk hst
  have HKB2 := Aside0.mk hkb
  clear hst hkb hC hlen ht
  go_wp2
  go_ret
  exact ⟨rfl, HST2.out, KeepBut.trans HKB.out HKB2.out (.inl rfl)⟩
theorem span_Cut.text (w0 w : World) (g : Nat) (rest : List Int) (k : Int) (hg : w0.heap.size ≤ g) (hst : span_Cut.St w0 w g rest k) :
    Calls Try.prog 38 #[.pointer (some ⟨g, 0, none⟩)] w fun e w' => e = .returned (.string (span_Cut.tx rest k).1) ∧ span_Cut.St w0 w' g (span_Cut.tx rest k).2.1 (span_Cut.tx rest k).2.2 ∧ KeepBut w w' g none := by
  unfold span_Cut.tx
  by_cases hk : (span_Cut.sm rest k 1 32).2.2 = 0
  · rw [if_pos hk]
    obtain ⟨h1, h2⟩ := span_Cut.sm_ok hk
    obtain ⟨m, hm⟩ := Int.eq_ofNat_of_zero_le (show 0 ≤ (span_Cut.sm rest k 1 32).1 by omega)
    refine span_Cut.text_ok w0 w g rest k hg hst (span_Cut.sm rest k 1 32).1.toNat (span_Cut.sm rest k 1 32).2.1 ?_ (by omega) _ _ _ rfl
    rw [Int.toNat_of_nonneg (by omega), ← hk]
  · rw [if_neg hk]
    exact span_Cut.text_bad w0 w g rest k hg hst _ _ _ rfl hk
def span_Cut.f (l0 : List Int) : Option (Int × Int × Int × Int × Int × ByteArray × ByteArray × Bool × List Int × Int) :=
  (span_Cut.nm l0 0).bind fun a => (span_Cut.nm a.2.1 a.2.2).bind fun b => (span_Cut.nm b.2.1 b.2.2).bind fun c => (span_Cut.nm c.2.1 c.2.2).bind fun d => (span_Cut.nm d.2.1 d.2.2).bind fun e =>
    (if (span_Cut.tx (span_Cut.tx (span_Cut.sm e.2.1 e.2.2 0 1).2.1 (span_Cut.sm e.2.1 e.2.2 0 1).2.2).2.1 (span_Cut.tx (span_Cut.sm e.2.1 e.2.2 0 1).2.1 (span_Cut.sm e.2.1 e.2.2 0 1).2.2).2.2).2.2 = 0 then
      span_Right.f 1000 a.1 b.1 c.1 d.1 e.1 (span_Cut.tx (span_Cut.sm e.2.1 e.2.2 0 1).2.1 (span_Cut.sm e.2.1 e.2.2 0 1).2.2).1 (span_Cut.tx (span_Cut.tx (span_Cut.sm e.2.1 e.2.2 0 1).2.1 (span_Cut.sm e.2.1 e.2.2 0 1).2.2).2.1 (span_Cut.tx (span_Cut.sm e.2.1 e.2.2 0 1).2.1 (span_Cut.sm e.2.1 e.2.2 0 1).2.2).2.2).1 ((span_Cut.sm e.2.1 e.2.2 0 1).1 == 1)
      else some (span_Cut.tx (span_Cut.tx (span_Cut.sm e.2.1 e.2.2 0 1).2.1 (span_Cut.sm e.2.1 e.2.2 0 1).2.2).2.1 (span_Cut.tx (span_Cut.sm e.2.1 e.2.2 0 1).2.1 (span_Cut.sm e.2.1 e.2.2 0 1).2.2).2.2).2.2).bind fun kd =>
    if kd = 0 then (slices_Clone_byte_byte.f (span_Cut.tx (span_Cut.tx (span_Cut.sm e.2.1 e.2.2 0 1).2.1 (span_Cut.sm e.2.1 e.2.2 0 1).2.2).2.1 (span_Cut.tx (span_Cut.sm e.2.1 e.2.2 0 1).2.1 (span_Cut.sm e.2.1 e.2.2 0 1).2.2).2.2).2.1).bind fun r =>
        some (a.1, b.1, c.1, d.1, e.1, (span_Cut.tx (span_Cut.sm e.2.1 e.2.2 0 1).2.1 (span_Cut.sm e.2.1 e.2.2 0 1).2.2).1, (span_Cut.tx (span_Cut.tx (span_Cut.sm e.2.1 e.2.2 0 1).2.1 (span_Cut.sm e.2.1 e.2.2 0 1).2.2).2.1 (span_Cut.tx (span_Cut.sm e.2.1 e.2.2 0 1).2.1 (span_Cut.sm e.2.1 e.2.2 0 1).2.2).2.2).1, (span_Cut.sm e.2.1 e.2.2 0 1).1 == 1, r, 0)
      else some (0, 0, 0, 0, 0, ⟨#[]⟩, ⟨#[]⟩, false, [], kd)
set_option maxHeartbeats 1000000 in
set_option maxRecDepth 100000 in
theorem span_Cut.walk (A0 : Option Addr) (c0 : Nat) (l0 : List Int) (w : World) (hr0 : Kd.C (Kd.int .u8) w A0 l0.length l0) (hc0 : l0.length ≤ c0) (n0 n1 n2 n3 n4 b7 kd k0 k1 k2 k3 k4 k5 k6 k7 : Int) (m0 m1 m2 m3 m4 m5 m6 m7 : List Int) (s5 s6 : ByteArray)
    (h0 : span_Cut.nm l0 0 = some (n0, m0, k0)) (h1 : span_Cut.nm m0 k0 = some (n1, m1, k1)) (h2 : span_Cut.nm m1 k1 = some (n2, m2, k2)) (h3 : span_Cut.nm m2 k2 = some (n3, m3, k3)) (h4 : span_Cut.nm m3 k3 = some (n4, m4, k4))
    (h5 : span_Cut.sm m4 k4 0 1 = (b7, m5, k5)) (h6 : span_Cut.tx m5 k5 = (s5, m6, k6)) (h7 : span_Cut.tx m6 k6 = (s6, m7, k7))
    (h8 : (if k7 = 0 then span_Right.f 1000 n0 n1 n2 n3 n4 s5 s6 (b7 == 1) else some k7) = some kd) (Q : Ending → World → Prop)
    (hbad : kd ≠ 0 → ∀ w', Below w.heap.size w w' → Q (.returned (.tuple #[.agg #[.int .u64 0, .int .u64 0, .int .u64 0, .int .u64 0, .int .u64 0, .string ⟨#[]⟩, .string ⟨#[]⟩, .bool false], .slice none 0 0, .int .i64 kd])) w')
    (hok : kd = 0 → slices_Clone_byte_byte.f m7 = some m7 ∧ ∀ v w', Kd.R (Kd.int .u8) 5 w' w.heap.size (fun _ => True) v m7 → Below w.heap.size w w' → Q (.returned (.tuple #[.agg #[.int .u64 n0, .int .u64 n1, .int .u64 n2, .int .u64 n3, .int .u64 n4, .string s5, .string s6, .bool (b7 == 1)], v, .int .i64 0])) w') :
    Calls Try.prog 21 #[.slice A0 l0.length c0] w Q := by
  have HR0 := Aside0.mk hr0
  have HC0 := Aside0.mk hc0
  have H0 := Aside0.mk h0
  have H1 := Aside0.mk h1
  have H2 := Aside0.mk h2
  have H3 := Aside0.mk h3
  have H4 := Aside0.mk h4
  have H5 := Aside0.mk h5
  have H6 := Aside0.mk h6
  have H7 := Aside0.mk h7
  have H8 := Aside0.mk h8
  have HBAD := Aside0.mk hbad
  have HOK := Aside0.mk hok
  clear hr0 hc0 h0 h1 h2 h3 h4 h5 h6 h7 h8 hbad hok
  have hu28 := Try.underlying28
  have hu63 := Try.underlying63
  go_enter Try.func21, Try.ntmps21
  go_wp2_with (first
    | ((with_reducible refine gate_dst (N := 2) rfl ?_); refine box_event ?hg (N := 2) ?hd (cs := #[.int .u64 0, .int .u64 0, .int .u64 0, .int .u64 0, .int .u64 0, .string ⟨#[]⟩, .string ⟨#[]⟩, .bool false]) (t := 28) ?hr ?_; (case hd => rfl); (case hg => rfl); (case hr => first | (go_simp; done) | (go_simp; rfl)); intro gs hg w1 hbox hb; have HGS := Aside0.mk (show w.heap.size ≤ gs by rw [hg]; exact Nat.le_refl _); have BS := Aside0.mk hbox; have HB := Aside0.mk (show Below w.heap.size w w1 from hb); clear hg hbox hb)
    | ((with_reducible refine gate_dst (N := 8) rfl ?_); refine box_event ?hg (N := 8) ?hd (cs := #[.slice A0 l0.length c0, .int .i64 0]) (t := 63) ?hr ?_; (case hd => rfl); (case hg => rfl); (case hr => first | (go_simp; done) | (go_simp; rfl)); intro g hg w2 hbox hb; have HNE := Aside0.mk (show gs ≠ g by rw [hg]; exact Nat.ne_of_lt (blk_lt BS.out)); have HG := Aside0.mk (show w.heap.size ≤ g by rw [hg]; exact HB.out.size); have BS2 := Aside0.mk (blk_below BS.out hb); have HST2 := Aside0.mk (show span_Cut.St w w2 g l0 0 from ⟨below_then HB.out HB.out.size hb, A0, c0, hbox, HC0.out, HR0.out⟩); clear hg hbox hb BS HB))
  refine (span_Cut.number w _ g l0 0 HG.out HST2.out _ H0.out).mono ?_
  rintro e w3 ⟨rfl, hst, hkb⟩
  have HST3 := Aside0.mk hst
  have BS3 := Aside0.mk (hkb.blk BS2.out HNE.out (by simp))
  clear hst hkb HST2 BS2
  go_wp2_with fail
  refine (span_Cut.number w _ g m0 k0 HG.out HST3.out _ H1.out).mono ?_
  rintro e w4 ⟨rfl, hst, hkb⟩
  have HST4 := Aside0.mk hst
  have BS4 := Aside0.mk (hkb.blk BS3.out HNE.out (by simp))
  clear hst hkb HST3 BS3
  go_wp2_with fail
  refine (span_Cut.number w _ g m1 k1 HG.out HST4.out _ H2.out).mono ?_
  rintro e w5 ⟨rfl, hst, hkb⟩
  have HST5 := Aside0.mk hst
  have BS5 := Aside0.mk (hkb.blk BS4.out HNE.out (by simp))
  clear hst hkb HST4 BS4
  go_wp2_with fail
  refine (span_Cut.number w _ g m2 k2 HG.out HST5.out _ H3.out).mono ?_
  rintro e w6 ⟨rfl, hst, hkb⟩
  have HST6 := Aside0.mk hst
  have BS6 := Aside0.mk (hkb.blk BS5.out HNE.out (by simp))
  clear hst hkb HST5 BS5
  go_wp2_with fail
  refine (span_Cut.number w _ g m3 k3 HG.out HST6.out _ H4.out).mono ?_
  rintro e w7 ⟨rfl, hst, hkb⟩
  have HST7 := Aside0.mk hst
  have BS7 := Aside0.mk (hkb.blk BS6.out HNE.out (by simp))
  clear hst hkb HST6 BS6
  have hcz_0 : w7.cell? ⟨gs, 0, none⟩ = some (.int .u64 0) := (blk_cell BS7.out 0).trans rfl
  have hcz_1 : w7.cell? ⟨gs, 1, none⟩ = some (.int .u64 0) := (blk_cell BS7.out 1).trans rfl
  have hcz_2 : w7.cell? ⟨gs, 2, none⟩ = some (.int .u64 0) := (blk_cell BS7.out 2).trans rfl
  have hcz_3 : w7.cell? ⟨gs, 3, none⟩ = some (.int .u64 0) := (blk_cell BS7.out 3).trans rfl
  have hcz_4 : w7.cell? ⟨gs, 4, none⟩ = some (.int .u64 0) := (blk_cell BS7.out 4).trans rfl
  have hcz_5 : w7.cell? ⟨gs, 5, none⟩ = some (.string ⟨#[]⟩) := (blk_cell BS7.out 5).trans rfl
  have hcz_6 : w7.cell? ⟨gs, 6, none⟩ = some (.string ⟨#[]⟩) := (blk_cell BS7.out 6).trans rfl
  have hcz_7 : w7.cell? ⟨gs, 7, none⟩ = some (.bool false) := (blk_cell BS7.out 7).trans rfl
  have hfz_0 := blk_frozen BS7.out 0
  have hfz_1 := blk_frozen BS7.out 1
  have hfz_2 := blk_frozen BS7.out 2
  have hfz_3 := blk_frozen BS7.out 3
  have hfz_4 := blk_frozen BS7.out 4
  have hfz_5 := blk_frozen BS7.out 5
  have hfz_6 := blk_frozen BS7.out 6
  have hfz_7 := blk_frozen BS7.out 7
  go_wp2_with fail
  refine (span_Cut.small w _ g m4 k4 0 1 HG.out (by (with_reducible repeat refine span_Cut.St_far ?_ HGS.out HNE.out.symm); exact HST7.out)).mono ?_
  rintro e w8 ⟨he, hst, hkb⟩
  rw [H5.out] at he hst
  subst he
  have HST8 := Aside0.mk hst
  have hch := hkb.blk ((blk_set (blk_set (blk_set (blk_set (blk_set (blk_set (blk_set (blk_set BS7.out 0 _) 1 _) 2 _) 3 _) 4 _) 5 _) 6 _) 7 _)) HNE.out (by simp)
  simp only [List.setIfInBounds_toArray, List.set_cons_zero, List.set_cons_succ] at hch
  have BS8 := Aside0.mk hch
  clear hch
  clear hst hkb HST7 BS7 hcz_0 hcz_1 hcz_2 hcz_3 hcz_4 hcz_5 hcz_6 hcz_7 hfz_0 hfz_1 hfz_2 hfz_3 hfz_4 hfz_5 hfz_6 hfz_7
  simp only at HST8
  have hcz_7 : w8.cell? ⟨gs, 7, none⟩ = some (.bool false) := (blk_cell BS8.out 7).trans rfl
  have hfz_7 := blk_frozen BS8.out 7
  go_wp2_with fail
  refine (span_Cut.text w _ g m5 k5 HG.out (span_Cut.St_far HST8.out HGS.out HNE.out.symm)).mono ?_
  rintro e w9 ⟨he, hst, hkb⟩
  rw [H6.out] at he hst
  subst he
  have HST9 := Aside0.mk hst
  have hch := hkb.blk ((blk_set BS8.out 7 _)) HNE.out (by simp)
  simp only [List.setIfInBounds_toArray, List.set_cons_zero, List.set_cons_succ] at hch
  have BS9 := Aside0.mk hch
  clear hch
  clear hst hkb HST8 BS8 hcz_7 hfz_7
  simp only at HST9
  have hcz_5 : w9.cell? ⟨gs, 5, none⟩ = some (.string ⟨#[]⟩) := (blk_cell BS9.out 5).trans rfl
  have hfz_5 := blk_frozen BS9.out 5
  go_wp2_with fail
  refine (span_Cut.text w _ g m6 k6 HG.out (span_Cut.St_far HST9.out HGS.out HNE.out.symm)).mono ?_
  rintro e w10 ⟨he, hst, hkb⟩
  rw [H7.out] at he hst
  subst he
  have HST10 := Aside0.mk hst
  have hch := hkb.blk ((blk_set BS9.out 5 _)) HNE.out (by simp)
  simp only [List.setIfInBounds_toArray, List.set_cons_zero, List.set_cons_succ] at hch
  have BS10 := Aside0.mk hch
  clear hch
  clear hst hkb HST9 BS9 hcz_5 hfz_5
  simp only at HST10
  have hnb := HNE.out
  have hnc := HNE.out.symm
  have hcz_0 : w10.cell? ⟨gs, 0, none⟩ = some (.int .u64 n0) := (blk_cell BS10.out 0).trans rfl
  have hcz_1 : w10.cell? ⟨gs, 1, none⟩ = some (.int .u64 n1) := (blk_cell BS10.out 1).trans rfl
  have hcz_2 : w10.cell? ⟨gs, 2, none⟩ = some (.int .u64 n2) := (blk_cell BS10.out 2).trans rfl
  have hcz_3 : w10.cell? ⟨gs, 3, none⟩ = some (.int .u64 n3) := (blk_cell BS10.out 3).trans rfl
  have hcz_4 : w10.cell? ⟨gs, 4, none⟩ = some (.int .u64 n4) := (blk_cell BS10.out 4).trans rfl
  have hcz_5 : w10.cell? ⟨gs, 5, none⟩ = some (.string s5) := (blk_cell BS10.out 5).trans rfl
  have hcz_6 : w10.cell? ⟨gs, 6, none⟩ = some (.string ⟨#[]⟩) := (blk_cell BS10.out 6).trans rfl
  have hcz_7 : w10.cell? ⟨gs, 7, none⟩ = some (.bool (b7 == 1)) := (blk_cell BS10.out 7).trans rfl
  have hfz_0 := blk_frozen BS10.out 0
  have hfz_1 := blk_frozen BS10.out 1
  have hfz_2 := blk_frozen BS10.out 2
  have hfz_3 := blk_frozen BS10.out 3
  have hfz_4 := blk_frozen BS10.out 4
  have hfz_5 := blk_frozen BS10.out 5
  have hfz_6 := blk_frozen BS10.out 6
  have hfz_7 := blk_frozen BS10.out 7
  obtain ⟨hgz_1, hgf_1⟩ := span_Cut.St_cell HST10.out
  by_cases hk : k7 = 0
  · subst hk
    have h8 := H8.out
    rw [if_pos rfl] at h8
    have H8b := Aside0.mk h8
    clear h8
    go_wp2_with fail
    refine (span_Right.calls 1000 n0 n1 n2 n3 n4 s5 s6 (b7 == 1) kd _ H8b.out).mono ?_
    rintro e w11 ⟨rfl, hb⟩
    have HST11 := Aside0.mk (span_Cut.St_below (span_Cut.St_far (i := 6) (u := .string s6) HST10.out HGS.out HNE.out.symm) hb)
    have BS11 := Aside0.mk (show w11.heap[gs]? = some (.cells #[.int .u64 n0, .int .u64 n1, .int .u64 n2, .int .u64 n3, .int .u64 n4, .string s5, .string s6, .bool (b7 == 1)] 28 (0, 0)) from blk_below (by have hch := blk_set BS10.out 6 (.string s6); simp only [List.setIfInBounds_toArray, List.set_cons_zero, List.set_cons_succ] at hch; exact hch) hb)
    clear hb HST10 BS10 hcz_0 hcz_1 hcz_2 hcz_3 hcz_4 hcz_5 hcz_6 hcz_7 hfz_0 hfz_1 hfz_2 hfz_3 hfz_4 hfz_5 hfz_6 hfz_7 hgz_1 hgf_1
    obtain ⟨hgz_1, hgf_1⟩ := span_Cut.St_cell HST11.out
    have hcz_0 : w11.cell? ⟨gs, 0, none⟩ = some (.int .u64 n0) := (blk_cell BS11.out 0).trans rfl
    have hcz_1 : w11.cell? ⟨gs, 1, none⟩ = some (.int .u64 n1) := (blk_cell BS11.out 1).trans rfl
    have hcz_2 : w11.cell? ⟨gs, 2, none⟩ = some (.int .u64 n2) := (blk_cell BS11.out 2).trans rfl
    have hcz_3 : w11.cell? ⟨gs, 3, none⟩ = some (.int .u64 n3) := (blk_cell BS11.out 3).trans rfl
    have hcz_4 : w11.cell? ⟨gs, 4, none⟩ = some (.int .u64 n4) := (blk_cell BS11.out 4).trans rfl
    have hcz_5 : w11.cell? ⟨gs, 5, none⟩ = some (.string s5) := (blk_cell BS11.out 5).trans rfl
    have hcz_6 : w11.cell? ⟨gs, 6, none⟩ = some (.string s6) := (blk_cell BS11.out 6).trans rfl
    have hcz_7 : w11.cell? ⟨gs, 7, none⟩ = some (.bool (b7 == 1)) := (blk_cell BS11.out 7).trans rfl
    have hfz_0 := blk_frozen BS11.out 0
    have hfz_1 := blk_frozen BS11.out 1
    have hfz_2 := blk_frozen BS11.out 2
    have hfz_3 := blk_frozen BS11.out 3
    have hfz_4 := blk_frozen BS11.out 4
    have hfz_5 := blk_frozen BS11.out 5
    have hfz_6 := blk_frozen BS11.out 6
    have hfz_7 := blk_frozen BS11.out 7
    by_cases hd : kd = 0
    · subst hd
      obtain ⟨hcl, hq⟩ := HOK.out rfl
      have HCL := Aside0.mk hcl
      have HQ := Aside0.mk hq
      clear hcl hq
      go_wp2_with fail
      obtain ⟨W, hW⟩ : ∃ W, w11.setCell ⟨g, 1, none⟩ (.int .i64 0) = W := ⟨_, rfl⟩
      rw [hW]
      have HSTW := Aside0.mk (show span_Cut.St w W g m7 0 from by rw [← hW]; exact span_Cut.St_k HST11.out HG.out 0)
      have BSW := Aside0.mk (show W.heap[gs]? = some (.cells #[.int .u64 n0, .int .u64 n1, .int .u64 n2, .int .u64 n3, .int .u64 n4, .string s5, .string s6, .bool (b7 == 1)] 28 (0, 0)) from by rw [← hW]; exact blk_far BS11.out (p := ⟨g, 1, none⟩) hnb _)
      clear hcz_0 hcz_1 hcz_2 hcz_3 hcz_4 hcz_5 hcz_6 hcz_7 hfz_0 hfz_1 hfz_2 hfz_3 hfz_4 hfz_5 hfz_6 hfz_7 hgz_1 hgf_1
      clear HST11 BS11 hW
      obtain ⟨hBW, A7, c7, hblk, hl7, hC7⟩ := HSTW.out
      have HBW := Aside0.mk hBW
      have HL7 := Aside0.mk hl7
      have HC7 := Aside0.mk hC7
      have hgz_0 : W.cell? ⟨g, 0, none⟩ = some (.slice A7 m7.length c7) := (blk_cell hblk 0).trans rfl
      clear hBW hblk hl7 hC7
      have hcz_0 : W.cell? ⟨gs, 0, none⟩ = some (.int .u64 n0) := (blk_cell BSW.out 0).trans rfl
      have hcz_1 : W.cell? ⟨gs, 1, none⟩ = some (.int .u64 n1) := (blk_cell BSW.out 1).trans rfl
      have hcz_2 : W.cell? ⟨gs, 2, none⟩ = some (.int .u64 n2) := (blk_cell BSW.out 2).trans rfl
      have hcz_3 : W.cell? ⟨gs, 3, none⟩ = some (.int .u64 n3) := (blk_cell BSW.out 3).trans rfl
      have hcz_4 : W.cell? ⟨gs, 4, none⟩ = some (.int .u64 n4) := (blk_cell BSW.out 4).trans rfl
      have hcz_5 : W.cell? ⟨gs, 5, none⟩ = some (.string s5) := (blk_cell BSW.out 5).trans rfl
      have hcz_6 : W.cell? ⟨gs, 6, none⟩ = some (.string s6) := (blk_cell BSW.out 6).trans rfl
      have hcz_7 : W.cell? ⟨gs, 7, none⟩ = some (.bool (b7 == 1)) := (blk_cell BSW.out 7).trans rfl
      have hfz_0 := blk_frozen BSW.out 0
      have hfz_1 := blk_frozen BSW.out 1
      have hfz_2 := blk_frozen BSW.out 2
      have hfz_3 := blk_frozen BSW.out 3
      have hfz_4 := blk_frozen BSW.out 4
      have hfz_5 := blk_frozen BSW.out 5
      have hfz_6 := blk_frozen BSW.out 6
      have hfz_7 := blk_frozen BSW.out 7
      go_region_with (go_at_call 31; refine (slices_Clone_byte_byte.calls A7 c7 m7 m7 _ (Kd.C_below HC7.out (by repeat (first | exact HBW.out | apply below_drew1 | apply pw_below_drewN))) HL7.out HCL.out).mono ?_; rintro e w12 ⟨v12, rfl, hR, hb⟩; have HRC := Aside0.mk hR; have BS12 := Aside0.mk (blk_below (by (with_reducible repeat (first | refine blk_drewN ?_ _ | refine blk_drew ?_)); exact BSW.out) hb); have HB12 := Aside0.mk (below_then (show Below w.heap.size w _ from by (with_reducible repeat (first | refine below_drew1 ?_ | refine pw_below_drewN ?_ _)); exact HBW.out) (by (with_reducible first | exact HBW.out.size | exact (below_drew1 HBW.out).size)) hb); clear hR hb; have hcz_0 : w12.cell? ⟨gs, 0, none⟩ = some (.int .u64 n0) := (blk_cell BS12.out 0).trans rfl; have hcz_1 : w12.cell? ⟨gs, 1, none⟩ = some (.int .u64 n1) := (blk_cell BS12.out 1).trans rfl; have hcz_2 : w12.cell? ⟨gs, 2, none⟩ = some (.int .u64 n2) := (blk_cell BS12.out 2).trans rfl; have hcz_3 : w12.cell? ⟨gs, 3, none⟩ = some (.int .u64 n3) := (blk_cell BS12.out 3).trans rfl; have hcz_4 : w12.cell? ⟨gs, 4, none⟩ = some (.int .u64 n4) := (blk_cell BS12.out 4).trans rfl; have hcz_5 : w12.cell? ⟨gs, 5, none⟩ = some (.string s5) := (blk_cell BS12.out 5).trans rfl; have hcz_6 : w12.cell? ⟨gs, 6, none⟩ = some (.string s6) := (blk_cell BS12.out 6).trans rfl; have hcz_7 : w12.cell? ⟨gs, 7, none⟩ = some (.bool (b7 == 1)) := (blk_cell BS12.out 7).trans rfl; have hfz_0 := blk_frozen BS12.out 0; have hfz_1 := blk_frozen BS12.out 1; have hfz_2 := blk_frozen BS12.out 2; have hfz_3 := blk_frozen BS12.out 3; have hfz_4 := blk_frozen BS12.out 4; have hfz_5 := blk_frozen BS12.out 5; have hfz_6 := blk_frozen BS12.out 6; have hfz_7 := blk_frozen BS12.out 7)
      all_goals
        have hr1 := Kd.R_lower (Kd.R_mono (Kd.R_newB HRC.out (blk_drew BSW.out)) (fun _ h => h.2)) (below_drew1 HBW.out).size
        have HR1 := Aside0.mk (Kd.R_mono (ok' := fun _ => True) (Kd.R_far (p := ⟨gs, 7, none⟩) (Kd.R_far (p := ⟨gs, 6, none⟩) (Kd.R_far (p := ⟨gs, 5, none⟩) (Kd.R_far (p := ⟨gs, 4, none⟩) (Kd.R_far (p := ⟨gs, 3, none⟩) (Kd.R_far (p := ⟨gs, 2, none⟩) (Kd.R_far (p := ⟨gs, 1, none⟩) (Kd.R_far (p := ⟨gs, 0, none⟩) hr1 (fun _ h => h) (.int .u64 n0)) (fun _ h => h) (.int .u64 n1)) (fun _ h => h) (.int .u64 n2)) (fun _ h => h) (.int .u64 n3)) (fun _ h => h) (.int .u64 n4)) (fun _ h => h) (.string s5)) (fun _ h => h) (.string s6)) (fun _ h => h) (.bool (b7 == 1))) (fun _ _ => trivial))
        clear hr1
        go_wp2
        refine bodyPost_ret (results_ctt rfl _ _ gs 28 #[.int .u64 n0, .int .u64 n1, .int .u64 n2, .int .u64 n3, .int .u64 n4, .string s5, .string s6, .bool (b7 == 1)] (0, 0) _ rfl (by have hch := (blk_set (blk_set (blk_set (blk_set (blk_set (blk_set (blk_set (blk_set BS12.out 0 (.int .u64 n0)) 1 (.int .u64 n1)) 2 (.int .u64 n2)) 3 (.int .u64 n3)) 4 (.int .u64 n4)) 5 (.string s5)) 6 (.string s6)) 7 (.bool (b7 == 1))); simp only [List.setIfInBounds_toArray, List.set_cons_zero, List.set_cons_succ] at hch; exact hch) Try.underlying28 rfl (by kernel_rfl)) rfl ?_
        exact HQ.out _ _ HR1.out (by (with_reducible repeat (first | refine below_drew1 ?_ | refine below_set ?_ HGS.out)); exact HB12.out)
    · have hdb : (kd != 0) = true := bne_iff_ne.mpr hd
      go_wp2_with fail
      obtain ⟨W, hW⟩ : ∃ W, w11.setCell ⟨g, 1, none⟩ (.int .i64 kd) = W := ⟨_, rfl⟩
      rw [hW]
      have HSTW := Aside0.mk (show span_Cut.St w W g m7 kd from by rw [← hW]; exact span_Cut.St_k HST11.out HG.out kd)
      have BSW := Aside0.mk (show W.heap[gs]? = some (.cells #[.int .u64 n0, .int .u64 n1, .int .u64 n2, .int .u64 n3, .int .u64 n4, .string s5, .string s6, .bool (b7 == 1)] 28 (0, 0)) from by rw [← hW]; exact blk_far BS11.out (p := ⟨g, 1, none⟩) hnb _)
      clear hcz_0 hcz_1 hcz_2 hcz_3 hcz_4 hcz_5 hcz_6 hcz_7 hfz_0 hfz_1 hfz_2 hfz_3 hfz_4 hfz_5 hfz_6 hfz_7 hgz_1 hgf_1
      clear HST11 BS11 hW
      obtain ⟨hgz_1, hgf_1⟩ := span_Cut.St_cell HSTW.out
      have hcz_0 : W.cell? ⟨gs, 0, none⟩ = some (.int .u64 n0) := (blk_cell BSW.out 0).trans rfl
      have hcz_1 : W.cell? ⟨gs, 1, none⟩ = some (.int .u64 n1) := (blk_cell BSW.out 1).trans rfl
      have hcz_2 : W.cell? ⟨gs, 2, none⟩ = some (.int .u64 n2) := (blk_cell BSW.out 2).trans rfl
      have hcz_3 : W.cell? ⟨gs, 3, none⟩ = some (.int .u64 n3) := (blk_cell BSW.out 3).trans rfl
      have hcz_4 : W.cell? ⟨gs, 4, none⟩ = some (.int .u64 n4) := (blk_cell BSW.out 4).trans rfl
      have hcz_5 : W.cell? ⟨gs, 5, none⟩ = some (.string s5) := (blk_cell BSW.out 5).trans rfl
      have hcz_6 : W.cell? ⟨gs, 6, none⟩ = some (.string s6) := (blk_cell BSW.out 6).trans rfl
      have hcz_7 : W.cell? ⟨gs, 7, none⟩ = some (.bool (b7 == 1)) := (blk_cell BSW.out 7).trans rfl
      have hfz_0 := blk_frozen BSW.out 0
      have hfz_1 := blk_frozen BSW.out 1
      have hfz_2 := blk_frozen BSW.out 2
      have hfz_3 := blk_frozen BSW.out 3
      have hfz_4 := blk_frozen BSW.out 4
      have hfz_5 := blk_frozen BSW.out 5
      have hfz_6 := blk_frozen BSW.out 6
      have hfz_7 := blk_frozen BSW.out 7
      go_region
      go_wp2
      refine bodyPost_ret (results_ctt rfl _ _ gs 28 #[.int .u64 0, .int .u64 0, .int .u64 0, .int .u64 0, .int .u64 0, .string ⟨#[]⟩, .string ⟨#[]⟩, .bool false] (0, 0) _ rfl (by have hch := (blk_set (blk_set (blk_set (blk_set (blk_set (blk_set (blk_set (blk_set BSW.out 0 (.int .u64 0)) 1 (.int .u64 0)) 2 (.int .u64 0)) 3 (.int .u64 0)) 4 (.int .u64 0)) 5 (.string ⟨#[]⟩)) 6 (.string ⟨#[]⟩)) 7 (.bool false)); simp only [List.setIfInBounds_toArray, List.set_cons_zero, List.set_cons_succ] at hch; exact blk_drew hch) Try.underlying28 rfl (by kernel_rfl)) rfl ?_
      exact HBAD.out hd _ (by (with_reducible repeat (first | refine below_drew1 ?_ | refine below_set ?_ HGS.out)); exact HSTW.out.1)
  · have hkb1 : (k7 != 0) = true := bne_iff_ne.mpr hk
    have hkb2 : (k7 == 0) = false := beq_eq_false_iff_ne.mpr hk
    have h8 := H8.out
    rw [if_neg hk] at h8
    obtain rfl := Option.some.inj h8
    clear h8
    go_wp2_with fail
    obtain ⟨W, hW⟩ : ∃ W, w10.setCell ⟨gs, 6, none⟩ (.string s6) = W := ⟨_, rfl⟩
    rw [hW]
    have HSTW := Aside0.mk (show span_Cut.St w W g m7 k7 from by rw [← hW]; exact span_Cut.St_far HST10.out HGS.out HNE.out.symm)
    have BSW := Aside0.mk (show W.heap[gs]? = some (.cells #[.int .u64 n0, .int .u64 n1, .int .u64 n2, .int .u64 n3, .int .u64 n4, .string s5, .string s6, .bool (b7 == 1)] 28 (0, 0)) from by rw [← hW]; have hch := blk_set BS10.out 6 (.string s6); simp only [List.setIfInBounds_toArray, List.set_cons_zero, List.set_cons_succ] at hch; exact hch)
    clear hcz_0 hcz_1 hcz_2 hcz_3 hcz_4 hcz_5 hcz_6 hcz_7 hfz_0 hfz_1 hfz_2 hfz_3 hfz_4 hfz_5 hfz_6 hfz_7 hgz_1 hgf_1
    clear HST10 BS10 hW
    obtain ⟨hgz_1, hgf_1⟩ := span_Cut.St_cell HSTW.out
    have hcz_0 : W.cell? ⟨gs, 0, none⟩ = some (.int .u64 n0) := (blk_cell BSW.out 0).trans rfl
    have hcz_1 : W.cell? ⟨gs, 1, none⟩ = some (.int .u64 n1) := (blk_cell BSW.out 1).trans rfl
    have hcz_2 : W.cell? ⟨gs, 2, none⟩ = some (.int .u64 n2) := (blk_cell BSW.out 2).trans rfl
    have hcz_3 : W.cell? ⟨gs, 3, none⟩ = some (.int .u64 n3) := (blk_cell BSW.out 3).trans rfl
    have hcz_4 : W.cell? ⟨gs, 4, none⟩ = some (.int .u64 n4) := (blk_cell BSW.out 4).trans rfl
    have hcz_5 : W.cell? ⟨gs, 5, none⟩ = some (.string s5) := (blk_cell BSW.out 5).trans rfl
    have hcz_6 : W.cell? ⟨gs, 6, none⟩ = some (.string s6) := (blk_cell BSW.out 6).trans rfl
    have hcz_7 : W.cell? ⟨gs, 7, none⟩ = some (.bool (b7 == 1)) := (blk_cell BSW.out 7).trans rfl
    have hfz_0 := blk_frozen BSW.out 0
    have hfz_1 := blk_frozen BSW.out 1
    have hfz_2 := blk_frozen BSW.out 2
    have hfz_3 := blk_frozen BSW.out 3
    have hfz_4 := blk_frozen BSW.out 4
    have hfz_5 := blk_frozen BSW.out 5
    have hfz_6 := blk_frozen BSW.out 6
    have hfz_7 := blk_frozen BSW.out 7
    go_region
    go_wp2
    refine bodyPost_ret (results_ctt rfl _ _ gs 28 #[.int .u64 0, .int .u64 0, .int .u64 0, .int .u64 0, .int .u64 0, .string ⟨#[]⟩, .string ⟨#[]⟩, .bool false] (0, 0) _ rfl (by have hch := (blk_set (blk_set (blk_set (blk_set (blk_set (blk_set (blk_set (blk_set BSW.out 0 (.int .u64 0)) 1 (.int .u64 0)) 2 (.int .u64 0)) 3 (.int .u64 0)) 4 (.int .u64 0)) 5 (.string ⟨#[]⟩)) 6 (.string ⟨#[]⟩)) 7 (.bool false)); simp only [List.setIfInBounds_toArray, List.set_cons_zero, List.set_cons_succ] at hch; exact blk_drew hch) Try.underlying28 rfl (by kernel_rfl)) rfl ?_
    exact HBAD.out hk _ (by (with_reducible repeat (first | refine below_drew1 ?_ | refine below_set ?_ HGS.out)); exact HSTW.out.1)
theorem span_Cut.calls (A0 : Option Addr) (c0 : Nat) (l0 : List Int) (r1 : Int) (r2 : Int) (r3 : Int) (r4 : Int) (r5 : Int) (r6 : ByteArray) (r7 : ByteArray) (r8 : Bool) (r9 : List Int) (r10 : Int) (w : World) (hr0 : Kd.C (Kd.int .u8) w A0 l0.length l0) (hc0 : l0.length ≤ c0) (h : span_Cut.f l0 = some (r1, r2, r3, r4, r5, r6, r7, r8, r9, r10)) :
    Calls Try.prog 21 #[.slice A0 l0.length c0] w fun e w' => ∃ v8_ : Value, e = .returned (.tuple #[.agg #[.int .u64 r1, .int .u64 r2, .int .u64 r3, .int .u64 r4, .int .u64 r5, .string r6, .string r7, .bool r8], v8_, .int .i64 r10]) ∧ Kd.R (Kd.int .u8) 5 w' w.heap.size (fun _ => True) v8_ r9 ∧ Below w.heap.size w w' := by
  unfold span_Cut.f at h
  obtain ⟨a, ha, h⟩ := Option.bind_eq_some_iff.1 h
  obtain ⟨b, hb, h⟩ := Option.bind_eq_some_iff.1 h
  obtain ⟨c, hc, h⟩ := Option.bind_eq_some_iff.1 h
  obtain ⟨d, hd, h⟩ := Option.bind_eq_some_iff.1 h
  obtain ⟨e, he, h⟩ := Option.bind_eq_some_iff.1 h
  obtain ⟨kd, hkd, h⟩ := Option.bind_eq_some_iff.1 h
  refine span_Cut.walk A0 c0 l0 w hr0 hc0 _ _ _ _ _ _ kd _ _ _ _ _ _ _ _ _ _ _ _ _ _ _ _ _ _ ha hb hc hd he rfl rfl rfl hkd _ (fun hk w' hB => ?_) (fun hk => ?_)
  · rw [if_neg hk] at h
    simp only [Option.some.injEq, Prod.mk.injEq] at h
    obtain ⟨rfl, rfl, rfl, rfl, rfl, rfl, rfl, rfl, rfl, rfl⟩ := h
    exact ⟨_, rfl, Kd.R_nil _ _ _ _ _, hB⟩
  · rw [if_pos hk] at h
    obtain ⟨r, hr, h⟩ := Option.bind_eq_some_iff.1 h
    have hrr : r = _ := (by unfold slices_Clone_byte_byte.f at hr; split at hr; exact (Option.some.inj hr).symm; cases hr)
    subst hrr
    simp only [Option.some.injEq, Prod.mk.injEq] at h
    obtain ⟨rfl, rfl, rfl, rfl, rfl, rfl, rfl, rfl, rfl, rfl⟩ := h
    exact ⟨hr, fun v w' hR hB => ⟨v, rfl, hR, hB⟩⟩


/-! ### winnowref03_Number: function 39 -/
def winnowref03_Number.l0 : Nat → List Int → Int → Int → Option (Int)
  | 0, _, _, _ => none
  | k + 1, x0, x3, x4 => if x4 < 8 then (if 0 ≤ x4 then (if x4 < (x0.length : Int) then (winnowref03_Number.l0 k x0 (IntKind.u64.wrap ((IntKind.u64.wrap (x3 * 256)) + (IntKind.u64.wrap (rd x0 x4)))) (wrap64 (x4 + 1))) else (none)) else (none)) else (some x3)
def winnowref03_Number.f (k : Nat) (l0 : List Int) : Option (Int) := winnowref03_Number.l0 k l0 0 0
theorem winnowref03_Number.mono_l : ∀ k, (∀ y0 y1 y2, LeO (winnowref03_Number.l0 k y0 y1 y2) (winnowref03_Number.l0 (k + 1) y0 y1 y2))
  | 0 => fun _ _ _ r h => by simp [winnowref03_Number.l0] at h
  | k + 1 => by
    have ih0 := winnowref03_Number.mono_l k
    · intro y0 y1 y2
      unfold winnowref03_Number.l0
      repeat' first
      | (with_reducible exact ih0 _ _ _)
      | (with_reducible exact LeO.refl _)
      | (with_reducible exact LeO.none _)
      | (with_reducible refine LeO.ite ?_ ?_)
      | (with_reducible refine LeO.bind ?_ (fun _ => ?_))
      | exact ih0 _ _ _
      | exact LeO.none _
      | refine LeO.ite ?_ ?_
      | refine LeO.bind ?_ (fun _ => ?_)
theorem winnowref03_Number.mono : ∀ a0 k, LeO (winnowref03_Number.f k a0) (winnowref03_Number.f (k + 1) a0) := by
  intro a0 k
  have ih0 := winnowref03_Number.mono_l k
  unfold winnowref03_Number.f
  repeat' first
      | (with_reducible exact ih0 _ _ _)
      | (with_reducible exact LeO.refl _)
      | (with_reducible exact LeO.none _)
      | (with_reducible refine LeO.ite ?_ ?_)
      | (with_reducible refine LeO.bind ?_ (fun _ => ?_))
      | exact ih0 _ _ _
      | exact LeO.none _
      | refine LeO.ite ?_ ?_
      | refine LeO.bind ?_ (fun _ => ?_)
set_option maxHeartbeats 40000000 in
set_option maxRecDepth 100000 in
theorem winnowref03_Number.calls (k : Nat) (A0 : Option Addr) (c0 : Nat) (l0 : List Int) (r : Int) (w : World) (hr0 : Kd.C (Kd.int .u8) w A0 l0.length l0) (hc0 : l0.length ≤ c0) (h : winnowref03_Number.f k l0 = some r) :
    Calls Try.prog 39 #[.slice A0 l0.length c0] w fun e w' => e = .returned (.int .u64 r) ∧ Drawn0 w w' := by
  have HR0 := Aside0.mk hr0
  have HC0 := Aside0.mk hc0
  clear hr0 hc0
  have H : (winnowref03_Number.l0 k l0 0 0) = some r := h
  clear h
  have H' := Aside0.mk H
  clear H
  go_enter Try.func39, Try.ntmps39
  go_wp2
  go_loopg [3, 4] k (fun kq v3 v4 w' => ∃ (x3_1 : Int) (x4_1 : Int), v3 = .int .u64 x3_1 ∧ v4 = .int .i64 x4_1 ∧ Aside0 (winnowref03_Number.l0 kq l0 x3_1 x4_1 = some r) ∧ Aside0 (kq ≤ k) ∧ Drawn0 w w')
  case atStart => exact ⟨(0), (0), (by first | rfl | (simp; done) | (simp [*]; done)), (by first | rfl | (simp; done) | (simp [*]; done)), H', ⟨Nat.le_refl _⟩, by repeat (first | exact Drawn0.refl _ | apply Drawn0.step)⟩
  case round =>
    clear H'
    obtain ⟨x3_1, x4_1, rfl, rfl, HA, HK1, ⟨m1, rfl⟩⟩ := hrel
    cases gk with
    | zero => exact absurd HA.out (by simp [winnowref03_Number.l0])
    | succ k1 =>
      have H := HA.out
      clear HA
      simp only [winnowref03_Number.l0] at H
      by_cases c2 : x4_1 < 8
      · rw [if_pos c2] at H
        have c2b0 : decide (x4_1 < 8) = true := decide_eq_true c2
        clear c2
        by_cases c3 : 0 ≤ x4_1
        · rw [if_pos c3] at H
          have c3b0 : decide (0 ≤ x4_1) = true := decide_eq_true c3
          clear c3
          by_cases c4 : x4_1 < (l0.length : Int)
          · rw [if_pos c4] at H
            have c4b0 : decide (x4_1 < (l0.length : Int)) = true := decide_eq_true c4
            clear c4
            have H' := Aside0.mk H
            clear H
            have p235 : 0 ≤ (x4_1 : Int) := of_decide_eq_true (by first | (with_reducible assumption) | assumption)
            have q235 : x4_1 < (l0.length : Int) := of_decide_eq_true (by first | (with_reducible assumption) | assumption)
            obtain ⟨ad235, e235, hx235_0⟩ := Kd.at_int HR0.out x4_1 p235 q235
            cases e235
            replace p235 := eq_true p235
            replace q235 := eq_true q235
            go_wp2
            go_roundg k1
            case measure => have := HK1.out; omega
            case rel => exact ⟨(IntKind.u64.wrap ((IntKind.u64.wrap (x3_1 * 256)) + (IntKind.u64.wrap (rd l0 x4_1)))), (wrap64 (x4_1 + 1)), (by first | rfl | (simp; done) | (simp [*]; done)), (by first | rfl | (simp; done) | (simp [*]; done)), H', ⟨by have := HK1.out; omega⟩, by repeat (first | exact Drawn0.refl _ | apply Drawn0.step)⟩
          · rw [if_neg c4] at H
            exact absurd H (by simp)
        · rw [if_neg c3] at H
          exact absurd H (by simp)
      · rw [if_neg c2] at H
        have c2b0 : decide (x4_1 < 8) = false := decide_eq_false c2
        clear c2
        obtain rfl := Option.some.inj H
        go_wp2
        go_ret
        exact ⟨by first | rfl | (simp; done) | (simp [*]; done), by repeat (first | exact Drawn0.refl _ | apply Drawn0.step)⟩

end Go.Proofs.Ytigcdbeaachkoaa.PAll
