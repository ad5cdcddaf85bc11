import Derived.Test.YtlpnpnjjmpkapaaPAllx0
import Derived.Test.YtlpnpnjjmpkapaaPAllx5
namespace Go.Proofs.Ytlpnpnjjmpkapaa.PAll
open Go.RowKit Go.Proofs.YtlpnpnjjmpkapaaW.PrintWords Go.Proofs.YtlpnpnjjmpkapaaW.PrintLast Go.Proofs.YtlpnpnjjmpkapaaW.PrintMore
attribute [local go_sem] max2_int min2_int max_two min_two max_three min_three max_four min_four   -- for this text's walks alone
set_option linter.unusedVariables false
set_option linter.unusedSimpArgs false

-- NOT PRINTED: function 23 (message_Of)

-- NOT PRINTED: function 37 (message_writer_small)

def num_Put64.l0 : Nat → List Int → Int → Int → Option (List Int)
 | 0, _, _, _ => none
 | k + 1, x0, x1, x5 => if x5 ≥ 0 then (if 0 ≤ (IntKind.u64.wrap (x5)) then (if x0.length < 140737488355328 then (num_Put64.l0 k (x0 ++ [(shr .u64 x1 (IntKind.u64.wrap (x5))) % 256]) x1 (wrap64 (x5 - 8))) else (none)) else (none)) else (some x0)
def num_Put64.f (k : Nat) (l0 : List Int) (a1 : Int) : Option (List Int) := num_Put64.l0 k l0 a1 56
set_option maxHeartbeats 40000000 in
set_option maxRecDepth 100000 in
theorem num_Put64.calls (k : Nat) (P0_ : Nat → Prop) (u9000_ : Value) (l0 : List Int) (a1 : Int) (r : List Int) (w0 w : World) (hB : Below w0.heap.size w0 w) (ho0 : Kd.R (Kd.int .u8) 5 w w0.heap.size P0_ u9000_ l0) (h : num_Put64.f k l0 a1 = some r) :
  Calls Try.prog 72 #[u9000_, .int .u64 a1] w fun e w' => ∃ v0_ : Value, e = .returned (v0_) ∧ Kd.R (Kd.int .u8) 5 w' w0.heap.size (fun k_ => (P0_ k_ ∨ w.heap.size ≤ k_)) v0_ r ∧ Below w0.heap.size w0 w' ∧ Kept w w' (fun k_ => P0_ k_) := by
 have HO0 := Aside0.mk (show Kd.R (Kd.int .u8) 5 w w0.heap.size (fun k_ => (P0_ k_ ∨ w.heap.size ≤ k_)) u9000_ l0 from Kd.R_mono ho0 (fun k_ hk => (.inl hk)))
 have HK := Aside0.mk (Kept.refl w (fun k_ => P0_ k_))
 have HW0 := Aside0.mk hB.size; have HB := Aside0.mk hB; clear hB; have H : (num_Put64.l0 k l0 a1 56) = some r := h; clear h
 have H' := Aside0.mk H
 clear H
 go_enter Try.func72, Try.ntmps72
 go_wp2
 go_loopg [0, 5] k (fun kq v0 v5 w' => ∃ (x0_1 : List Int) (x5_1 : Int), v5 = .int .i64 x5_1 ∧ Aside0 (num_Put64.l0 kq x0_1 a1 x5_1 = some r) ∧ Aside0 (kq ≤ k) ∧ Aside0 (Kd.R (Kd.int .u8) 5 w' w0.heap.size (fun k_ => (P0_ k_ ∨ w.heap.size ≤ k_)) v0 x0_1) ∧ Aside0 (Kept w w' (fun k_ => P0_ k_)) ∧ Aside0 (Below w0.heap.size w0 w'))
 case atStart => exact ⟨(l0), (56), (by (rfl)), H', ⟨Nat.le_refl _⟩, ⟨by (with_reducible skip); exact HO0.out⟩, ⟨by repeat (with_reducible (exact HK.out))⟩, ⟨by repeat (with_reducible (exact HB.out))⟩⟩
 case round =>
  clear H'
  obtain ⟨x0_1, x5_1, rfl, HA, HK1, HO_0, HK, HB⟩ := hrel
  cases gk with
  | zero => exact absurd HA.out (by simp [num_Put64.l0])
  | succ k1 =>
   have H := HA.out; clear HA
   simp only [num_Put64.l0] at H
   by_cases c3 : x5_1 ≥ 0
   ·rw [if_pos c3] at H
    have c3b0 : decide (0 ≤ x5_1) = true := decide_eq_true c3; clear c3
    obtain ⟨ji4, hji4⟩ : ∃ j_ : Int, (IntKind.u64.wrap (x5_1)) = j_ := ⟨_, rfl⟩
    replace H : (if 0 ≤ (ji4) then (if x0_1.length < 140737488355328 then (num_Put64.l0 k1 (x0_1 ++ [(shr .u64 a1 (ji4)) % 256]) a1 (wrap64 (x5_1 - 8))) else (none)) else (none)) = some r := by (rw [hji4] at H; exact H)
    by_cases c5 : 0 ≤ (ji4)
    ·rw [if_pos c5] at H
     have c5b0 := eq_true c5; have c5b1 : decide (0 ≤ (ji4)) = true := decide_eq_true c5; clear c5
     obtain ⟨ji6, hji6⟩ : ∃ j_ : Int, (shr .u64 a1 (ji4)) = j_ := ⟨_, rfl⟩
     replace H : (if x0_1.length < 140737488355328 then (num_Put64.l0 k1 (x0_1 ++ [(ji6) % 256]) a1 (wrap64 (x5_1 - 8))) else (none)) = some r := by (rw [hji6] at H; exact H)
     have hji6_ : (a1 / 2 ^ min (ji4).toNat 64) = ji6 := hji6; have hji6z : (ji4) ≤ 64 → (a1 / 2 ^ (ji4).toNat) = ji6 := shr_small hji6
     by_cases c7 : x0_1.length < 140737488355328
     ·rw [if_pos c7] at H
      have LMc7 := Aside0.mk c7; clear c7
      obtain ⟨y136, hy136⟩ : ∃ y_ : List Int, y_ = (x0_1 ++ [(ji6) % 256]) := ⟨_, rfl⟩
      replace H : (num_Put64.l0 k1 y136 a1 (wrap64 (x5_1 - 8))) = some r := by (rw [hy136]; with_reducible exact H)
      have Ny136 := Aside0.mk hy136; clear hy136
      have H' := Aside0.mk H
      clear H
      go_wp2_with ((with_reducible refine gate_builtin (b := .append) (xs := #[.tmp 10, .tmp 16]) rfl ?_); at_builtin; refine Kd.R_append (Kd.int .u8) (w0 := w0) w0.heap.size rfl (.tmp 10) (.tmp 16) 35 5 (.int .u8 0) 1 rfl Try.underlying35 info5 rfl (by decide) (by omega) u0 x0_1 ((ji6) % 256) [.int .u8 ((ji6) % 256)] (fun k_ => (P0_ k_ ∨ w.heap.size ≤ k_)) (fun _ => False) rfl rfl ?aP (fun _ hk => hk.elim) ?aF ?aO ?aB ?aS ?aL ?_; (case aP => exact rfl); (case aB => exact (by repeat (with_reducible (exact HB.out)))); (case aF => exact (fun k_ hk => (.inr (Nat.le_trans (by (exact HK.out.1)) hk)))); (case aO => exact (by (with_reducible skip); exact HO_0.out)); (case aS => exact (below_size (by repeat (with_reducible (exact HB.out))))); (case aL => have := LMc7.out; omega); intro v137 w8 ho hb hg hat; rw [← Ny136.out] at ho; have n0_ := Aside0.mk (hb); have n1_ := Aside0.mk (Kept.of_grown (S := (fun k_ => P0_ k_)) hg (by repeat (with_reducible (exact HK.out))) (fun k_ e_ => (HO_0.out.1 k_ e_))); have n2_ := Aside0.mk (ho); clear HB; clear HK; clear HO_0; have HB := n0_; have HK := n1_; have HO138 := n2_; clear n0_ n1_ n2_; clear ho hb hg hat)
      go_roundg k1
      case measure => have := HK1.out; omega
      case rel => exact ⟨(y136), (wrap64 (x5_1 - 8)), (by (rfl)), H', ⟨by have := HK1.out; omega⟩, ⟨by (with_reducible skip); exact HO138.out⟩, ⟨by repeat (with_reducible (exact HK.out))⟩, ⟨by repeat (with_reducible (exact HB.out))⟩⟩
     ·rw [if_neg c7] at H
      exact absurd H (by simp)
    ·rw [if_neg c5] at H
     exact absurd H (by simp)
   ·rw [if_neg c3] at H
    have c3b0 : decide (0 ≤ x5_1) = false := decide_eq_false c3; clear c3
    obtain rfl := Option.some.inj H
    go_wp2
    go_ret
    exact ⟨_, by (rfl), by (with_reducible skip); exact HO_0.out, by repeat (with_reducible (exact HB.out)), by repeat (with_reducible (exact HK.out))⟩

-- NOT PRINTED: function 38 (message_writer_numbers)

/-- slices.Clone: the same elements, in memory of the call's own. -/
def slices_Clone_byte_byte.f (l0 : List Int) : Option (List Int) := if l0.length * 1 ≤ 140737488355328 then some l0 else none
set_option maxHeartbeats 4000000 in
set_option maxRecDepth 100000 in
theorem slices_Clone_byte_byte.calls (A0 : Option Addr) (c0 : Nat) (l0 : List Int) (r : List Int) (w : World) (hr0 : Kd.C (Kd.int .u8) w A0 l0.length l0) (hc0 : l0.length ≤ c0) (h : slices_Clone_byte_byte.f l0 = some r) :
  Calls Try.prog 82 #[.slice A0 l0.length c0] w fun e w' => ∃ v0_ : Value, e = .returned (v0_) ∧ Kd.R (Kd.int .u8) 5 w' w.heap.size (fun _ => True) v0_ r ∧ Below w.heap.size w w' := by
 unfold slices_Clone_byte_byte.f at h
 split at h
 ·rename_i hl
  obtain rfl := Option.some.inj h
  clear h
  have q22 : ∀ (w : World) (a : Option Addr) (n c n' c' : Nat), (binOp .eql 35 (.slice a n c) (.slice none n' c')).run Try.prog w = .ok (.bool a.isNone) w := fun w a n c n' c' => Lib.run_eql_slice_nil w _ _ a n c n' c' Try.underlying35
  have HR0 := Aside0.mk hr0; clear hr0
  rcases A0 with _ | ad
  ·obtain rfl := Hand.C_none HR0.out
   clear HR0
   go_enter Try.func82, Try.ntmps82
   go_wp2
   go_ret
   exact ⟨_, rfl, Kd.R_nil _ _ _ _ _, Below.refl _ _⟩
  go_enter Try.func82, Try.ntmps82
  go_wp2_with (at_builtin; refine Kd.R_append_rows (Kd.int .u8) (Rr := ((Kd.int .u8)).K w) (w0 := w) w.heap.size rfl (.tmp 5) (.tmp 6) 35 5 (.int .u8 0) 1 rfl Try.underlying35 info5 rfl (by decide) (by decide) (.slice (some ⟨w.heap.size, 0, none⟩) 0 0) [] l0 (some ad) l0.length c0 (fun _ => True) (fun _ => False) rfl rfl ?o1 ?o2 ?o6 ?o7 ?o8 ?o3 ?o4 ?o5 ?_)
  case o1 => exact Hand.R_empty _ _ _
  case o2 => exact ReadsRow.imp_ HR0.out (below_alloc (Below.refl _ _) _) (fun _ _ hp => hp)
  case o6 => intro x cs h; exact h
  case o7 => exact fun _ hk => hk.elim
  case o8 => exact fun _ _ => trivial
  case o3 => exact below_alloc (Below.refl _ _) _
  case o4 => simp
  case o5 => simpa using hl
  intro v1 w1 hown hb hg hat
  have HO := Aside0.mk hown; have HB := Aside0.mk hb; clear hown hb hg hat
  go_wp2
  go_ret
  exact ⟨v1, rfl, HO.out, HB.out⟩
 exact absurd h (by simp)


/-- span.Put: numbers, the highest byte first, one behind the other. -/
def span_Put.to (b ns : List Int) : Nat → Option (List Int)
 | 0 => some b
 | k + 1 => (span_Put.to b ns k).bind fun x => num_Put64.f 100 x (rd ns k)
/-- Texts, each behind its length. -/
def span_Put.tx (b : List Int) (ss : List ByteArray) : Nat → List Int
 | 0 => b
 | k + 1 => span_Put.tx b ss k ++ [((rdOf ByteArray.empty ss k).size : Int) % 256] ++ bytesOf (rdOf ByteArray.empty ss k)
def span_Put.f (l0 : List Int) (a1_0 : Int) (a1_1 : Int) (a1_2 : Int) (a1_3 : Int) (a1_4 : Int) (a1_5 : ByteArray) (a1_6 : ByteArray) (a1_7 : Bool) : Option (List Int × Int) :=
 (span_Right.f 1000 a1_0 a1_1 a1_2 a1_3 a1_4 a1_5 a1_6 a1_7).bind fun kd => if kd = 0 then
  ((slices_Clone_byte_byte.f l0).bind fun b0 => (span_Put.to b0 [a1_0, a1_1, a1_2, a1_3, a1_4] 5).bind fun b5 =>
   if b5.length + a1_5.size + a1_6.size + 10 ≤ 140737488355328 then some (span_Put.tx (b5 ++ [if a1_7 = true then 1 else 0]) [a1_5, a1_6] 2, 0) else none) else some ([], kd)
theorem span_Put.to_some {b ns x : List Int} : ∀ {n : Nat}, span_Put.to b ns n = some x → ∀ k, k ≤ n → ∃ y, span_Put.to b ns k = some y
 | 0, h, k, hk => ⟨x, by rwa [show k = 0 by omega]⟩
 | n + 1, h, k, hk => by
  rcases Nat.lt_or_ge n k with hlt | hge
  ·exact ⟨x, by rwa [show k = n + 1 by omega]⟩
  ·obtain ⟨y, hy, _⟩ := Option.bind_eq_some_iff.1 (show (span_Put.to b ns n).bind _ = some x from h)
   exact span_Put.to_some hy k hge
theorem span_Put.to_step {b ns x : List Int} {n k : Nat} (h : span_Put.to b ns n = some x) (hk : k < n) {y : List Int} (hy : span_Put.to b ns k = some y) : ∃ z, num_Put64.f 100 y (rd ns k) = some z ∧ span_Put.to b ns (k + 1) = some z := by
 obtain ⟨z, hz⟩ := span_Put.to_some h (k + 1) hk
 refine ⟨z, ?_, hz⟩
 have h2 : (span_Put.to b ns k).bind (fun x => num_Put64.f 100 x (rd ns k)) = some z := hz
 rw [hy] at h2
 exact h2
theorem span_Put.tx_len (b : List Int) (ss : List ByteArray) (k : Nat) : (span_Put.tx b ss (k + 1)).length = (span_Put.tx b ss k).length + 1 + (rdOf ByteArray.empty ss k).size := by
 show (span_Put.tx b ss k ++ [_] ++ bytesOf _).length = _
 rw [List.length_append, List.length_append, bytesOf_length]
 rfl
theorem span_Put.tx_le (b : List Int) (s t : ByteArray) (k : Nat) (hk : k ≤ 2) : (span_Put.tx b [s, t] k).length ≤ b.length + 2 + s.size + t.size := by
 have h1 := span_Put.tx_len b [s, t] 0; have h2 := span_Put.tx_len b [s, t] 1; have e0 : (span_Put.tx b [s, t] 0).length = b.length := rfl; have e1 : rdOf ByteArray.empty [s, t] 0 = s := rfl; have e2 : rdOf ByteArray.empty [s, t] (1 : Nat) = t := rfl
 rw [show ((0 : Nat) : Int) = 0 from rfl, e1] at h1
 rw [e2] at h2
 have hc : k = 0 ∨ k = 1 ∨ k = 2 := by omega
 rcases hc with rfl | rfl | rfl <;> simp only [Nat.zero_add, Nat.reduceAdd] at * <;> omega
set_option maxRecDepth 100000 in
theorem span_Put.ix5 (n0 n1 n2 n3 n4 : Int) (k : Nat) (hk : k < 5) (W : World) : (Instr.index 147 (.agg #[.int .u64 n0, .int .u64 n1, .int .u64 n2, .int .u64 n3, .int .u64 n4]) (.int .i64 (k : Int))).run Try.prog W = .ok (.int .u64 (rd [n0, n1, n2, n3, n4] k)) W := by
 have hc : k = 0 ∨ k = 1 ∨ k = 2 ∨ k = 3 ∨ k = 4 := by omega
 rcases hc with rfl | rfl | rfl | rfl | rfl <;> rfl
set_option maxRecDepth 100000 in
theorem span_Put.ix2 (s t : ByteArray) (k : Nat) (hk : k < 2) (W : World) : (Instr.index 148 (.agg #[.string s, .string t]) (.int .i64 (k : Int))).run Try.prog W = .ok (.string (rdOf ByteArray.empty [s, t] k)) W := by
 have hc : k = 0 ∨ k = 1 := by omega
 rcases hc with rfl | rfl <;> rfl
theorem span_Put.bd5 (n0 n1 n2 n3 n4 : Int) (W : World) : (Instr.build 147 #[(0, .int .u64 n0), (1, .int .u64 n1), (2, .int .u64 n2), (3, .int .u64 n3), (4, .int .u64 n4)]).run Try.prog W = .ok (.agg #[.int .u64 n0, .int .u64 n1, .int .u64 n2, .int .u64 n3, .int .u64 n4]) W := by kernel_rfl
theorem span_Put.bd2 (s t : ByteArray) (W : World) : (Instr.build 148 #[(0, .string s), (1, .string t)]).run Try.prog W = .ok (.agg #[.string s, .string t]) W := by kernel_rfl
set_option maxHeartbeats 8000000 in
set_option maxRecDepth 100000 in
theorem span_Put.calls (A0 : Option Addr) (c0 : Nat) (l0 : List Int) (a1_0 : Int) (a1_1 : Int) (a1_2 : Int) (a1_3 : Int) (a1_4 : Int) (a1_5 : ByteArray) (a1_6 : ByteArray) (a1_7 : Bool) (r1 : List Int) (r2 : Int) (w : World) (hr0 : Kd.C (Kd.int .u8) w A0 l0.length l0) (hc0 : l0.length ≤ c0) (h : span_Put.f l0 a1_0 a1_1 a1_2 a1_3 a1_4 a1_5 a1_6 a1_7 = some (r1, r2)) :
  Calls Try.prog 73 #[.slice A0 l0.length c0, .agg #[.int .u64 a1_0, .int .u64 a1_1, .int .u64 a1_2, .int .u64 a1_3, .int .u64 a1_4, .string a1_5, .string a1_6, .bool a1_7]] w fun e w' => ∃ v0_ : Value, e = .returned (.tuple #[v0_, .int .i64 r2]) ∧ Kd.R (Kd.int .u8) 5 w' w.heap.size (fun _ => True) v0_ r1 ∧ Below w.heap.size w w' := by
 unfold span_Put.f at h
 obtain ⟨kd, hRt, h⟩ := Option.bind_eq_some_iff.1 h
 have HRT := Aside0.mk hRt; have HR0 := Aside0.mk hr0; have HC0 := Aside0.mk hc0; clear hRt hr0 hc0; have hu28 := Try.underlying76
 go_enter Try.func73, Try.ntmps73
 go_upto_region 1 with ((with_reducible refine gate_dst (N := 3) rfl ?_); refine box_event ?hg (N := 3) ?hd (cs := #[.int .u64 a1_0, .int .u64 a1_1, .int .u64 a1_2, .int .u64 a1_3, .int .u64 a1_4, .string a1_5, .string a1_6, .bool a1_7]) (t := 76) ?hr ?_; (case hd => rfl); (case hg => rfl); (case hr => (go_simp; done)); intro g hg w3 hbox hb3; have HGW := Aside0.mk (show w.heap.size ≤ g by rw [hg]; exact Nat.le_refl _); have BK := Aside0.mk hbox; have HB := Aside0.mk (show Below w.heap.size w w3 from hb3); clear hg hbox hb3)
 have hcz_0 : w3.cell? ⟨g, 0, none⟩ = some (.int .u64 a1_0) := (blk_cell BK.out 0).trans rfl; have hcz_1 : w3.cell? ⟨g, 1, none⟩ = some (.int .u64 a1_1) := (blk_cell BK.out 1).trans rfl; have hcz_2 : w3.cell? ⟨g, 2, none⟩ = some (.int .u64 a1_2) := (blk_cell BK.out 2).trans rfl; have hcz_3 : w3.cell? ⟨g, 3, none⟩ = some (.int .u64 a1_3) := (blk_cell BK.out 3).trans rfl; have hcz_4 : w3.cell? ⟨g, 4, none⟩ = some (.int .u64 a1_4) := (blk_cell BK.out 4).trans rfl; have hcz_5 : w3.cell? ⟨g, 5, none⟩ = some (.string a1_5) := (blk_cell BK.out 5).trans rfl; have hcz_6 : w3.cell? ⟨g, 6, none⟩ = some (.string a1_6) := (blk_cell BK.out 6).trans rfl; have hcz_7 : w3.cell? ⟨g, 7, none⟩ = some (.bool a1_7) := (blk_cell BK.out 7).trans rfl
 go_wp2_with fail
 refine (span_Right.calls 1000 a1_0 a1_1 a1_2 a1_3 a1_4 a1_5 a1_6 a1_7 kd _ HRT.out).mono ?_
 rintro e w4 ⟨rfl, hb4⟩
 have BK4 := Aside0.mk (blk_below BK.out hb4); have HB4 := Aside0.mk (below_then HB.out HB.out.size hb4); clear hcz_0 hcz_1 hcz_2 hcz_3 hcz_4 hcz_5 hcz_6 hcz_7 hb4 BK HB
 by_cases hk : kd = 0
 ·subst hk
  rw [if_pos rfl] at h
  obtain ⟨b0, hcl, h⟩ := Option.bind_eq_some_iff.1 h
  obtain ⟨b5, hto, h⟩ := Option.bind_eq_some_iff.1 h
  split at h
  case isFalse => exact absurd h (by simp)
  rename_i hlen
  obtain ⟨rfl, rfl⟩ := Prod.mk.inj (Option.some.inj h)
  have HCL := Aside0.mk hcl; have HTO := Aside0.mk hto; have HLEN := Aside0.mk hlen; clear h hcl hto hlen
  go_wp2_with fail
  refine (slices_Clone_byte_byte.calls A0 c0 l0 b0 _ (Kd.C_below HR0.out HB4.out) HC0.out HCL.out).mono ?_
  rintro e w5 ⟨v5, rfl, hR5, hb5⟩
  have BK5 := Aside0.mk (blk_below BK4.out hb5); have HB5 := Aside0.mk (below_then HB4.out HB4.out.size hb5)
  have HO5 := Aside0.mk (show Kd.R (Kd.int .u8) 5 w5 w.heap.size (fun k_ => k_ ≠ g) v5 b0 from Kd.R_lower (Kd.R_mono (Kd.R_newB hR5 BK4.out) (fun _ hk => hk.2)) HB4.out.size)
  clear hR5 hb5 BK4 HB4; have hcz_0 : w5.cell? ⟨g, 0, none⟩ = some (.int .u64 a1_0) := (blk_cell BK5.out 0).trans rfl; have hcz_1 : w5.cell? ⟨g, 1, none⟩ = some (.int .u64 a1_1) := (blk_cell BK5.out 1).trans rfl; have hcz_2 : w5.cell? ⟨g, 2, none⟩ = some (.int .u64 a1_2) := (blk_cell BK5.out 2).trans rfl; have hcz_3 : w5.cell? ⟨g, 3, none⟩ = some (.int .u64 a1_3) := (blk_cell BK5.out 3).trans rfl; have hcz_4 : w5.cell? ⟨g, 4, none⟩ = some (.int .u64 a1_4) := (blk_cell BK5.out 4).trans rfl; have hbd := span_Put.bd5 a1_0 a1_1 a1_2 a1_3 a1_4
  go_wp2
  clear hcz_0 hcz_1 hcz_2 hcz_3 hcz_4 hbd
  go_loopw [7, 31] (fun v i wr => ∃ (k : Nat) (x : List Int), k ≤ 5 ∧ i = .int .i64 k ∧ Aside0 (span_Put.to b0 [a1_0, a1_1, a1_2, a1_3, a1_4] k = some x) ∧ Aside0 (Kd.R (Kd.int .u8) 5 wr w.heap.size (fun k_ => k_ ≠ g) v x) ∧ Aside0 (Below w.heap.size w wr) ∧ Aside0 (wr.heap[g]? = some (.cells #[.int .u64 a1_0, .int .u64 a1_1, .int .u64 a1_2, .int .u64 a1_3, .int .u64 a1_4, .string a1_5, .string a1_6, .bool a1_7] 76 (0, 0)))) (fun _ i _ => 5 - (intOf i).toNat)
  case atStart => exact ⟨0, b0, by omega, rfl, ⟨rfl⟩, HO5, HB5, BK5⟩
  case round =>
   clear HO5 HB5 BK5
   obtain ⟨k, x, hk, rfl, HT, HO, HB, BK⟩ := hrel
   by_cases hlt : k < 5
   ·obtain ⟨y, hp, hy⟩ := span_Put.to_step HTO.out hlt HT.out
    have HP := Aside0.mk hp; have HY := Aside0.mk hy; clear hp hy; have hix := span_Put.ix5 a1_0 a1_1 a1_2 a1_3 a1_4 k hlt
    go_wp2_with fail
    refine (num_Put64.calls 100 (fun k_ => k_ ≠ g) _ x _ y w _ HB.out HO.out HP.out).mono ?_
    rintro e w6 ⟨v6, rfl, hR6, hb6, hk6⟩
    have BK6 := Aside0.mk (blk_kept BK.out hk6 (fun h => h rfl))
    have HO6 := Aside0.mk (show Kd.R (Kd.int .u8) 5 w6 w.heap.size (fun k_ => k_ ≠ g) v6 y from Kd.R_mono hR6 (fun k_ hk => hk.elim id (fun h e => by have := blk_lt BK.out; omega)))
    have HB6 := Aside0.mk hb6; clear hR6 hb6 hk6 hix
    go_wp2
    go_roundw
    case rel => exact ⟨k + 1, y, by omega, by go_num, HY, HO6, HB6, BK6⟩
    case measure => simp [intOf]; omega
   ·obtain rfl : k = 5 := by omega
    obtain rfl := Option.some.inj (HTO.out.symm.trans HT.out)
    clear HT HTO HCL; have hcz_5 : wr.cell? ⟨g, 5, none⟩ = some (.string a1_5) := (blk_cell BK.out 5).trans rfl; have hcz_6 : wr.cell? ⟨g, 6, none⟩ = some (.string a1_6) := (blk_cell BK.out 6).trans rfl; have hcz_7 : wr.cell? ⟨g, 7, none⟩ = some (.bool a1_7) := (blk_cell BK.out 7).trans rfl
    go_upto_if 39 with fail
    go_cut [10] (fun v10 wx => v10 = .int .u8 (if a1_7 = true then 1 else 0) ∧ wx = wr)
    case first =>
     go_wp2
     all_goals
      rename_i h7
      go_meet
      exact ⟨by simp [h7], rfl⟩
    case rest =>
     obtain ⟨rfl, rfl⟩ := hcut
     obtain ⟨fb, hfb⟩ : ∃ fb : Int, (if a1_7 = true then 1 else 0) = fb := ⟨_, rfl⟩
     rw [hfb]
     have hbd := span_Put.bd2 a1_5 a1_6
     have HL13 := Aside0.mk (show (b5.length + 1) * 1 ≤ 140737488355328 by have := HLEN.out; omega)
     go_upto_region 14 with (at_builtin; refine Kd.R_append (Kd.int .u8) (w0 := w) w.heap.size rfl (.tmp 40) (.tmp 42) 35 5 (.int .u8 0) 1 rfl Try.underlying35 info5 rfl (by decide) (by decide) _ b5 fb [.int .u8 fb] (fun k_ => k_ ≠ g) (fun _ => False) rfl rfl rfl (fun _ hk => hk.elim) (fun k_ hk e => by have := blk_lt BK.out; omega) HO.out HB.out HB.out.size HL13.out ?_; intro v7 w7 ho7 hb7 hg7 hat7)
     have BK7 := Aside0.mk (blk_grown BK.out hg7 (Kd.R_away HO.out (fun _ hk => hk)))
     have HO7 := Aside0.mk ho7; have HB7 := Aside0.mk hb7; clear ho7 hb7 hg7 hat7 hcz_5 hcz_6 hcz_7 HO HB BK; have hcz_5 : w7.cell? ⟨g, 5, none⟩ = some (.string a1_5) := (blk_cell BK7.out 5).trans rfl; have hcz_6 : w7.cell? ⟨g, 6, none⟩ = some (.string a1_6) := (blk_cell BK7.out 6).trans rfl
     go_wp2
     clear hcz_5 hcz_6 hbd
     go_loopw [7, 49] (fun v i wr => ∃ k : Nat, k ≤ 2 ∧ i = .int .i64 k ∧ Aside0 (Kd.R (Kd.int .u8) 5 wr w.heap.size (fun k_ => k_ ≠ g) v (span_Put.tx (b5 ++ [fb]) [a1_5, a1_6] k)) ∧ Aside0 (Below w.heap.size w wr) ∧ Aside0 (g < wr.heap.size)) (fun _ i _ => 2 - (intOf i).toNat)
     case atStart => exact ⟨0, by omega, rfl, HO7, HB7, ⟨blk_lt BK7.out⟩⟩
     case round =>
      clear HO7 HB7 BK7
      obtain ⟨k, hk, rfl, HO, HB, HG⟩ := hrel
      by_cases hlt : k < 2
      ·have hix := span_Put.ix2 a1_5 a1_6 k hlt
       have htl := span_Put.tx_len (b5 ++ [fb]) [a1_5, a1_6] k; have hte := span_Put.tx_le (b5 ++ [fb]) a1_5 a1_6 (k + 1) (by omega); have HTX := Aside0.mk (show span_Put.tx (b5 ++ [fb]) [a1_5, a1_6] (k + 1) = span_Put.tx (b5 ++ [fb]) [a1_5, a1_6] k ++ [((rdOf ByteArray.empty [a1_5, a1_6] k).size : Int) % 256] ++ bytesOf (rdOf ByteArray.empty [a1_5, a1_6] k) from rfl)
       generalize rdOf ByteArray.empty [a1_5, a1_6] (k : Int) = s at *
       obtain ⟨x, hx⟩ : ∃ x, span_Put.tx (b5 ++ [fb]) [a1_5, a1_6] k = x := ⟨_, rfl⟩
       rw [hx] at HO HTX htl
       have hlen := HLEN.out
       rw [List.length_append, List.length_singleton] at hte
       have HL1 := Aside0.mk (show (x.length + 1) * 1 ≤ 140737488355328 by omega)
       have HL2 := Aside0.mk (show (x ++ [(s.size : Int) % 256]).length + s.size ≤ 140737488355328 by rw [List.length_append, List.length_singleton]; omega)
       clear htl hte hlen hx
       go_wp2_with (first | (at_builtin; refine Kd.R_append (Kd.int .u8) (w0 := w) w.heap.size rfl (.tmp 52) (.tmp 56) 35 5 (.int .u8 0) 1 rfl Try.underlying35 info5 rfl (by decide) (by decide) _ x ((s.size : Int) % 256) [.int .u8 ((s.size : Int) % 256)] (fun k_ => k_ ≠ g) (fun _ => False) rfl rfl rfl (fun _ hk => hk.elim) (fun k_ hk e => by have := HG.out; omega) HO.out HB.out HB.out.size HL1.out ?_; intro v8 w8 ho8 hb8 hg8 hat8; have HO8 := Aside0.mk ho8; have HB8 := Aside0.mk hb8; have HG8 := Aside0.mk (Nat.lt_of_lt_of_le HG.out hg8.size); clear ho8 hb8 hg8 hat8) | (at_builtin; refine Hand.R_append_str (w0 := w) w.heap.size rfl (.tmp 57) (.tmp 58) 35 9 5 rfl Try.underlying35 Try.underlying9 info5 _ (x ++ [(s.size : Int) % 256]) s (fun k_ => k_ ≠ g) rfl rfl (fun k_ hk e => by have := HG8.out; omega) HO8.out HB8.out HB8.out.size HL2.out ?_; intro v9 w9 ho9 hb9 hg9 hat9; have HO9 := Aside0.mk ho9; have HB9 := Aside0.mk hb9; have HG9 := Aside0.mk (Nat.lt_of_lt_of_le HG8.out hg9.size); clear ho9 hb9 hg9 hat9))
       go_roundw
       case rel => exact ⟨k + 1, by omega, by go_num, ⟨by rw [HTX.out]; exact HO9.out⟩, HB9, HG9⟩
       case measure => simp [intOf]; omega
      ·obtain rfl : k = 2 := by omega
       go_wp2
       all_goals
        first | rw [if_pos (by assumption)] at hfb | rw [if_neg (by assumption)] at hfb
        subst hfb
        go_ret2
        exact ⟨_, rfl, Kd.R_mono HO.out (fun _ _ => trivial), HB.out⟩
 have hkb : (kd != 0) = true := bne_iff_ne.mpr hk
 rw [if_neg hk] at h
 obtain ⟨rfl, rfl⟩ := Prod.mk.inj (Option.some.inj h)
 go_wp2
 go_ret2
 exact ⟨_, rfl, Kd.R_nil _ _ _ _ _, HB4.out⟩


-- NOT PRINTED: function 39 (message_writer_spans)

-- NOT PRINTED: function 40 (message_writer_ballot)

def num_Put32.l0 : Nat → List Int → Int → Int → Option (List Int)
 | 0, _, _, _ => none
 | k + 1, x0, x1, x5 => if x5 < 4 then (if x0.length < 140737488355328 then (num_Put32.l0 k (x0 ++ [(x1) % 256]) (x1 / 256) (wrap64 (x5 + 1))) else (none)) else (some x0)
def num_Put32.f (k : Nat) (l0 : List Int) (a1 : Int) : Option (List Int) := num_Put32.l0 k l0 a1 0
set_option maxHeartbeats 40000000 in
set_option maxRecDepth 100000 in
theorem num_Put32.calls (k : Nat) (P0_ : Nat → Prop) (u9000_ : Value) (l0 : List Int) (a1 : Int) (r : List Int) (w0 w : World) (hB : Below w0.heap.size w0 w) (ho0 : Kd.R (Kd.int .u8) 5 w w0.heap.size P0_ u9000_ l0) (h : num_Put32.f k l0 a1 = some r) :
  Calls Try.prog 74 #[u9000_, .int .u32 a1] w fun e w' => ∃ v0_ : Value, e = .returned (v0_) ∧ Kd.R (Kd.int .u8) 5 w' w0.heap.size (fun k_ => (P0_ k_ ∨ w.heap.size ≤ k_)) v0_ r ∧ Below w0.heap.size w0 w' ∧ Kept w w' (fun k_ => P0_ k_) := by
 have HO0 := Aside0.mk (show Kd.R (Kd.int .u8) 5 w w0.heap.size (fun k_ => (P0_ k_ ∨ w.heap.size ≤ k_)) u9000_ l0 from Kd.R_mono ho0 (fun k_ hk => (.inl hk)))
 have HK := Aside0.mk (Kept.refl w (fun k_ => P0_ k_))
 have HW0 := Aside0.mk hB.size; have HB := Aside0.mk hB; clear hB; have H : (num_Put32.l0 k l0 a1 0) = some r := h; clear h
 have H' := Aside0.mk H
 clear H
 go_enter Try.func74, Try.ntmps74
 go_wp2
 go_loopg [0, 1, 5] k (fun kq v0 v1 v5 w' => ∃ (x0_1 : List Int) (x1_1 : Int) (x5_1 : Int), v1 = .int .u32 x1_1 ∧ v5 = .int .i64 x5_1 ∧ Aside0 (num_Put32.l0 kq x0_1 x1_1 x5_1 = some r) ∧ Aside0 (kq ≤ k) ∧ Aside0 (Kd.R (Kd.int .u8) 5 w' w0.heap.size (fun k_ => (P0_ k_ ∨ w.heap.size ≤ k_)) v0 x0_1) ∧ Aside0 (Kept w w' (fun k_ => P0_ k_)) ∧ Aside0 (Below w0.heap.size w0 w'))
 case atStart => exact ⟨(l0), (a1), (0), (by (rfl)), (by (rfl)), H', ⟨Nat.le_refl _⟩, ⟨by (with_reducible skip); exact HO0.out⟩, ⟨by repeat (with_reducible (exact HK.out))⟩, ⟨by repeat (with_reducible (exact HB.out))⟩⟩
 case round =>
  clear H'
  obtain ⟨x0_1, x1_1, x5_1, rfl, rfl, HA, HK1, HO_0, HK, HB⟩ := hrel
  cases gk with
  | zero => exact absurd HA.out (by simp [num_Put32.l0])
  | succ k1 =>
   have H := HA.out; clear HA
   simp only [num_Put32.l0] at H
   by_cases c3 : x5_1 < 4
   ·rw [if_pos c3] at H
    have c3b0 : decide (x5_1 < 4) = true := decide_eq_true c3; clear c3
    by_cases c4 : x0_1.length < 140737488355328
    ·rw [if_pos c4] at H
     have LMc4 := Aside0.mk c4; clear c4
     obtain ⟨y144, hy144⟩ : ∃ y_ : List Int, y_ = (x0_1 ++ [(x1_1) % 256]) := ⟨_, rfl⟩
     replace H : (num_Put32.l0 k1 y144 (x1_1 / 256) (wrap64 (x5_1 + 1))) = some r := by (rw [hy144]; with_reducible exact H)
     have Ny144 := Aside0.mk hy144; clear hy144
     have H' := Aside0.mk H
     clear H
     go_wp2_with ((with_reducible refine gate_builtin (b := .append) (xs := #[.tmp 7, .tmp 10]) rfl ?_); at_builtin; refine Kd.R_append (Kd.int .u8) (w0 := w0) w0.heap.size rfl (.tmp 7) (.tmp 10) 35 5 (.int .u8 0) 1 rfl Try.underlying35 info5 rfl (by decide) (by omega) u0 x0_1 ((x1_1) % 256) [.int .u8 ((x1_1) % 256)] (fun k_ => (P0_ k_ ∨ w.heap.size ≤ k_)) (fun _ => False) rfl rfl ?aP (fun _ hk => hk.elim) ?aF ?aO ?aB ?aS ?aL ?_; (case aP => exact rfl); (case aB => exact (by repeat (with_reducible (exact HB.out)))); (case aF => exact (fun k_ hk => (.inr (Nat.le_trans (by (exact HK.out.1)) hk)))); (case aO => exact (by (with_reducible skip); exact HO_0.out)); (case aS => exact (below_size (by repeat (with_reducible (exact HB.out))))); (case aL => have := LMc4.out; omega); intro v145 w5 ho hb hg hat; rw [← Ny144.out] at ho; have n0_ := Aside0.mk (hb); have n1_ := Aside0.mk (Kept.of_grown (S := (fun k_ => P0_ k_)) hg (by repeat (with_reducible (exact HK.out))) (fun k_ e_ => (HO_0.out.1 k_ e_))); have n2_ := Aside0.mk (ho); clear HB; clear HK; clear HO_0; have HB := n0_; have HK := n1_; have HO146 := n2_; clear n0_ n1_ n2_; clear ho hb hg hat)
     go_roundg k1
     case measure => have := HK1.out; omega
     case rel => exact ⟨(y144), (x1_1 / 256), (wrap64 (x5_1 + 1)), (by (rfl)), (by (rfl)), H', ⟨by have := HK1.out; omega⟩, ⟨by (with_reducible skip); exact HO146.out⟩, ⟨by repeat (with_reducible (exact HK.out))⟩, ⟨by repeat (with_reducible (exact HB.out))⟩⟩
    ·rw [if_neg c4] at H
     exact absurd H (by simp)
   ·rw [if_neg c3] at H
    have c3b0 : decide (x5_1 < 4) = false := decide_eq_false c3; clear c3
    obtain rfl := Option.some.inj H
    go_wp2
    go_ret
    exact ⟨_, by (rfl), by (with_reducible skip); exact HO_0.out, by repeat (with_reducible (exact HB.out)), by repeat (with_reducible (exact HK.out))⟩

def crc_steps.l0 : Nat → Int → Int → Int → Option (Int)
 | 0, _, _, _ => none
 | k + 1, x0, x5, x6 => if x6 < x5 then (crc_steps.l0 k (Go.bits .xor .u32 (x0 / 2) (Go.bits .and .u32 3988292384 ((-(Go.bits .and .u32 x0 1)) % 4294967296))) x5 (wrap64 (x6 + 1))) else (some x0)
def crc_steps.f (k : Nat) (a0 : Int) (a1 : Int) : Option (Int) := crc_steps.l0 k a0 a1 0
set_option maxHeartbeats 40000000 in
set_option maxRecDepth 100000 in
theorem crc_steps.calls (k : Nat) (a0 : Int) (a1 : Int) (r : Int) (w : World) (h : crc_steps.f k a0 a1 = some r) :
  Calls Try.prog 105 #[.int .u32 a0, .int .i64 a1] w fun e w' => e = .returned (.int .u32 r) ∧ Drawn0 w w' := by
 have H : (crc_steps.l0 k a0 a1 0) = some r := h; clear h
 have H' := Aside0.mk H
 clear H
 go_enter Try.func105, Try.ntmps105
 go_wp2
 go_loopg [0, 6] k (fun kq v0 v6 w' => ∃ (x0_1 : Int) (x6_1 : Int), v0 = .int .u32 x0_1 ∧ v6 = .int .i64 x6_1 ∧ Aside0 (crc_steps.l0 kq x0_1 a1 x6_1 = some r) ∧ Aside0 (kq ≤ k) ∧ Drawn0 w w')
 case atStart => exact ⟨(a0), (0), (by (rfl)), (by (rfl)), H', ⟨Nat.le_refl _⟩, by repeat (exact Drawn0.refl _)⟩
 case round =>
  clear H'
  obtain ⟨x0_1, x6_1, rfl, rfl, HA, HK1, ⟨m1, rfl⟩⟩ := hrel
  cases gk with
  | zero => exact absurd HA.out (by simp [crc_steps.l0])
  | succ k1 =>
   have H := HA.out; clear HA
   simp only [crc_steps.l0] at H
   by_cases c3 : x6_1 < a1
   ·rw [if_pos c3] at H
    have c3b0 : decide (x6_1 < a1) = true := decide_eq_true c3; clear c3
    have H' := Aside0.mk H
    clear H
    go_wp2
    go_roundg k1
    case measure => have := HK1.out; omega
    case rel => exact ⟨(Go.bits .xor .u32 (x0_1 / 2) (Go.bits .and .u32 3988292384 ((-(Go.bits .and .u32 x0_1 1)) % 4294967296))), (wrap64 (x6_1 + 1)), (by (rfl)), (by (rfl)), H', ⟨by have := HK1.out; omega⟩, by repeat (first | exact Drawn0.refl _ | apply Drawn0.step)⟩
   ·rw [if_neg c3] at H
    have c3b0 : decide (x6_1 < a1) = false := decide_eq_false c3; clear c3
    obtain rfl := Option.some.inj H
    go_wp2
    go_ret
    exact ⟨by (rfl), by repeat (first | exact Drawn0.refl _ | apply Drawn0.step)⟩

def crc_More.l0 : Nat → Int → List Int → Int → Int → Option (Int)
 | 0, _, _, _, _ => none
 | k + 1, x5, x10, x11, x12 => if x12 < x11 then (if 0 ≤ x12 then (if x12 < (x10.length : Int) then ((crc_steps.f k (Go.bits .xor .u32 x5 ((rd x10 x12) % 4294967296)) 8).bind fun t148 => (crc_More.l0 k t148 x10 x11 (wrap64 (x12 + 1)))) else (none)) else (none)) else (some (Go.bits .xor .u32 4294967295 x5))
def crc_More.f (k : Nat) (a0 : Int) (l1 : List Int) : Option (Int) := crc_More.l0 k (Go.bits .xor .u32 4294967295 a0) l1 (l1.length : Int) 0
set_option maxHeartbeats 40000000 in
set_option maxRecDepth 100000 in
theorem crc_More.calls (k : Nat) (a0 : Int) (A1 : Option Addr) (c1 : Nat) (l1 : List Int) (r : Int) (w : World) (hr1 : Kd.C (Kd.int .u8) w A1 l1.length l1) (hc1 : l1.length ≤ c1) (h : crc_More.f k a0 l1 = some r) :
  Calls Try.prog 97 #[.int .u32 a0, .slice A1 l1.length c1] w fun e w' => e = .returned (.int .u32 r) ∧ Drawn0 w w' := by
 have HR1 := Aside0.mk hr1; have HC1 := Aside0.mk hc1; clear hr1 hc1; have H : (crc_More.l0 k (Go.bits .xor .u32 4294967295 a0) l1 (l1.length : Int) 0) = some r := h; clear h
 have H' := Aside0.mk H
 clear H
 go_enter Try.func97, Try.ntmps97
 go_wp2
 go_loopg [5, 12] k (fun kq v5 v12 w' => ∃ (x5_1 : Int) (x12_1 : Int), v5 = .int .u32 x5_1 ∧ v12 = .int .i64 x12_1 ∧ Aside0 (crc_More.l0 kq x5_1 l1 (l1.length : Int) x12_1 = some r) ∧ Aside0 (kq ≤ k) ∧ Drawn0 w w')
 case atStart => exact ⟨(Go.bits .xor .u32 4294967295 a0), (0), (by (rfl)), (by (rfl)), H', ⟨Nat.le_refl _⟩, by repeat (exact Drawn0.refl _)⟩
 case round =>
  clear H'
  obtain ⟨x5_1, x12_1, rfl, rfl, HA, HK1, ⟨m1, rfl⟩⟩ := hrel
  cases gk with
  | zero => exact absurd HA.out (by simp [crc_More.l0])
  | succ k1 =>
   have H := HA.out; clear HA
   simp only [crc_More.l0] at H
   by_cases c3 : x12_1 < (l1.length : Int)
   ·rw [if_pos c3] at H
    have c3b0 : decide (x12_1 < (l1.length : Int)) = true := decide_eq_true c3; clear c3
    by_cases c4 : 0 ≤ x12_1
    ·rw [if_pos c4] at H
     have c4b0 : decide (0 ≤ x12_1) = true := decide_eq_true c4; clear c4
     by_cases c5 : x12_1 < (l1.length : Int)
     ·rw [if_pos c5] at H
      have c5b0 : decide (x12_1 < (l1.length : Int)) = true := decide_eq_true c5; clear c5
      replace H := Option.bind_eq_some_iff.mp H
      obtain ⟨t148, A60, H⟩ := H
      (try dsimp only at H)
      have A6 := Aside0.mk A60; clear A60
      have H' := Aside0.mk H
      clear H; have p147 : 0 ≤ (x12_1 : Int) := of_decide_eq_true (by (with_reducible assumption)); have q147 : x12_1 < (l1.length : Int) := of_decide_eq_true (by (with_reducible assumption))
      obtain ⟨ad147, e147, hx147_0⟩ := Kd.at_int HR1.out x12_1 p147 q147
      cases e147
      replace p147 := eq_true p147
      replace q147 := eq_true q147
      go_wp2_with ((with_reducible refine gate_callee (f := 105) rfl ?_); refine goesL_ (some 20) rfl rfl Try.func105 (by kernel_rfl) rfl #[.int .u32 (Go.bits .xor .u32 x5_1 ((rd l1 x12_1) % 4294967296)), .int .i64 8] rfl (by (try simp only [List.map_toArray, List.map_cons, List.map_nil]); (rfl)) ?_; (with_reducible refine (crc_steps.calls k1 (Go.bits .xor .u32 x5_1 ((rd l1 x12_1) % 4294967296)) 8 t148 _ A6.out).mono ?_); rintro e w' ⟨rfl, ⟨nd, rfl⟩⟩; refine ⟨_, rfl, ?_⟩)
      go_roundg k1
      case measure => have := HK1.out; omega
      case rel => exact ⟨(t148), (wrap64 (x12_1 + 1)), (by (rfl)), (by (rfl)), H', ⟨by have := HK1.out; omega⟩, by repeat (first | exact Drawn0.refl _ | apply Drawn0.step)⟩
     ·rw [if_neg c5] at H
      exact absurd H (by simp)
    ·rw [if_neg c4] at H
     exact absurd H (by simp)
   ·rw [if_neg c3] at H
    have c3b0 : decide (x12_1 < (l1.length : Int)) = false := decide_eq_false c3; clear c3
    obtain rfl := Option.some.inj H
    go_wp2
    go_ret
    exact ⟨by (rfl), by repeat (first | exact Drawn0.refl _ | apply Drawn0.step)⟩

def crc_Sum.f (k : Nat) (l0 : List Int) : Option (Int) := (crc_More.f k 0 l0).bind fun t149 => (some t149)
set_option maxHeartbeats 40000000 in
set_option maxRecDepth 100000 in
theorem crc_Sum.calls (k : Nat) (A0 : Option Addr) (c0 : Nat) (l0 : List Int) (r : Int) (w : World) (hr0 : Kd.C (Kd.int .u8) w A0 l0.length l0) (hc0 : l0.length ≤ c0) (h : crc_Sum.f k l0 = some r) :
  Calls Try.prog 75 #[.slice A0 l0.length c0] w fun e w' => e = .returned (.int .u32 r) ∧ Drawn0 w w' := by
 have HR0 := Aside0.mk hr0; have HC0 := Aside0.mk hc0; clear hr0 hc0
 have H : ((crc_More.f k 0 l0).bind fun t149 => (some t149)) = some r := h
 clear h
 replace H := Option.bind_eq_some_iff.mp H
 obtain ⟨t149, A20, H⟩ := H
 replace H : (some t149) = some r := H
 have A2 := Aside0.mk A20; clear A20
 obtain rfl := Option.some.inj H
 go_enter Try.func75, Try.ntmps75
 go_wp2_with ((with_reducible refine gate_callee (f := 97) rfl ?_); refine goesL_ (some 4) rfl rfl Try.func97 (by kernel_rfl) rfl #[.int .u32 0, .slice A0 l0.length c0] rfl (by (try simp only [List.map_toArray, List.map_cons, List.map_nil]); (rfl)) ?_; (with_reducible refine (crc_More.calls k 0 _ _ l0 t149 _ ?side1 ?side2 A2.out).mono ?_); (case side1 => repeat (exact HR0.out)); (case side2 => exact HC0.out); rintro e w' ⟨rfl, ⟨nd, rfl⟩⟩; refine ⟨_, rfl, ?_⟩)
 go_ret
 exact ⟨by (rfl), by repeat (first | exact Drawn0.refl _ | apply Drawn0.step)⟩

-- NOT PRINTED: function 98 (slices_Grow_byte_byte)

/-- slices.Grow of nil: a row without elements. -/
theorem slices_Concat_byte_byte.grow_nil (n : Nat) (w : World) (hn : n * 1 ≤ 140737488355328) :
  Calls Try.prog 98 #[.slice none 0 0, .int .i64 n] w fun e w' => ∃ v0_ : Value, e = .returned (v0_) ∧ Kd.R (Kd.int .u8) 5 w' w.heap.size (fun _ => True) v0_ [] ∧ Below w.heap.size w w' := by
 have hneg : ¬ ((n : Int) < 0) := by omega
 have hbig : n ≤ 140737488355328 := Nat.le_trans (Nat.le_mul_of_pos_right _ (by decide)) hn
 have hbig2 : (n : Int) ≤ 140737488355328 := by omega
 obtain ⟨i0, hi, hzz⟩ := Option.map_eq_some_iff.1 info5
 have HI := Aside0.mk hi; clear hi hzz
 rcases Nat.eq_zero_or_pos n with rfl | hpos
 ·go_enter Try.func98, Try.ntmps98
  go_wp2
  go_ret
  exact ⟨_, rfl, Kd.R_nil _ _ _ _ _, Below.refl _ _⟩
 have hgt : (0 : Int) < n := by omega
 go_enter Try.func98, Try.ntmps98
 go_wp2_with (at_builtin; refine Kd.R_append_zeros (Kd.int .u8) (w0 := w) w.heap.size rfl (.tmp 20) (.tmp 21) 35 3 5 (.int .u8 0) 1 rfl Try.underlying35 Try.underlying3 info5 rfl (by decide) (by decide) (.slice none 0 0) [] (0 : Int) (kx := .i64) (n : Int) (fun _ => True) rfl rfl ?o1 (fun _ _ => trivial) (Kd.R_nil _ _ _ _ _) ?o2 (Below.refl _ _) (Nat.le_refl _) ?o3 ?_)
 case o1 => exact rfl
 intro v1 w1 hown hb hg hat
 obtain ⟨A1, c1, hv, hle, _⟩ := Kd.R_reads hown
 subst hv; have hsl := Hand.run_slice_to (P := Try.prog) 35 5 .i64 Try.underlying35 HI.out A1 (([] : List Int) ++ List.replicate (n : Int).toNat (0 : Int)).length c1 0 (Nat.zero_le _); have HO := Aside0.mk (Kd.R_take hown (Nat.zero_le _)); have HB := Aside0.mk hb; clear hown hb hg hat hle
 go_wp2
 go_ret
 exact ⟨_, rfl, HO.out, HB.out⟩
/-- slices.Concat: all elements of all rows, in memory of the call's own. -/
def slices_Concat_byte_byte.f (l0 : List (List Int)) : Option (List Int) := if l0.flatten.length * 1 ≤ 140737488355328 then some l0.flatten else none
set_option maxHeartbeats 4000000 in
set_option maxRecDepth 100000 in
theorem slices_Concat_byte_byte.calls (A0 : Option Addr) (c0 : Nat) (l0 : List (List Int)) (r : List Int) (w : World) (hr0 : Kd.C (Kd.slice 5 (Kd.int .u8)) w A0 l0.length l0) (hc0 : l0.length ≤ c0) (h : slices_Concat_byte_byte.f l0 = some r) :
  Calls Try.prog 76 #[.slice A0 l0.length c0] w fun e w' => ∃ v0_ : Value, e = .returned (v0_) ∧ Kd.R (Kd.int .u8) 5 w' w.heap.size (fun _ => True) v0_ r ∧ Below w.heap.size w w' := by
 unfold slices_Concat_byte_byte.f at h
 split at h
 ·rename_i hl
  obtain rfl := Option.some.inj h
  clear h
  have hlen : l0.length ≤ 9223372036854775807 := by have := hr0.2.1; omega
  have hflat : l0.flatten.length ≤ 140737488355328 := Nat.le_trans (Nat.le_mul_of_pos_right _ (by decide)) hl; have HR0 := Aside0.mk hr0; clear hr0
  go_enter Try.func76, Try.ntmps76
  go_wp2
  go_loop [3, 11] (fun s i => ∃ k : Nat, k ≤ l0.length ∧ i = .int .i64 k ∧ s = .int .i64 (Hand.sumTo l0 k)) (fun _ i => l0.length - (intOf i).toNat)
  case atStart => exact ⟨0, Nat.zero_le _, rfl, rfl⟩
  case round =>
   obtain ⟨k, hk, rfl, rfl⟩ := hrel
   by_cases hlt : k < l0.length
   ·obtain ⟨ad, A', c', rfl, hcell, hle, hC⟩ := Hand.at_row HR0.out k hlt
    have hs1 := Hand.sumTo_le l0 (k + 1)
    rw [Hand.sumTo_succ l0 k hlt] at hs1
    have hs2 : 0 ≤ (Hand.sumTo l0 k : Int) + (l0.getD k []).length := by omega
    have hs3 : (Hand.sumTo l0 k : Int) + (l0.getD k []).length ≤ 140737488355328 := by omega
    have hs4 : ¬ ((Hand.sumTo l0 k : Int) + (l0.getD k []).length < 0) := by omega
    generalize hrow : l0.getD k [] = row at *
    have HROW := Aside0.mk hrow; clear hrow hC
    go_wp2
    go_round
    case rel => exact ⟨k + 1, by omega, by go_num, by rw [Hand.sumTo_succ l0 k hlt, HROW.out]; go_num⟩
    case measure => simp [intOf]; omega
   ·obtain rfl : k = l0.length := by omega
    have hsum := Hand.sumTo_le l0 l0.length
    go_wp2_with fail
    refine (slices_Concat_byte_byte.grow_nil (Hand.sumTo l0 l0.length) _ (by rw [Hand.sumTo_all]; exact hl)).mono ?_
    rintro e w1 ⟨v1, rfl, hown, hb⟩
    have HO := Aside0.mk (show Kd.R (Kd.int .u8) 5 w1 w.heap.size (fun _ => True) v1 (l0.take 0).flatten from by simpa using hown)
    have HB := Aside0.mk hb; clear hown hb
    go_wp2_with fail
    go_loopw [6, 27] (fun v i wr => ∃ k : Nat, k ≤ l0.length ∧ i = .int .i64 k ∧ Aside0 (Kd.R (Kd.int .u8) 5 wr w.heap.size (fun _ => True) v (l0.take k).flatten) ∧ Aside0 (Below w.heap.size w wr)) (fun _ i _ => l0.length - (intOf i).toNat)
    case atStart => exact ⟨0, Nat.zero_le _, rfl, HO, HB⟩
    case round =>
     clear HO HB
     obtain ⟨k, hk, rfl, HO, HB⟩ := hrel
     by_cases hlt : k < l0.length
     ·obtain ⟨ad, A', c', rfl, hcell, hle, hC⟩ := Hand.at_row (Kd.C_below HR0.out HB.out) k hlt
      have HC := Aside0.mk hC; have HF := Aside0.mk (Hand.flat_succ l0 k hlt)
      have HL := Aside0.mk (show ((l0.take k).flatten.length + (l0.getD k []).length) * 1 ≤ 140737488355328 from by
       have h1 := Hand.sumTo_le l0 (k + 1)
       rw [Hand.sumTo_succ l0 k hlt] at h1
       rw [Hand.flat_len]
       exact Nat.le_trans (Nat.mul_le_mul_right _ h1) hl)
      clear hC
      generalize l0.getD k [] = row at *
      go_wp2_with (at_builtin; refine Kd.R_append_rows (Kd.int .u8) (Rr := ((Kd.int .u8)).K wr) (w0 := w) w.heap.size rfl (.tmp 31) (.tmp 32) 35 5 (.int .u8 0) 1 rfl Try.underlying35 info5 rfl (by decide) (by decide) _ (l0.take k).flatten row A' row.length c' (fun _ => True) (fun _ => False) rfl rfl HO.out HC.out ?o6 ?o7 ?o8 HB.out HB.out.size HL.out ?_)
      case o6 => intro x cs h; exact h
      case o7 => exact fun _ hk => hk.elim
      case o8 => exact fun _ _ => trivial
      intro v2 w2 hown2 hb2 hg2 hat2
      have HO2 := Aside0.mk hown2; have HB2 := Aside0.mk hb2; clear hown2 hb2 hg2 hat2 HO HB
      go_wp2
      go_roundw
      case rel => exact ⟨k + 1, by omega, by go_num, ⟨by rw [HF.out]; exact HO2.out⟩, HB2⟩
      case measure => simp [intOf]; omega
     ·obtain rfl : k = l0.length := by omega
      go_wp2
      go_ret
      exact ⟨_, rfl, by have h := HO.out; rwa [List.take_length] at h, HB.out⟩
 exact absurd h (by simp)


def frame_Put.f (k : Nat) (l0 : List Int) (l1 : List Int) : Option (List Int × Int) := if (l1.length : Int) > 8192 then (some (([] : List Int), 4)) else ((num_Put32.f k ([] : List Int) (((l1.length : Int)) % 4294967296)).bind fun t150 => (if t150.length + l1.length < 140737488355328 then ((some (t150 ++ l1 : List Int)).bind fun y153 => ((crc_Sum.f k y153).bind fun t156 => ((num_Put32.f k y153 t156).bind fun t157 => ((slices_Concat_byte_byte.f (([l0, t157] : List (List Int)))).bind fun t163 => (some (t163, 0)))))) else (none)))
set_option maxHeartbeats 40000000 in
set_option maxRecDepth 100000 in
theorem frame_Put.calls (k : Nat) (P0_ : Nat → Prop) (A0 : Option Addr) (c0 : Nat) (l0 : List Int) (A1 : Option Addr) (c1 : Nat) (l1 : List Int) (r1 : List Int) (r2 : Int) (w : World) (hs0 : Kd.V (Kd.int .u8) 5 w w.heap.size (fun k_ => P0_ k_) (.slice A0 l0.length c0) l0) (hr1 : Kd.C (Kd.int .u8) w A1 l1.length l1) (hc1 : l1.length ≤ c1) (h : frame_Put.f k l0 l1 = some (r1, r2)) :
  Calls Try.prog 41 #[.slice A0 l0.length c0, .slice A1 l1.length c1] w fun e w' => ∃ v0_ : Value, e = .returned (.tuple #[v0_, .int .i64 r2]) ∧ Kd.R (Kd.int .u8) 5 w' w.heap.size (fun k_ => (w.heap.size ≤ k_)) v0_ r1 ∧ Below w.heap.size w w' := by
 have HO0 := Aside0.mk (show Kd.V (Kd.int .u8) 5 w w.heap.size (fun k_ => (P0_ k_ ∨ w.heap.size ≤ k_)) (.slice A0 l0.length c0) l0 from Kd.V_mono hs0 (fun k_ hk => .inl hk))
 have HR1 := Aside0.mk hr1; have HC1 := Aside0.mk hc1; clear hr1 hc1; have HB := Aside0.mk (Below.refl w.heap.size w)
 have H : (if (l1.length : Int) > 8192 then (some (([] : List Int), 4)) else ((num_Put32.f k ([] : List Int) (((l1.length : Int)) % 4294967296)).bind fun t150 => (if t150.length + l1.length < 140737488355328 then ((some (t150 ++ l1 : List Int)).bind fun y153 => ((crc_Sum.f k y153).bind fun t156 => ((num_Put32.f k y153 t156).bind fun t157 => ((slices_Concat_byte_byte.f (([l0, t157] : List (List Int)))).bind fun t163 => (some (t163, 0)))))) else (none)))) = some (r1, r2) := h
 clear h
 by_cases c3 : (l1.length : Int) > 8192
 ·rw [if_pos c3] at H
  have c3b0 : decide (8192 < (l1.length : Int)) = true := decide_eq_true c3; have c3b1 : decide (8192 < l1.length) = true := decide_eq_true (by omega); clear c3
  simp only [Option.some.injEq, Prod.mk.injEq] at H
  obtain ⟨rfl, rfl⟩ := H
  go_enter Try.func41, Try.ntmps41
  go_wp2
  go_ret2
  exact ⟨_, by (rfl), by (exact Kd.R_nil _ _ _ _ _), by repeat (with_reducible (exact HB.out))⟩
 rw [if_neg c3] at H
 have c3b0 : decide (8192 < (l1.length : Int)) = false := decide_eq_false c3; have c3b1 : decide (8192 < l1.length) = false := decide_eq_false (by omega); clear c3
 replace H := Option.bind_eq_some_iff.mp H
 obtain ⟨t150, A40, H⟩ := H
 (try dsimp only at H)
 have A4 := Aside0.mk A40; clear A40
 by_cases c5 : t150.length + l1.length < 140737488355328
 ·rw [if_pos c5] at H
  have LMc5 := Aside0.mk c5; clear c5
  obtain ⟨y153, hy153⟩ : ∃ y_ : List Int, y_ = (t150 ++ l1) := ⟨_, rfl⟩
  replace H : ((crc_Sum.f k y153).bind fun t156 => ((num_Put32.f k y153 t156).bind fun t157 => ((slices_Concat_byte_byte.f (([l0, t157] : List (List Int)))).bind fun t163 => (some (t163, 0))))) = some (r1, r2) := by (have H2_ := (Option.bind_some _ _).symm.trans H; rw [hy153]; with_reducible exact H2_)
  have Ny153 := Aside0.mk hy153; clear hy153
  replace H := Option.bind_eq_some_iff.mp H
  obtain ⟨t156, A60, H⟩ := H
  (try dsimp only at H)
  have A6 := Aside0.mk A60; clear A60
  replace H := Option.bind_eq_some_iff.mp H
  obtain ⟨t157, A70, H⟩ := H
  (try dsimp only at H)
  have A7 := Aside0.mk A70; clear A70
  obtain ⟨y160, hy160⟩ : ∃ y_ : List (List Int), y_ = (([l0, t157] : List (List Int))) := ⟨_, rfl⟩
  replace H : ((slices_Concat_byte_byte.f y160).bind fun t163 => (some (t163, 0))) = some (r1, r2) := by (rw [hy160]; with_reducible exact H)
  have Ny160 := Aside0.mk hy160; clear hy160
  replace H := Option.bind_eq_some_iff.mp H
  obtain ⟨t163, A80, H⟩ := H
  replace H : (some (t163, 0)) = some (r1, r2) := H
  have A8 := Aside0.mk A80; clear A80
  simp only [Option.some.injEq, Prod.mk.injEq] at H
  obtain ⟨rfl, rfl⟩ := H
  go_enter Try.func41, Try.ntmps41
  go_wp2_with (first | ((with_reducible refine gate_callee (f := 74) rfl ?_); refine goesL_ (some 13) rfl rfl Try.func74 (by kernel_rfl) rfl #[.slice none 0 0, .int .u32 (((l1.length : Int)) % 4294967296)] rfl (by (try simp only [List.map_toArray, List.map_cons, List.map_nil]); (rfl)) ?_; (refine (num_Put32.calls k (fun k_ => some k_ = (.slice none 0 0 : Value).ownBlock) (.slice none 0 0) ([] : List Int) (((l1.length : Int)) % 4294967296) t150 w _ ?side1 ?side2 A4.out).mono ?_); (case side1 => repeat (with_reducible (exact HB.out))); (case side2 => exact Kd.R_nil _ _ _ _ _); rintro e w9 ⟨v151, rfl, ho0, hb, hkp⟩; refine ⟨_, rfl, ?_⟩; have n0_ := Aside0.mk (Kd.V_mono (ok' := fun k_ => (P0_ k_ ∨ w.heap.size ≤ k_) ∧ some k_ ≠ (v151 : Value).ownBlock) (Kd.V_keptB (HO0.out) hkp (fun k_ hk_ hs_ => (fun e_ => by simp [Value.ownBlock] at e_) hs_)) (fun k_ hk_ => ⟨hk_.1, fun e_ => Or.elim (ho0.1 k_ e_.symm) (fun hs_ => hk_.2.1 hs_) (fun hn_ => Nat.not_le.2 hk_.2.2 hn_)⟩)); have n1_ := Aside0.mk (Kd.R_mono (ok' := fun k_ => (w.heap.size ≤ k_)) ho0 (fun k_ hk_ => Or.elim hk_ (fun hs_ => absurd hs_ (by simp [Value.ownBlock])) (fun hn_ => (Nat.le_trans (below_size (by repeat (with_reducible (exact HB.out)))) hn_)))); have n2_ := Aside0.mk (hb); clear HO0; clear HB; have HO0 := n0_; have HO152 := n1_; have HB := n2_; clear n0_ n1_ n2_; (try clear hb); (try clear hkp); (try clear ho0)) | ((with_reducible refine gate_builtin (b := .append) (xs := #[.tmp 14, .tmp 15]) rfl ?_); at_builtin; refine Kd.R_append_rows (Kd.int .u8) (w0 := w) w.heap.size rfl (.tmp 14) (.tmp 15) 35 5 (.int .u8 0) 1 rfl Try.underlying35 info5 rfl (by decide) (by omega) v151 t150 l1 _ _ _ (fun k_ => (w.heap.size ≤ k_)) (fun _ => False) rfl rfl ?aO ?aR (fun _ _ h => h) (fun _ h => h.elim) ?aF ?aB ?aS ?aL ?_; (case aR => repeat (exact (Kd.C_below HR1.out HB.out))); (case aB => exact (by repeat (with_reducible (exact HB.out)))); (case aF => exact (fun k_ hk => (Nat.le_trans (below_size (by repeat (with_reducible (exact HB.out)))) hk))); (case aO => exact (by (with_reducible skip); exact HO152.out)); (case aS => exact (below_size (by repeat (with_reducible (exact HB.out))))); (case aL => have := LMc5.out; omega); intro v154 w10 ho hb hg hat; rw [← Ny153.out] at ho; have n0_ := Aside0.mk (Kd.V_afterv (ok := (fun k_ => (P0_ k_ ∨ w.heap.size ≤ k_))) (by (with_reducible skip); exact HO0.out) hg hat); have n1_ := Aside0.mk (hb); have n2_ := Aside0.mk (ho); clear HO0; clear HB; clear HO152; have HO0 := n0_; have HB := n1_; have HO155 := n2_; clear n0_ n1_ n2_; clear ho hb hg hat; obtain ⟨Ao11, co11, eo11⟩ := Kd.R_slice HO155.out; subst eo11) | ((with_reducible refine gate_callee (f := 75) rfl ?_); refine goesL_ (some 19) rfl rfl Try.func75 (by kernel_rfl) rfl #[.slice Ao11 y153.length co11] rfl (by (try simp only [List.map_toArray, List.map_cons, List.map_nil]); (rfl)) ?_; (with_reducible refine (crc_Sum.calls k _ _ y153 t156 _ ?side1 ?side2 A6.out).mono ?_); (case side1 => repeat (exact (Kd.R_reads' HO155.out).2.2)); (case side2 => exact (Kd.R_reads' HO155.out).2.1); rintro e w' ⟨rfl, ⟨nd, rfl⟩⟩; refine ⟨_, rfl, ?_⟩) | ((with_reducible refine gate_callee (f := 74) rfl ?_); refine goesL_ (some 20) rfl rfl Try.func74 (by kernel_rfl) rfl #[.slice Ao11 y153.length co11, .int .u32 t156] rfl (by (try simp only [List.map_toArray, List.map_cons, List.map_nil]); (rfl)) ?_; (with_reducible refine (num_Put32.calls k (fun k_ => some k_ = (.slice Ao11 y153.length co11 : Value).ownBlock) (.slice Ao11 y153.length co11) y153 t156 t157 w _ ?side1 ?side2 A7.out).mono ?_); (case side1 => repeat (with_reducible first | exact HB.out | apply pw_below_drewN)); (case side2 => exact Kd.R_tight rfl HO155.out); rintro e w12 ⟨v158, rfl, ho0, hb, hkp⟩; refine ⟨_, rfl, ?_⟩; have n0_ := Aside0.mk (Kd.V_mono (ok' := fun k_ => (P0_ k_ ∨ w.heap.size ≤ k_) ∧ some k_ ≠ (v158 : Value).ownBlock) (Kd.V_keptB (HO0.out) hkp (fun k_ hk_ hs_ => (hk_.2) hs_)) (fun k_ hk_ => ⟨hk_.1.1, fun e_ => Or.elim (ho0.1 k_ e_.symm) (fun hs_ => hk_.2.1 hs_) (fun hn_ => Nat.not_le.2 hk_.2.2 hn_)⟩)); have n1_ := Aside0.mk (Kd.R_mono (ok' := fun k_ => (w.heap.size ≤ k_)) ho0 (fun k_ hk_ => Or.elim hk_ (fun hs_ => (HO155.out.1 k_ (hs_).symm)) (fun hn_ => (Nat.le_trans (below_size (by repeat (with_reducible first | exact HB.out | apply pw_below_drewN))) hn_)))); have n2_ := Aside0.mk (hb); clear HO0; clear HB; clear HO155; have HO0 := n0_; have HO159 := n1_; have HB := n2_; clear n0_ n1_ n2_; (try clear hb); (try clear hkp); (try clear ho0); obtain ⟨Ao13, co13, eo13⟩ := Kd.R_slice HO159.out; subst eo13) | ((with_reducible refine gate_dst (N := 23) rfl ?_); refine Kd.N_lit (Kd.slice 5 (Kd.int .u8)) _ 35 ?hg (N' := 23) ?hd (xs := ([l0, t157] : List (List Int))) (inner := [.slice A0 l0.length c0, .slice Ao13 t157.length co13]) (ok := (fun k_ => (P0_ k_ ∨ w.heap.size ≤ k_))) (okp := (fun k_ => (P0_ k_ ∨ w.heap.size ≤ k_))) ?hr ?hp (fun _ hk => hk) ((show ∀ k_, w12.heap.size ≤ k_ → (fun k_ => (P0_ k_ ∨ w.heap.size ≤ k_)) k_ from fun k_ hk => (.inr (Nat.le_trans (below_size (by repeat (with_reducible (exact HB.out)))) hk))) _ (Nat.le_refl _)) (Below.refl _ _) (Nat.le_refl _) (by simp) ?_; (case hd => rfl); (case hg => rfl); (case hr => (go_simp; done)); (case hp => exact (Reps.one (show Kd.FK (Kd.slice 5 (Kd.int .u8)) _ _ l0 [.slice A0 l0.length c0] from (Kd.FK_slice_mk (Kd.V_reads' (Kd.V_mono (ok' := (fun k_ => (P0_ k_ ∨ w.heap.size ≤ k_))) (HO0.out) (fun k_ hk => hk.1))).2.1 (Kd.V_F (Kd.V_mono (ok' := (fun k_ => (P0_ k_ ∨ w.heap.size ≤ k_))) (HO0.out) (fun k_ hk => hk.1))))) (Reps.one (show Kd.FK (Kd.slice 5 (Kd.int .u8)) _ _ t157 [.slice Ao13 t157.length co13] from (Kd.FK_slice_mk (Kd.R_reads' (Kd.R_mono (ok' := (fun k_ => (P0_ k_ ∨ w.heap.size ≤ k_))) (HO159.out) (fun k_ hk => (.inr (hk))))).2.1 (Kd.R_F (Kd.R_mono (ok' := (fun k_ => (P0_ k_ ∨ w.heap.size ≤ k_))) (HO159.out) (fun k_ hk => (.inr (hk))))))) (Reps.none _ _)))); intro v161 w14 ho15 hb hg_ hnew_; clear hg_ hnew_; (rw [← Ny160.out] at ho15); have n0_ := Aside0.mk (Kd.V_elder' (by (with_reducible skip); exact HO0.out) (Kd.N_base ho15) hb); have n1_ := Aside0.mk (Kd.N_lower ho15 (below_size (by repeat (with_reducible (exact HB.out))))); have n2_ := Aside0.mk (below_step (by repeat (with_reducible (exact HB.out))) hb); clear HO0; clear HB; clear HO159; have HO0 := n0_; have HO162 := n1_; have HB := n2_; clear n0_ n1_ n2_; clear hb ho15; obtain ⟨Ao16, co16, eo16⟩ := Kd.N_slice HO162.out; subst eo16) | ((with_reducible refine gate_callee (f := 76) rfl ?_); refine goesL_ (some 24) rfl rfl Try.func76 (by kernel_rfl) rfl #[.slice Ao16 y160.length co16] rfl (by (try simp only [List.map_toArray, List.map_cons, List.map_nil]); (rfl)) ?_; (with_reducible refine (slices_Concat_byte_byte.calls _ _ y160 t163 _ ?side1 ?side2 A8.out).mono ?_); (case side1 => repeat (exact (Kd.N_reads' HO162.out).2.2)); (case side2 => exact (Kd.N_reads' HO162.out).2.1); rintro e w17 ⟨v164, rfl, ho0, hb⟩; refine ⟨_, rfl, ?_⟩; have n0_ := Aside0.mk (Kd.V_elder' (by (with_reducible skip); exact HO0.out) (Kd.R_base ho0) hb); have n1_ := Aside0.mk (Kd.N_elder' (by (with_reducible skip); exact HO162.out) (Kd.R_base ho0) hb); have n2_ := Aside0.mk (Kd.R_lower (Kd.R_newM (M := fun k_ => (w.heap.size ≤ k_)) ho0 (below_size (by repeat (with_reducible (exact HB.out)))) (fun k_ h_ => h_)) (below_size (by repeat (with_reducible (exact HB.out))))); have n3_ := Aside0.mk (below_step (by repeat (with_reducible (exact HB.out))) hb); clear HO0; clear HO162; clear HB; have HO0 := n0_; have HO162 := n1_; have HO165 := n2_; have HB := n3_; clear n0_ n1_ n2_ n3_; (try clear hb); (try clear ho0)))
  go_ret2
  exact ⟨_, by (rfl), by (with_reducible skip); exact Kd.R_mono HO165.out (fun _ hk => hk.1), by repeat (with_reducible (exact HB.out))⟩
 rw [if_neg c5] at H
 exact absurd H (by simp)

end Go.Proofs.Ytlpnpnjjmpkapaa.PAll
