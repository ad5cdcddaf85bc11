/-
  Contracts of library functions at this seat: strings.Count, Index, Contains and Split at one byte, strconv.FormatUint and ParseUint at base ten.
  Conditions: texts shorter than 4294967281 bytes; the table of powers of ten as the program lays it (of FormatUint).
-/
import Derived.Test.YtemepnpfhoidhaaGreatDoorPolicyLaid
import Derived.Lib.SplitLaws
import Derived.Lib.IndexBytes
import Derived.Lib.ItoaMem
import Derived.Lib.AppendIntMem
import Derived.Lib.LaidTab
import Derived.Lib.ParseIntB
import Derived.Test.YtemepnpfhoidhaaGreatDoorPAllx1m
namespace Go.Proofs.YtemepnpfhoidhaaGreatDoor.PAll
open Go.RowKit Go.Lib Go.Sort Go.Proofs.YtemepnpfhoidhaaGreatDoorW.PrintWords Go.Proofs.YtemepnpfhoidhaaGreatDoorW.PrintLast Go.Proofs.YtemepnpfhoidhaaGreatDoorW.PrintMore
set_option linter.unusedVariables false
set_option linter.unusedSimpArgs false
/-! ### one byte -/
theorem strCount (s : ByteArray) (c : UInt8) (w : World) :
    Calls Tryz.prog 22 #[.string s, .string ⟨#[c]⟩] w fun e w' => e = .returned (.int .i64 (countByte s.data.toList c)) ∧ w' = w := Any.strings_Count_one Tryz.lCount s c w
theorem strIndex (s : ByteArray) (c : UInt8) (w : World) :
    Calls Tryz.prog 39 #[.string s, .string ⟨#[c]⟩] w fun e w' => e = .returned (.int .i64 (indexByte s.data.toList c)) ∧ w' = w := Any.strings_Index_one Tryz.lIndex s c w
theorem strContains (s : ByteArray) (c : UInt8) (w : World) :
    Calls Tryz.prog 34 #[.string s, .string ⟨#[c]⟩] w fun e w' => e = .returned (.bool (decide (0 ≤ indexByte s.data.toList c))) ∧ w' = w := Any.strings_Contains_one Tryz.lContains s c w
theorem info_string : (Tryz.prog.info? 9).map (fun i => (i.zero, i.size, i.bytes)) = some (some (.string ByteArray.empty), 1, 16) := by kernel_rfl
theorem indexB_one (x : ByteArray) (c : UInt8) : indexB x ⟨#[c]⟩ = indexByte x.data.toList c := index_one _ _
theorem countB_one (x : ByteArray) (c : UInt8) : countB x ⟨#[c]⟩ = countByte x.data.toList c := count_one _ _
set_option maxHeartbeats 4000000 in
/-- strings.Split at one byte. -/
theorem strSplit (s : ByteArray) (c : UInt8) (w : World) (hs : s.size < 4294967281) :
    Calls Tryz.prog 41 #[.string s, .string ⟨#[c]⟩] w fun e w' =>
      e = .returned (.slice (some ⟨w.heap.size, 0, none⟩) (countB s ⟨#[c]⟩ + 1) (countB s ⟨#[c]⟩ + 1)) ∧ w' = w.alloc (.cells ((splitB ⟨#[c]⟩ 0 (countB s ⟨#[c]⟩) s).map Value.string).toArray 9) := by
  have hone : (ByteArray.mk #[c]).size = 1 := rfl
  have hle := countB_le ⟨#[c]⟩ (by rw [hone]; exact Nat.le_refl _) s.size s (Nat.le_refl _)
  have hlen := splitB_all ⟨#[c]⟩ (by rw [hone]; exact Nat.le_refl _) 0 _ s rfl
  have k := Any.strings_genSplit_core Tryz.lSplit info_string s ⟨#[c]⟩ 0 (-1) (countB s ⟨#[c]⟩ + 1) w hs (by rw [hone]; exact Nat.le_refl _) (Nat.zero_le _)
    (fun x cc _ => (strIndex x c _).mono fun e w' ⟨he, hw⟩ => ⟨by rw [he, indexB_one], hw⟩)
    ((strCount s c w).mono fun e w' ⟨he, hw⟩ => ⟨by rw [he, countB_one], hw⟩) (by decide) (by decide) (by rw [if_pos (by decide)]; omega)
  rw [Nat.add_sub_cancel, hlen] at k
  have e2 : cellsOf (splitB ⟨#[c]⟩ 0 (countB s ⟨#[c]⟩) s) (countB s ⟨#[c]⟩ + 1) = ((splitB ⟨#[c]⟩ 0 (countB s ⟨#[c]⟩) s).map Value.string).toArray := by
    rw [← hlen]
    exact cellsOf_full _
  rw [e2] at k
  have K := Aside0.mk (show Calls Tryz.prog 63 #[.string s, .string ⟨#[c]⟩, .int .i64 0, .int .i64 (-1)] w _ from k)
  clear k e2 hlen hle hone
  go_enter Tryz.func41, Tryz.ntmps41
  go_wp2_with (go_at_call 63; refine K.out.mono ?_; rintro e w' ⟨rfl, rfl⟩)
  go_ret
  exact ⟨rfl, rfl⟩
/-! ### texts that are joined -/
def joinB (c : UInt8) : List ByteArray → ByteArray
  | [] => ⟨#[]⟩
  | [x] => x
  | x :: y :: t => x ++ ⟨#[c]⟩ ++ joinB c (y :: t)
theorem idx_miss (c : UInt8) : ∀ l : List UInt8, c ∉ l → indexByte l c = -1
  | [], _ => rfl
  | b :: l, h => by
    rw [indexByte, idx_miss c l (fun e => h (by simp [e])), if_neg (by simp; intro e; exact h (by simp [e]))]
    rfl
theorem idx_hit (c : UInt8) (t : List UInt8) : ∀ l : List UInt8, c ∉ l → indexByte (l ++ c :: t) c = l.length
  | [], _ => by simp [indexByte]
  | b :: l, h => by
    rw [List.cons_append, indexByte, idx_hit c t l (fun e => h (by simp [e])), if_neg (by simp; intro e; exact h (by simp [e])), if_neg (by first | (simp; done) | (simp; omega))]
    simp
theorem data_app (a b : ByteArray) : (a ++ b).data.toList = a.data.toList ++ b.data.toList := by
  rw [ByteArray.data_append, Array.toList_append]
theorem idxB_hit (x t : ByteArray) (c : UInt8) (h : c ∉ x.data.toList) : indexB (x ++ ⟨#[c]⟩ ++ t) ⟨#[c]⟩ = (x.size : Nat) := by
  rw [indexB_one, data_app, data_app, List.append_assoc]
  show indexByte (x.data.toList ++ c :: t.data.toList) c = _
  rw [idx_hit c _ _ h]
  rfl
theorem idxB_miss (x : ByteArray) (c : UInt8) (h : c ∉ x.data.toList) : indexB x ⟨#[c]⟩ = -1 := by rw [indexB_one, idx_miss c _ h]
theorem ba_ext {a b : ByteArray} (h : a.data.toList = b.data.toList) : a = b := ByteArray.ext (Array.toList_inj.1 h)
theorem ext_left (x : ByteArray) (c : UInt8) (t : ByteArray) : (x ++ ⟨#[c]⟩ ++ t).extract 0 x.size = x := by
  apply ba_ext
  rw [extract_from_zero, data_app, data_app, List.append_assoc, size_eq, List.take_left']
  rfl
theorem ext_right (x : ByteArray) (c : UInt8) (t : ByteArray) : (x ++ ⟨#[c]⟩ ++ t).extract (x.size + 1) (x ++ ⟨#[c]⟩ ++ t).size = t := by
  apply ba_ext
  rw [extract_to_end, data_app, data_app, size_eq]
  show ((x.data.toList ++ [c]) ++ t.data.toList).drop (x.data.toList.length + 1) = _
  rw [List.drop_left']
  simp
theorem split_join (c : UInt8) : ∀ xs : List ByteArray, xs ≠ [] → (∀ x ∈ xs, c ∉ x.data.toList) → countB (joinB c xs) ⟨#[c]⟩ + 1 = xs.length ∧ splitB ⟨#[c]⟩ 0 (countB (joinB c xs) ⟨#[c]⟩) (joinB c xs) = xs
  | [], h, _ => absurd rfl h
  | [x], _, h => by
    have hm := idxB_miss x c (h x (by simp))
    show countB x ⟨#[c]⟩ + 1 = 1 ∧ splitB ⟨#[c]⟩ 0 (countB x ⟨#[c]⟩) x = [x]
    rw [countB_miss _ _ hm]
    exact ⟨rfl, rfl⟩
  | x :: y :: t, _, h => by
    have ih := split_join c (y :: t) (by simp) (fun z hz => h z (by simp only [List.mem_cons] at hz ⊢; exact .inr hz))
    have hh := idxB_hit x (joinB c (y :: t)) c (h x (by simp))
    have hc := countB_hit (x ++ ⟨#[c]⟩ ++ joinB c (y :: t)) ⟨#[c]⟩ x.size (Nat.le_refl _) hh
    have hone : (ByteArray.mk #[c]).size = 1 := rfl
    rw [hone, ext_right] at hc
    show countB (x ++ ⟨#[c]⟩ ++ joinB c (y :: t)) ⟨#[c]⟩ + 1 = _ ∧ splitB ⟨#[c]⟩ 0 (countB (x ++ ⟨#[c]⟩ ++ joinB c (y :: t)) ⟨#[c]⟩) (x ++ ⟨#[c]⟩ ++ joinB c (y :: t)) = _
    rw [hc, Nat.add_comm 1, splitB_hit _ _ _ _ _ hh, hone, ext_right, Nat.add_zero x.size, ext_left, ih.2]
    exact ⟨by rw [ih.1]; rfl, rfl⟩
/-! ### numerals -/
/-- The table of powers of ten. -/
def Pow10 (w : World) : Prop := TabIs Tryz.prog w "internal/strconv.uint64pow10" .u64 pow10Tab
theorem tabIs_below {w w' : World} {name : String} {k : IntKind} {zs : List Int} (h : TabIs Tryz.prog w name k zs) (hb : Below w.heap.size w w') : TabIs Tryz.prog w' name k zs := by
  unfold TabIs World.var? at *
  cases hg : Tryz.prog.globalNamed name with
  | none => simp [hg] at h
  | some g =>
    simp only [hg, Option.bind_some] at h ⊢
    have hlt : g < w.heap.size := by
      rcases Nat.lt_or_ge g w.heap.size with h' | h'
      · exact h'
      · rw [Array.getElem?_eq_none h'] at h; simp at h
    rw [hb.block g hlt]
    exact h
theorem Pow10.below {w w' : World} (h : Pow10 w) (hb : Below w.heap.size w w') : Pow10 w' := tabIs_below h hb
theorem below_grow (w : World) (os : Array Obj) (k : Nat) : Below w.heap.size w ((grow w os).drewN k) :=
  ⟨rfl, rfl, rfl, by show w.heap.size ≤ (w.heap ++ os).size; simp, fun i hi => by
    show (w.heap ++ os)[i]? = w.heap[i]?
    exact Array.getElem?_append_left hi⟩
set_option maxHeartbeats 8000000 in
set_option maxRecDepth 100000 in
theorem fmtBig (u : Nat) (hu1 : 100 ≤ u) (hu64 : u < 18446744073709551616) (w : World) (htab : Pow10 w) :
    Calls Tryz.prog 28 #[.int .u64 u, .int .i64 10] w fun e w' => e = .returned (.string ⟨(decDigits u).toArray⟩) ∧ Below w.heap.size w w' := by
  have hnd20 : nDigits u ≤ 20 := by have := numDigits_eq u (by omega) hu64; split at this <;> omega
  have hsl : ∀ W, (Instr.sliceAt 88 (.pointer (some ⟨w.heap.size, 0, none⟩)) none (some (.int .i64 (nDigits u : Int))) none).run Tryz.prog W = .ok (.slice (some ⟨w.heap.size, 0, none⟩) (nDigits u) 24) W := fun W => by
    have hal : Tryz.prog.arrayLen 88 = 24 := by kernel_rfl
    have hel : Tryz.prog.elem 88 = 5 := by kernel_rfl
    rw [run_sliceAt_array_h W 88 ⟨w.heap.size, 0, none⟩ (by simp [Program.arrayLen, Program.elem, Tryz.underlying88]) .i64 (nDigits u : Int) (by omega) (by rw [hal]; omega), hal, hel]
    go_simp
  have hH0 := holds_zero0 w 88 (nDigits u) (by omega)
  have hfmt := Any.internal_strconv_formatBase10 Tryz.lBase10 w.heap.size 0 24 u (Array.replicate (nDigits u) 0) (w.alloc (.cells zeros24 88)) hH0 (by rw [Array.size_replicate]; exact lt_pow_nDigits u) hu64 (by rw [Array.size_replicate]; omega)
  rw [Array.size_replicate] at hfmt
  have HF := Aside0.mk (show Calls Tryz.prog 54 _ _ _ from hfmt)
  have HH0 := Aside0.mk hH0
  have hltb : decide ((u : Int) < 100) = false := decide_eq_false (by omega)
  clear hH0 hfmt
  go_enter Tryz.func28, Tryz.ntmps28
  go_wp2_with (go_at_call 53; refine (Any.internal_strconv_numDigits Tryz.lDigits u (by omega) hu64 _ (tabIs_alloc htab _)).mono ?_; rintro e w' ⟨rfl, rfl⟩)
  go_at_call 54
  refine HF.out.mono ?_
  rintro e w' ⟨rfl, k, v', dk, rfl, hF⟩
  have hcv : (convert 65 9 (.slice (some ⟨w.heap.size, 0, none⟩) (nDigits u) 24)).run Tryz.prog ((putRow (fun (b : UInt8) => Value.int .u8 (b.toNat : Int)) (w.alloc (.cells zeros24 88)) w.heap.size 0 dk).drewN k) = .ok (.string ⟨(decDigits u).toArray⟩) ((putRow (fun (b : UInt8) => Value.int .u8 (b.toNat : Int)) (w.alloc (.cells zeros24 88)) w.heap.size 0 dk).drewN k) := by
    have h := run_convert_bytes_back (P := Tryz.prog) ((putRow (fun (b : UInt8) => Value.int .u8 (b.toNat : Int)) (w.alloc (.cells zeros24 88)) w.heap.size 0 dk).drewN k) 65 9 5 ⟨w.heap.size, 0, none⟩ 24 (decDigits u) Tryz.underlying65 Tryz.underlying5 Tryz.underlying9 (fun j hj => by
      rw [row_is_numeral hF j hj, Go.Lib.add_plain, World.cell?_drewN]
      exact cell?_putRow (fun (b : UInt8) => Value.int .u8 (b.toNat : Int)) _ w.heap.size 0 _ dk HH0.out (by rw [hF.size, Array.size_replicate]) j (by rw [hF.size]; rw [decDigits_length] at hj; exact hj))
    rw [decDigits_length] at h
    exact h
  have hb : Below w.heap.size w ((putRow (fun (b : UInt8) => Value.int .u8 (b.toNat : Int)) (w.alloc (.cells zeros24 88)) w.heap.size 0 dk).drewN k) := by
    rw [alloc_eq_grow]
    obtain ⟨os', _, e⟩ := putRow_grow_new (fun (b : UInt8) => Value.int .u8 (b.toNat : Int)) w #[Obj.cells zeros24 88] w.heap.size 0 dk (Nat.le_refl _)
    rw [e]
    exact below_grow w os' k
  have HB := Aside0.mk hb
  clear hb
  go_wp2
  go_ret
  exact ⟨rfl, HB.out⟩
set_option maxHeartbeats 4000000 in
set_option maxRecDepth 100000 in
/-- strconv.FormatUint at base ten. -/
theorem fmtUint (u : Nat) (hu64 : u < 18446744073709551616) (w : World) (htab : Pow10 w) :
    Calls Tryz.prog 15 #[.int .u64 u, .int .i64 10] w fun e w' => e = .returned (.string ⟨(decDigits u).toArray⟩) ∧ Below w.heap.size w w' := by
  have key : Calls Tryz.prog 28 #[.int .u64 u, .int .i64 10] w fun e w' => e = .returned (.string ⟨(decDigits u).toArray⟩) ∧ Below w.heap.size w w' := by
    by_cases h : u < 100
    · have hltb : decide ((u : Int) < 100) = true := decide_eq_true (by omega)
      have hlt : (u : Int) < 100 := by omega
      have hwr : IntKind.i64.wrap (u : Int) = (u : Int) := by rw [IntKind.wrap_i64]; omega
      go_enter Tryz.func28, Tryz.ntmps28
      go_wp2_with (go_at_call 52; refine (Any.internal_strconv_small Tryz.lSmall u h _).mono ?_; rintro e w' ⟨rfl, rfl⟩)
      go_ret
      exact ⟨rfl, Below.refl _ _⟩
    · exact fmtBig u (by omega) hu64 w htab
  have K := Aside0.mk key
  clear key
  go_enter Tryz.func15, Tryz.ntmps15
  go_wp2_with (go_at_call 28; refine K.out.mono ?_; rintro e w' ⟨rfl, hb⟩; have HB := Aside0.mk hb; clear hb)
  go_ret
  exact ⟨rfl, HB.out⟩
theorem pm_snoc (M : Nat) (c : UInt8) : ∀ (l : List UInt8) (acc a : Nat), parseUintM M acc l = .ok a → 48 ≤ c.toNat → c.toNat ≤ 57 → a < 1844674407370955162 → a * 10 + (c.toNat - 48) ≤ M → parseUintM M acc (l ++ [c]) = .ok (a * 10 + (c.toNat - 48))
  | [], acc, a, h, h1, h2, h3, h4 => by
    simp only [parseUintM, NumEnd.ok.injEq] at h
    subst h
    rw [List.nil_append, parseUintM, if_pos ⟨h1, h2⟩, if_neg (by omega), if_neg (by omega), parseUintM]
  | b :: l, acc, a, h, h1, h2, h3, h4 => by
    rw [parseUintM] at h
    rw [List.cons_append, parseUintM]
    split at h
    · rename_i hb
      rw [if_pos hb]
      split at h
      · cases h
      · rename_i hx
        rw [if_neg hx]
        split at h
        · cases h
        · rename_i hy
          rw [if_neg hy]
          exact pm_snoc M c l _ a h h1 h2 h3 h4
    · cases h
theorem pm_digits (u : Nat) (hu : u < 1844674407370955162) : parseUintM (2 ^ 64 - 1) 0 (decDigits u) = .ok u := by
  induction u using Nat.strongRecOn with
  | _ u ih =>
    by_cases h : u < 10
    · have hc : (UInt8.ofNat (48 + u)).toNat = 48 + u := by simp; omega
      rw [decDigits_one h, parseUintM, hc, if_pos (by omega), if_neg (by omega), if_neg (by omega), parseUintM]
      congr 1
      omega
    · have hc : (UInt8.ofNat (48 + u % 10)).toNat = 48 + u % 10 := by simp; omega
      rw [decDigits, dif_neg h]
      have := pm_snoc (2 ^ 64 - 1) (UInt8.ofNat (48 + u % 10)) (decDigits (u / 10)) 0 (u / 10) (ih (u / 10) (by omega) (by omega)) (by omega) (by omega) (by omega) (by omega)
      rw [this, hc]
      congr 1
      omega
theorem dig_ne (u : Nat) : decDigits u ≠ [] := by
  intro h
  have := decDigits_length u
  rw [h] at this
  have h2 : 1 ≤ nDigits u := by
    unfold nDigits
    split <;> omega
  simp at this
  omega
/-- strconv.ParseUint of a numeral. -/
theorem parseDigits (u : Nat) (hu : u < 1844674407370955162) (w : World) :
    Calls Tryz.prog 42 #[.string ⟨(decDigits u).toArray⟩, .int .i64 10, .int .i64 64] w fun e w' => e = .returned (.tuple #[.int .u64 u, .nilIface]) ∧ Below w.heap.size w w' := by
  have hp : parseUintB 64 (ByteArray.mk (decDigits u).toArray).data.toList = .ok u := by
    show parseUintB 64 (decDigits u) = _
    unfold parseUintB
    rw [if_neg (dig_ne u), pm_digits u hu]
  have hsz : (ByteArray.mk (decDigits u).toArray).size ≤ 9223372036854775806 := by
    show (decDigits u).toArray.size ≤ _
    have := numDigits_eq u
    rw [List.size_toArray, decDigits_length]
    by_cases h1 : 1 ≤ u
    · have := numDigits_eq u h1 (by omega)
      split at this <;> omega
    · rw [nDigits_small (by omega)]
      decide
  refine (Any.strconv_ParseUint_10_at64_ok Tryz.lParse _ hsz u hp w).mono ?_
  rintro e w' ⟨he, hw⟩
  refine ⟨he, ?_⟩
  rcases hw with rfl | rfl
  · exact Below.refl _ _
  · exact bytes_below (Below.refl _ _) (Nat.le_refl _) _ _
end Go.Proofs.YtemepnpfhoidhaaGreatDoor.PAll
