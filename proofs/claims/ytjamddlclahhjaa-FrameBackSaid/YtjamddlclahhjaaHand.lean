/-
  Small laws that our own contracts of library functions lean on: empty rows, slices of rows, rows appended.
  Conditions: none of a law's; plain lemmas over any program.
-/
import Derived.Test.YtjamddlclahhjaaWMore
import Derived.Test.YtjamddlclahhjaaWZeros
import Derived.WalkSpells
import Derived.Lib.SliceRun
import Derived.Lib.SlBytesConst
namespace Go.Proofs.Ytjamddlclahhjaa.Hand
open Go.RowKit Go.Proofs.YtjamddlclahhjaaW.PrintWords Go.Proofs.YtjamddlclahhjaaW.PrintLast Go.Proofs.YtjamddlclahhjaaW.PrintMore
set_option linter.unusedVariables false
set_option linter.unusedSimpArgs false

/-- An empty slice literal is a row of the call's own. -/
theorem R_empty {α : Type} (d : Kd α) (e : Nat) (w : World) : d.R e (w.alloc (.cells #[] e)) w.heap.size (fun _ => True) (.slice (some ⟨w.heap.size, 0, none⟩) 0 0) [] :=
  ⟨fun _ _ => trivial, [], World.ownsRow_lit (base := w.heap.size) (e := e) (size := d.sz) w #[] 0 (Nat.le_refl _) (Nat.zero_le _) (by simp), Reps.none _ _⟩
/-- 'xs[:j]' up to the capacity. -/
theorem run_slice_to {P : Program} (t e : TypeId) (kl : IntKind) {i : TypeInfo} (ht : P.underlying t = some (.slice e)) (hi : P.info? e = some i) (A : Option Addr) (n c j : Nat) (hj : j ≤ c) (W : World) :
    (Instr.slice t (.slice A n c) none (some (.int kl (j : Int))) none).run P W = .ok (.slice A j c) W := by
  have hel : P.elem t = e := by simp [Program.elem, ht]
  have hu : P.underlying t = some (.slice (P.elem t)) := by rw [hel]; exact ht
  have ha : (A.map fun x => x.add 0) = A := by cases A <;> simp [Addr.add]
  rw [run_slice_h W t A n c hu kl (j : Int) (by omega) (by omega), hel]
  simp [sizeOf, typeInfo, hi, sliced, Result.andThen, ha]
theorem C_none {α : Type} {d : Kd α} {w : World} {n : Nat} {xs : List α} (h : d.C w none n xs) : xs = [] := by
  rcases Nat.eq_zero_or_pos n with h0 | h0
  · exact List.eq_nil_of_length_eq_zero (by rw [h.1, h0])
  · obtain ⟨ad, e, _⟩ := h.2.2 h0
    cases e
/-- the lengths of the first rows, together -/
def sumTo {α : Type} (l : List (List α)) (k : Nat) : Nat := ((l.take k).map List.length).sum
theorem sumTo_le {α : Type} (l : List (List α)) (k : Nat) : sumTo l k ≤ l.flatten.length := by
  unfold sumTo
  rw [List.length_flatten]
  conv => rhs; rw [← List.take_append_drop k l]
  rw [List.map_append, List.sum_append]
  omega
theorem sumTo_succ {α : Type} (l : List (List α)) (k : Nat) (h : k < l.length) : sumTo l (k + 1) = sumTo l k + (l.getD k []).length := by
  unfold sumTo
  rw [List.take_succ_eq_append_getElem h, List.map_append, List.sum_append]
  simp [List.getD_eq_getElem?_getD, List.getElem?_eq_getElem h]
theorem sumTo_all {α : Type} (l : List (List α)) : sumTo l l.length = l.flatten.length := by
  unfold sumTo
  rw [List.take_length, List.length_flatten]
theorem flat_succ {α : Type} (l : List (List α)) (k : Nat) (h : k < l.length) : (l.take (k + 1)).flatten = (l.take k).flatten ++ l.getD k [] := by
  rw [List.take_succ_eq_append_getElem h, List.flatten_append]
  simp [List.getD_eq_getElem?_getD, List.getElem?_eq_getElem h]
theorem flat_len {α : Type} (l : List (List α)) (k : Nat) : (l.take k).flatten.length = sumTo l k := by
  unfold sumTo
  rw [List.length_flatten]
theorem at_row {α : Type} {d : Kd α} {e : Nat} {w : World} {A : Option Addr} {n : Nat} {xs : List (List α)} (h : Kd.C (Kd.slice e d) w A n xs) (k : Nat) (hk : k < n) :
    ∃ ad A' c', A = some ad ∧ w.cell? (ad.add k) = some (.slice A' (xs.getD k []).length c') ∧ (xs.getD k []).length ≤ c' ∧ d.C w A' (xs.getD k []).length (xs.getD k []) := by
  obtain ⟨ad, c, e1, _, ⟨A', c', rfl, hl, hC⟩, hc⟩ := Kd.C_get h ([] : List α) (k : Int) (by omega) (by omega)
  refine ⟨ad, A', c', e1, ?_, hl, hC⟩
  have := hc 0 _ rfl
  simpa [show (Kd.slice e d).sz = 1 from rfl] using this
/-- The bits of two numbers that share none, together. -/
theorem or_apart (k : Nat) (a x : Int) (ha0 : 0 ≤ a) (ha : a < (2 : Int) ^ k) (hx0 : 0 ≤ x) (hx : x * (2 : Int) ^ k + a < 4294967296) : Go.bits .or .u32 a (x * (2 : Int) ^ k) = a + x * (2 : Int) ^ k := by
  obtain ⟨n, rfl⟩ := Int.eq_ofNat_of_zero_le ha0
  obtain ⟨m, rfl⟩ := Int.eq_ofNat_of_zero_le hx0
  have hn : n < 2 ^ k := by exact_mod_cast ha
  have hs : m * 2 ^ k + n < 4294967296 := by
    have h : ((m * 2 ^ k + n : Nat) : Int) < 4294967296 := by rw [Int.natCast_add, Int.natCast_mul, Int.natCast_pow]; exact hx
    omega
  have hor := Nat.two_pow_add_eq_or_of_lt hn m
  have e1 : (m : Int) * (2 : Int) ^ k = ((m * 2 ^ k : Nat) : Int) := by push_cast; rfl
  rw [e1]
  have h3 : (BitVec.ofInt 32 (n : Int) ||| BitVec.ofInt 32 ((m * 2 ^ k : Nat) : Int)).toNat = n + m * 2 ^ k := by
    rw [BitVec.toNat_or, BitVec.ofInt_natCast, BitVec.ofInt_natCast, BitVec.toNat_ofNat, BitVec.toNat_ofNat, Nat.mod_eq_of_lt (by omega), Nat.mod_eq_of_lt (by omega), Nat.or_comm, Nat.mul_comm m, ← hor]
    omega
  show IntKind.u32.wrap (((BitVec.ofInt 32 (n : Int) ||| BitVec.ofInt 32 ((m * 2 ^ k : Nat) : Int)).toNat : Nat) : Int) = _
  rw [h3]
  simp [IntKind.wrap, IntKind.signed, IntKind.bits]
  omega
/-- 'xs[a:b:b]' of a slice that is read. -/
theorem print_mid3_of {α : Type} {P : Program} (enc : α → Value) (d : α) (t e : TypeId) (kl kh : IntKind) {i : TypeInfo} (ht : P.underlying t = some (.slice e)) (hi : P.info? e = some i) (hsz : i.size = 1) (A : Option Addr) (c : Nat) (xs : List α) (a b : Int) (h0 : 0 ≤ a) (h1 : a ≤ b) (hm : b ≤ xs.length) (hc : xs.length ≤ c) :
    ∃ A' : Option Addr, (∀ W : World, (Instr.slice t (.slice A xs.length c) (some (.int kl a)) (some (.int kh b)) (some (.int kh b))).run P W = .ok (.slice A' ((xs.take b.toNat).drop a.toNat).length (b.toNat - a.toNat)) W) ∧
      (∀ w : World, ReadsOf enc d w A xs.length xs → ReadsOf enc d w A' ((xs.take b.toNat).drop a.toNat).length ((xs.take b.toNat).drop a.toNat)) ∧ ((xs.take b.toNat).drop a.toNat).length ≤ b.toNat - a.toNat := by
  have hlt : (xs.take b.toNat).length = b.toNat := by rw [List.length_take]; omega
  have hl : ((xs.take b.toNat).drop a.toNat).length = b.toNat - a.toNat := by rw [List.length_drop, hlt]
  refine ⟨if b.toNat = a.toNat then A else A.map (·.add a.toNat), fun W => ?_, fun w h => ?_, by rw [hl]; omega⟩
  · have hel : P.elem t = e := by simp [Program.elem, ht]
    have hu : P.underlying t = some (.slice (P.elem t)) := by rw [hel]; exact ht
    rw [run_slice_lhm W t A xs.length c hu kl kh kh a b b h0 h1 (Int.le_refl _) (by omega), hel, hl]
    simp [sizeOf, typeInfo, hi, hsz, sliced, Result.andThen]
  · have h2 := (h.take_ b.toNat (by omega)).drop_ (c := b.toNat) a.toNat (by omega) (by omega)
    rw [hl]
    exact h2
end Go.Proofs.Ytjamddlclahhjaa.Hand
