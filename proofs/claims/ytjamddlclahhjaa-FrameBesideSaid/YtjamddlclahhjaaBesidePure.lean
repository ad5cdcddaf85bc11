/-
  The plain law FrameBeside: whole frames behind whole frames are all of both.
  Conditions: bytes are from 0 to 255.
-/
import Derived.Test.YtjamddlclahhjaaAllPure
import Derived.Test.YtjamddlclahhjaaPAllx7
namespace Go.Proofs.Ytjamddlclahhjaa.PAll
open Go.RowKit Go.Proofs.YtjamddlclahhjaaW.PrintWords Go.Proofs.YtjamddlclahhjaaW.PrintLast Go.Proofs.YtjamddlclahhjaaW.PrintMore
set_option linter.unusedVariables false
set_option linter.unusedSimpArgs false

theorem flat_take {l : List (List Int)} (hn : l.length ≤ 100) (hl : ∀ x ∈ l, x.length ≤ 2000) (i : Nat) : (flat (l.take i)).length ≤ 200800 := by
  have hfl := flat_len (l := l.take i) (M := 2000) fun x hx => hl x (List.mem_of_mem_take hx)
  have hlen : (l.take i).length ≤ 100 := by rw [List.length_take]; omega
  have := Nat.mul_le_mul_right 2008 hlen
  omega
theorem beside_l0 (l m : List (List Int)) (hb : BytesL l) (hn : l.length ≤ 100) (hl : ∀ x ∈ l, x.length ≤ 2000) (d : Nat) : ∀ (k i : Nat), i ≤ l.length → l.length - i = d → 12000 + d < k →
    winnowlaw02_FrameBeside.l0 k l m (flat (l.take i)) (i : Int) = winnowlaw02_FrameBeside.l0 (k - d) l m (flat l) (l.length : Int) := by
  induction d with
  | zero =>
    intro k i hi hd hk
    have : i = l.length := by omega
    subst this
    rw [List.take_length]
    rfl
  | succ d ih =>
    intro k i hi hd hk
    obtain ⟨k, rfl⟩ : ∃ j, k = j + 1 := ⟨k - 1, by omega⟩
    have hlt : i < l.length := by omega
    have hx := rdL_mem (xs := l) (i := (i : Int)) (by omega) (by omega)
    have hfl2 := flat_take hn hl i
    have hw : wrap64 ((i : Int) + 1) = ((i + 1 : Nat) : Int) := by unfold wrap64; omega
    have hlx := hl _ hx
    rw [winnowlaw02_FrameBeside.l0, if_pos (by omega), if_pos (by omega), put_eq (hb _ hx) (by omega) (by omega) (by omega)]
    simp only [Option.bind_some]
    have e : flat (l.take i) ++ frameL (rd_L1 l (i : Int)) = flat (l.take (i + 1)) := by
      rw [take_rdL l i hlt, flat_append]
      simp [flat]
    rw [hw, e, ih k (i + 1) (by omega) (by omega) (by omega)]
    congr 1
    omega
theorem beside_l1 (l m : List (List Int)) (a : List Int) (ha : a.length ≤ 200800) (hb : BytesL m) (hn : m.length ≤ 100) (hl : ∀ x ∈ m, x.length ≤ 2000) (d : Nat) : ∀ (k i : Nat), i ≤ m.length → m.length - i = d → 220000 + d < k →
    winnowlaw02_FrameBeside.l1 k l m a (flat (m.take i)) (i : Int) = winnowlaw02_FrameBeside.l1 (k - d) l m a (flat m) (m.length : Int) := by
  induction d with
  | zero =>
    intro k i hi hd hk
    have : i = m.length := by omega
    subst this
    rw [List.take_length]
    rfl
  | succ d ih =>
    intro k i hi hd hk
    obtain ⟨k, rfl⟩ : ∃ j, k = j + 1 := ⟨k - 1, by omega⟩
    have hlt : i < m.length := by omega
    have hx := rdL_mem (xs := m) (i := (i : Int)) (by omega) (by omega)
    have hfl2 := flat_take hn hl i
    have hw : wrap64 ((i : Int) + 1) = ((i + 1 : Nat) : Int) := by unfold wrap64; omega
    have hlx := hl _ hx
    have e2 : (a ++ frameL (rd_L1 m (i : Int))).take ((a.length : Int)).toNat = a := by
      rw [Int.toNat_natCast]
      exact List.take_left' rfl
    have hk1 : 12000 ≤ k := by omega
    rw [winnowlaw02_FrameBeside.l1, if_pos (by omega), if_pos (by omega), put_eq (hb _ hx) (by omega) (by omega) (by omega), put_eq (hb _ hx) (by omega) (by omega) (by omega)]
    simp only [Option.bind_some]
    rw [if_pos trivial, if_pos trivial, if_neg (by simp; omega), if_pos (by omega), if_pos (by simp; omega), e2, same_eq _ _ (by omega) (by omega)]
    simp only [Option.bind_some]
    have e : flat (m.take i) ++ frameL (rd_L1 m (i : Int)) = flat (m.take (i + 1)) := by
      rw [take_rdL m i hlt, flat_append]
      simp [flat]
    rw [if_pos (by simp), hw, e, ih k (i + 1) (by omega) (by omega) (by omega)]
    congr 1
    omega
theorem FrameBeside (K : Nat) (hK : 500000 ≤ K) (l m : List (List Int)) (hbl : BytesL l) (hbm : BytesL m) : winnowlaw02_FrameBeside.f K l m = some true := by
  obtain ⟨K, rfl⟩ : ∃ j, K = j + 1 := ⟨K - 1, by omega⟩
  have ha : ∀ b, b = true → winnowlaw02_FrameBeside.j0 (K + 1) l m b = some true := by
    rintro _ rfl
    rw [winnowlaw02_FrameBeside.j0, if_pos rfl]
    rfl
  unfold winnowlaw02_FrameBeside.f
  obtain ⟨b, e, h⟩ := bound_eq l (k := K + 1) (by omega)
  rw [e]
  simp only [Option.bind_some]
  cases b with
  | false => rw [if_neg (by decide)]; exact ha _ rfl
  | true =>
    obtain ⟨hn, hl⟩ := h rfl
    rw [if_pos rfl]
    obtain ⟨b, e, h⟩ := bound_eq m (k := K + 1) (by omega)
    rw [e]
    simp only [Option.bind_some]
    cases b with
    | false => exact ha _ rfl
    | true =>
      obtain ⟨hn2, hl2⟩ := h rfl
      rw [show (!true) = false from rfl, winnowlaw02_FrameBeside.j0, if_neg (by decide)]
      have h0 := beside_l0 l m hbl hn hl l.length K 0 (by omega) (by omega) (by omega)
      have e1 : flat (l.take 0) = [] := rfl
      rw [e1] at h0
      rw [show (0 : Int) = ((0 : Nat) : Int) from rfl]
      refine h0.trans ?_
      obtain ⟨k, hk⟩ : ∃ j, K - l.length = j + 1 := ⟨K - l.length - 1, by omega⟩
      have hA := flat_take hn hl l.length
      have hB := flat_take hn2 hl2 m.length
      rw [List.take_length] at hA hB
      have h1 := beside_l1 l m (flat l) hA hbm hn2 hl2 m.length k 0 (by omega) (by omega) (by omega)
      have e2 : flat (m.take 0) = [] := rfl
      rw [e2] at h1
      rw [hk, winnowlaw02_FrameBeside.l0, if_neg (by omega), show (0 : Int) = ((0 : Nat) : Int) from rfl]
      refine h1.trans ?_
      obtain ⟨k2, hk2⟩ : ∃ j, k - m.length = j + 1 := ⟨k - m.length - 1, by omega⟩
      have hR : AllR (flat l ++ flat m) (l ++ m) (flat l ++ flat m).length 0 := by
        have hm := all_flat hbm (fun x hx => by have := hl2 x hx; omega) AllR.nil
        simp only [List.append_nil, Nat.add_zero] at hm
        have := all_flat hbl (fun x hx => by have := hl x hx; omega) hm
        rw [List.length_append]
        exact this
      rw [hk2, winnowlaw02_FrameBeside.l1, if_neg (by omega)]
      simp only [Option.bind_some]
      have hS := sameL_eq (l ++ m) (l ++ m) 2000 (by omega) (fun x hx => by rcases List.mem_append.1 hx with h | h; exact hl x h; exact hl2 x h) (by rw [List.length_append]; omega) (k := k2) (by rw [List.length_append]; omega)
      have hw : wrap64 (((flat l).length : Int) + ((flat m).length : Int)) = (((flat l ++ flat m).length : Nat) : Int) := by rw [List.length_append]; unfold wrap64; omega
      rw [if_pos (by simp; omega), List.nil_append, if_pos (by omega), all_eq ((flat_bytes hbl).append (flat_bytes hbm)) (by rw [List.length_append]; omega) hR (by rw [List.length_append]; omega), Option.bind_some, if_pos rfl, if_pos hw.symm, if_pos (by simp; omega), List.nil_append, if_pos (by omega), hS, Option.bind_some, if_pos (by simp)]
      rfl
end Go.Proofs.Ytjamddlclahhjaa.PAll
