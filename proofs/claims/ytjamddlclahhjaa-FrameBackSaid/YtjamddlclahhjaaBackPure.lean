/-
  The plain law FrameBack: what was put is all cut again, and, cut off anywhere, as much as is whole.
  Conditions: bytes are from 0 to 255.
-/
import Derived.Test.YtjamddlclahhjaaAllPure
import Derived.Test.YtjamddlclahhjaaPAllx16
namespace Go.Proofs.Ytjamddlclahhjaa.PAll
open Go.RowKit Go.Proofs.YtjamddlclahhjaaW.PrintWords Go.Proofs.YtjamddlclahhjaaW.PrintLast Go.Proofs.YtjamddlclahhjaaW.PrintMore
set_option linter.unusedVariables false
set_option linter.unusedSimpArgs false

/-- Where each of the first frames ends. -/
def endsL (l : List (List Int)) (n : Nat) : List Int := (List.range (n + 1)).map fun j => ((flat (l.take j)).length : Int)
theorem endsL_len (l : List (List Int)) (n : Nat) : (endsL l n).length = n + 1 := by simp [endsL]
theorem endsL_rd (l : List (List Int)) (n : Nat) {j : Int} (h0 : 0 ≤ j) (h : j ≤ n) : rd (endsL l n) j = ((flat (l.take j.toNat)).length : Int) := by
  unfold rd endsL
  rw [List.getD_eq_getElem?_getD, List.getElem?_map, List.getElem?_range (by omega)]
  rfl
theorem endsL_succ (l : List (List Int)) (n : Nat) : endsL l (n + 1) = endsL l n ++ [((flat (l.take (n + 1))).length : Int)] := by
  unfold endsL
  rw [List.range_succ, List.map_append]
  rfl
theorem back_l0 (l : List (List Int)) (c : Int) (hb : BytesL l) (hn : l.length ≤ 100) (hl : ∀ x ∈ l, x.length ≤ 2000) (d : Nat) : ∀ (k i : Nat), i ≤ l.length → l.length - i = d → 12000 + d < k →
    winnowlaw02_FrameBack.l0 k l c (flat (l.take i)) (endsL l i) (i : Int) = winnowlaw02_FrameBack.l0 (k - d) l c (flat l) (endsL l l.length) (l.length : Int) := by
  induction d with
  | zero =>
    intro k i hi hd hk
    have : i = l.length := by omega
    subst this
    rw [List.take_length]
    rfl
  | succ d ih =>
    intro k i hi hd hk
    obtain ⟨k, rfl⟩ : ∃ j, k = j + 1 := ⟨k - 1, by omega⟩
    have hlt : i < l.length := by omega
    have hx := rdL_mem (xs := l) (i := (i : Int)) (by omega) (by omega)
    have hfl := flat_len (l := l.take i) (M := 2000) fun x hx => hl x (List.mem_of_mem_take hx)
    have hlen : (l.take i).length ≤ 100 := by rw [List.length_take]; omega
    have hfl2 : (flat (l.take i)).length ≤ 100 * 2008 := Nat.le_trans hfl (Nat.mul_le_mul hlen (by omega))
    have hw : wrap64 ((i : Int) + 1) = ((i + 1 : Nat) : Int) := by unfold wrap64; omega
    have hlx := hl _ hx
    rw [winnowlaw02_FrameBack.l0, if_pos (by omega), if_pos (by omega), put_eq (hb _ hx) (by omega) (by omega) (by omega)]
    simp only [Option.bind_some]
    rw [if_pos trivial, if_pos (by rw [endsL_len]; omega), hw]
    have e : flat (l.take i) ++ frameL (rd_L1 l (i : Int)) = flat (l.take (i + 1)) := by
      rw [take_rdL l i hlt, flat_append]
      simp [flat]
    rw [e, ← endsL_succ, ih k (i + 1) (by omega) (by omega) (by omega)]
    congr 1
    omega
theorem back_l1 (l : List (List Int)) (c : Int) (b : List Int) (E : List Int) (hE : E.length ≤ 1000) (d : Nat) : ∀ (k : Nat) (w i : Int), 0 ≤ w → w < i → 0 ≤ i → i ≤ E.length → (E.length : Int) - i = d → 12000 + d < k →
    rd E w ≤ c → (∀ j : Int, w < j → j < i → c < rd E j) →
    ∃ w' : Int, 0 ≤ w' ∧ w' < E.length ∧ rd E w' ≤ c ∧ (∀ j : Int, w' < j → j < E.length → c < rd E j) ∧ winnowlaw02_FrameBack.l1 k l c b E w i = winnowlaw02_FrameBack.l1 (k - d) l c b E w' E.length := by
  induction d with
  | zero =>
    intro k w i hw0 hwi hi hie hd hk hc hj
    have : i = E.length := by omega
    subst this
    exact ⟨w, hw0, hwi, hc, hj, rfl⟩
  | succ d ih =>
    intro k w i hw0 hwi hi hie hd hk hc hj
    obtain ⟨k, rfl⟩ : ∃ j, k = j + 1 := ⟨k - 1, by omega⟩
    have hw : wrap64 (i + 1) = i + 1 := by unfold wrap64; omega
    rw [winnowlaw02_FrameBack.l1, if_pos (by omega), if_pos hi, hw]
    have hk' : k + 1 - (d + 1) = k - d := by omega
    rw [hk']
    by_cases h : rd E i ≤ c
    · rw [if_pos h]
      exact ih k i (i + 1) (by omega) (by omega) (by omega) (by omega) (by omega) (by omega) h (fun j h1 h2 => by omega)
    · rw [if_neg h]
      refine ih k w (i + 1) (by omega) (by omega) (by omega) (by omega) (by omega) (by omega) hc (fun j h1 h2 => ?_)
      by_cases hji : j = i
      · subst hji; omega
      · exact hj j h1 (by omega)
theorem back_end (l : List (List Int)) (c : Int) (hb : BytesL l) (hn : l.length ≤ 100) (hl : ∀ x ∈ l, x.length ≤ 2000) (h0 : 0 ≤ c) (hc : c ≤ (flat l).length) {k : Nat} (hk : 12000 < k) {w : Nat} (hw : w ≤ l.length) (hwc : ((flat (l.take w)).length : Int) ≤ c)
    (hj : w < l.length → c < (flat (l.take (w + 1))).length) :
    winnowlaw02_FrameBack.l1 k l c (flat l) (endsL l l.length) w ((endsL l l.length).length : Int) = some true := by
  obtain ⟨k, rfl⟩ : ∃ j, k = j + 1 := ⟨k - 1, by omega⟩
  have hfl := flat_len (l := l) (M := 2000) hl
  have hfl2 : (flat l).length ≤ 100 * 2008 := Nat.le_trans hfl (Nat.mul_le_mul hn (by omega))
  have hbt : BytesL (l.take w) := fun x hx => hb x (List.mem_of_mem_take hx)
  have hlt : ∀ x ∈ l.take w, x.length ≤ 2000 := fun x hx => hl x (List.mem_of_mem_take hx)
  rw [winnowlaw02_FrameBack.l1, if_neg (by omega), if_pos h0, if_pos hc]
  have hr : rd (endsL l l.length) (w : Int) = ((flat (l.take w)).length : Int) := endsL_rd l _ (by omega) (by omega)
  have hA : AllR ((flat l).take c.toNat) (l.take w) (flat (l.take w)).length (if ((flat (l.take w)).length : Int) = c then 0 else 3) := by
    have e0 : flat l = flat (l.take w) ++ flat (l.drop w) := by rw [← flat_append, List.take_append_drop]
    have e1 : (flat l).take c.toNat = flat (l.take w) ++ (flat (l.drop w)).take (c.toNat - (flat (l.take w)).length) := by
      rw [e0, List.take_append, List.take_of_length_le (by omega)]
    have key : AllR ((flat (l.drop w)).take (c.toNat - (flat (l.take w)).length)) [] 0 (if ((flat (l.take w)).length : Int) = c then 0 else 3) := by
      by_cases hq : ((flat (l.take w)).length : Int) = c
      · rw [if_pos hq, show c.toNat - (flat (l.take w)).length = 0 by omega]
        exact AllR.nil
      · rw [if_neg hq]
        rcases Nat.lt_or_ge w l.length with hlw | hge
        · have hd : l.drop w = rd_L1 l (w : Int) :: l.drop (w + 1) := by
            have := drop_rdL l (w : Int) (by omega) (by omega)
            rwa [show ((w : Int)).toNat = w by omega, show ((w : Int) + 1).toNat = w + 1 by omega] at this
          have hx := rdL_mem (xs := l) (i := (w : Int)) (by omega) (by omega)
          have hlx := hl _ hx
          have hjw := hj hlw
          rw [take_rdL l w hlw, flat_append, List.length_append] at hjw
          have hf1 : (flat [rd_L1 l (w : Int)]).length = (frameL (rd_L1 l (w : Int))).length := by simp [flat]
          rw [hf1] at hjw
          rw [hd, flat_cons, List.take_append_of_le_length (by omega)]
          exact all_short (hb _ hx) (by omega) (by omega) (by omega)
        · have : l.take w = l := List.take_of_length_le hge
          rw [this] at hwc hq
          omega
    have := all_flat hbt (fun x hx => by have := hlt x hx; omega) key
    rw [e1]
    simpa using this
  rw [all_eq ((flat_bytes hb).take _) (by rw [List.length_take]; omega) hA (by rw [List.length_take]; omega)]
  simp only [Option.bind_some]
  have hwe : (w : Int) < ((endsL l l.length).length : Int) := by rw [endsL_len]; omega
  have hS := sameL_eq (l.take w) (l.take w) 2000 (by omega) hlt (by rw [List.length_take]; omega) (k := k) (by rw [List.length_take]; omega)
  rw [if_pos (by omega), if_pos hwe, hr, show ((w : Int)).toNat = w by omega]
  by_cases hq : ((flat (l.take w)).length : Int) = c
  · rw [if_pos hq, if_pos hq, if_pos (by omega), hS]
    simp only [Option.bind_some]
    rw [if_pos (by simp), if_pos trivial, if_pos trivial]
    rfl
  · rw [if_neg hq, if_neg hq, if_pos (by omega), hS]
    simp only [Option.bind_some]
    rw [if_pos (by simp), if_pos trivial, if_pos trivial]
    rfl
theorem FrameBack (l : List (List Int)) (c : Int) (hb : BytesL l) : winnowlaw02_FrameBack.f 20000 l c = some true := by
  unfold winnowlaw02_FrameBack.f
  obtain ⟨b, e, h⟩ := bound_eq l (k := 20000) (by omega)
  rw [e]
  simp only [Option.bind_some]
  cases b with
  | false => rw [if_neg (by decide)]; rfl
  | true =>
    obtain ⟨hn, hl⟩ := h rfl
    rw [if_pos rfl]
    have h0 := back_l0 l c hb hn hl l.length 20000 0 (by omega) (by omega) (by omega)
    have e1 : flat (l.take 0) = [] := rfl
    have e2 : endsL l 0 = [0] := rfl
    rw [e1, e2] at h0
    rw [show (0 : Int) = ((0 : Nat) : Int) from rfl]
    refine h0.trans ?_
    obtain ⟨k, hk⟩ : ∃ j, 20000 - l.length = j + 1 := ⟨19999 - l.length, by omega⟩
    have hfl := flat_len (l := l) (M := 2000) hl
    have hfl2 : (flat l).length ≤ 100 * 2008 := Nat.le_trans hfl (Nat.mul_le_mul hn (by omega))
    have hA : AllR (flat l) l (flat l).length 0 := by
      have := all_flat hb (fun x hx => by have := hl x hx; omega) AllR.nil
      simpa using this
    rw [hk, winnowlaw02_FrameBack.l0, if_neg (by omega), all_eq (flat_bytes hb) (by omega) hA (by omega)]
    simp only [Option.bind_some]
    rw [if_pos trivial, if_pos trivial, sameL_eq _ _ 2000 (by omega) hl (by omega) (by omega)]
    simp only [Option.bind_some]
    obtain ⟨k, rfl⟩ : ∃ j, k = j + 1 := ⟨k - 1, by omega⟩
    rw [winnowlaw02_FrameBack.j1, if_neg (by simp)]
    obtain ⟨k, rfl⟩ : ∃ j, k = j + 1 := ⟨k - 1, by omega⟩
    have ha : ∀ b, b = true → winnowlaw02_FrameBack.j2 (k + 1) l c (flat l) (endsL l l.length) b = some true := by
      rintro _ rfl
      rw [winnowlaw02_FrameBack.j2, if_pos rfl]
      rfl
    by_cases hc0 : c < 0
    · rw [if_pos hc0]; exact ha _ rfl
    · rw [if_neg hc0]
      by_cases hc1 : c > (flat l).length
      · exact ha _ (by simpa using hc1)
      · rw [winnowlaw02_FrameBack.j2, if_neg (by simpa using hc1)]
        have hE := endsL_len l l.length
        obtain ⟨w, hw0, hwl, hwc, hwj, e⟩ := back_l1 l c (flat l) (endsL l l.length) (by omega) ((endsL l l.length).length - 1) k 0 1 (by omega) (by omega) (by omega) (by omega) (by omega) (by omega)
          (by rw [endsL_rd l _ (by omega) (by omega)]; simp [flat]; omega) (fun j h1 h2 => by omega)
        rw [e]
        obtain ⟨w, rfl⟩ := Int.eq_ofNat_of_zero_le hw0
        refine back_end l c hb hn hl (by omega) (by omega) (by omega) (by omega) ?_ ?_
        · rw [endsL_rd l _ (by omega) (by omega)] at hwc
          exact hwc
        · intro hlt
          have := hwj ((w : Int) + 1) (by omega) (by omega)
          rw [endsL_rd l _ (by omega) (by omega)] at this
          exact this
end Go.Proofs.Ytjamddlclahhjaa.PAll
