/-
  The plain law of all frames of some bytes: what frame.All computes; FrameBack.
  Conditions: bytes are from 0 to 255.
-/
import Derived.Test.YtjamddlclahhjaaCutPure
import Derived.Test.YtjamddlclahhjaaPAllx4
import Derived.Test.YtjamddlclahhjaaPAllx5
import Derived.Test.YtjamddlclahhjaaPAllx6
namespace Go.Proofs.Ytjamddlclahhjaa.PAll
open Go.RowKit Go.Proofs.YtjamddlclahhjaaW.PrintWords Go.Proofs.YtjamddlclahhjaaW.PrintLast Go.Proofs.YtjamddlclahhjaaW.PrintMore
set_option linter.unusedVariables false
set_option linter.unusedSimpArgs false

/-- All bytes in all lists. -/
def BytesL (l : List (List Int)) : Prop := ∀ x ∈ l, Bytes x
theorem drop_rdL (xs : List (List Int)) (i : Int) (h0 : 0 ≤ i) (h : i < (xs.length : Int)) : xs.drop i.toNat = rd_L1 xs i :: xs.drop (i + 1).toNat := by
  have hi : i.toNat < xs.length := by omega
  rw [List.drop_eq_getElem_cons hi, show (i + 1).toNat = i.toNat + 1 by omega]
  simp [rd_L1, List.getD_eq_getElem?_getD, List.getElem?_eq_getElem hi]
theorem rdL_mem {xs : List (List Int)} {i : Int} (h0 : 0 ≤ i) (h1 : i < (xs.length : Int)) : rd_L1 xs i ∈ xs := by
  have hi : i.toNat < xs.length := by omega
  unfold rd_L1
  rw [List.getD_eq_getElem?_getD, List.getElem?_eq_getElem hi]
  exact List.getElem_mem hi
theorem take_rdL (xs : List (List Int)) (i : Nat) (h : i < xs.length) : xs.take (i + 1) = xs.take i ++ [rd_L1 xs (i : Int)] := by
  rw [List.take_succ_eq_append_getElem h]
  simp [rd_L1, List.getD_eq_getElem?_getD, List.getElem?_eq_getElem h]

/-! ### lists of bytes that are the same -/
theorem sameL_tells (a b : List (List Int)) (M : Nat) (hM : M ≤ 140737488355328) (hm : ∀ x ∈ a, x.length ≤ M) (hn : a.length ≤ 1000000) (hl : a.length = b.length) (d : Nat) : ∀ (k : Nat) (i : Int), 0 ≤ i → i ≤ a.length → (a.length : Int) - i = d → d + M + 1 < k →
    winnowref02_Same.l0 k a b i = some (decide (a.drop i.toNat = b.drop i.toNat)) := by
  induction d with
  | zero =>
    intro k i h0 h1 hd hk
    obtain ⟨k, rfl⟩ : ∃ j, k = j + 1 := ⟨k - 1, by omega⟩
    rw [winnowref02_Same.l0, if_neg (by omega), List.drop_eq_nil_of_le (by omega), List.drop_eq_nil_of_le (by omega)]
    simp
  | succ d ih =>
    intro k i h0 h1 hd hk
    obtain ⟨k, rfl⟩ : ∃ j, k = j + 1 := ⟨k - 1, by omega⟩
    have hlt : i < (a.length : Int) := by omega
    have hlt2 : i < (b.length : Int) := by omega
    have hw : wrap64 (i + 1) = i + 1 := by unfold wrap64; omega
    have hx := hm _ (rdL_mem h0 hlt)
    rw [winnowref02_Same.l0, if_pos hlt, if_pos h0, if_pos hlt2, drop_rdL a i h0 hlt, drop_rdL b i h0 hlt2, same_eq _ _ (by omega) (by omega)]
    simp only [Option.bind_some]
    by_cases e : rd_L1 a i = rd_L1 b i
    · rw [if_pos (by simpa using e), hw, ih k (i + 1) (by omega) (by omega) (by omega) (by omega)]
      simp [e]
    · rw [if_neg (by simpa using e)]
      simp [e]
theorem sameL_eq (a b : List (List Int)) (M : Nat) (hM : M ≤ 140737488355328) (hm : ∀ x ∈ a, x.length ≤ M) (hn : a.length ≤ 1000000) {k : Nat} (hk : a.length + M + 1 < k) : winnowref02_Same.f k a b = some (decide (a = b)) := by
  unfold winnowref02_Same.f
  by_cases hl : (a.length : Int) = (b.length : Int)
  · rw [if_pos hl, sameL_tells a b M hM hm hn (by omega) a.length k 0 (by omega) (by omega) (by omega) hk]
    simp
  · rw [if_neg hl]
    simp only [Option.some.injEq]
    symm
    rw [decide_eq_false_iff_not]
    intro e
    exact hl (by rw [e])
theorem bound_tells (l : List (List Int)) (hn : l.length ≤ 100) (d : Nat) : ∀ (k : Nat) (n i : Int), 0 ≤ i → i ≤ l.length → (l.length : Int) - i = d → d < k →
    ∃ b, winnowlaw02_bound.l0 k l n i = some b ∧ (b = true → ∀ x ∈ l.drop i.toNat, x.length ≤ 2000) := by
  induction d with
  | zero =>
    intro k n i h0 h1 hd hk
    obtain ⟨k, rfl⟩ : ∃ j, k = j + 1 := ⟨k - 1, by omega⟩
    refine ⟨_, by rw [winnowlaw02_bound.l0, if_neg (by omega)], fun _ x hx => ?_⟩
    rw [List.drop_eq_nil_of_le (by omega)] at hx
    cases hx
  | succ d ih =>
    intro k n i h0 h1 hd hk
    obtain ⟨k, rfl⟩ : ∃ j, k = j + 1 := ⟨k - 1, by omega⟩
    have hlt : i < (l.length : Int) := by omega
    have hw : wrap64 (i + 1) = i + 1 := by unfold wrap64; omega
    rw [winnowlaw02_bound.l0, if_pos hlt, if_pos h0, hw]
    by_cases c0 : ((rd_L1 l i).length : Int) > 2000
    · exact ⟨false, by rw [if_pos c0], fun h => by cases h⟩
    by_cases c1 : n > 20000
    · exact ⟨false, by rw [if_neg c0, if_pos c1], fun h => by cases h⟩
    rw [if_neg c0, if_neg c1]
    obtain ⟨b, e, hb⟩ := ih k (wrap64 (n + ((rd_L1 l i).length : Int))) (i + 1) (by omega) (by omega) (by omega) (by omega)
    refine ⟨b, e, fun h x hx => ?_⟩
    rw [drop_rdL l i h0 hlt] at hx
    rcases List.mem_cons.1 hx with rfl | hx
    · omega
    · exact hb h x hx
theorem bound_eq (l : List (List Int)) {k : Nat} (hk : 101 < k) : ∃ b, winnowlaw02_bound.f k l = some b ∧ (b = true → l.length ≤ 100 ∧ ∀ x ∈ l, x.length ≤ 2000) := by
  unfold winnowlaw02_bound.f
  by_cases h : (l.length : Int) > 100
  · exact ⟨false, by rw [if_pos h], fun h => by cases h⟩
  · rw [if_neg h]
    obtain ⟨b, e, hb⟩ := bound_tells l (by omega) l.length k 0 0 (by omega) (by omega) (by omega) (by omega)
    exact ⟨b, e, fun h => ⟨by omega, by simpa using hb h⟩⟩

/-! ### what is cut -/
theorem u32_take {l : List Int} {n : Nat} (h : 4 ≤ n) : u32 (l.take n) = u32 l := by
  have g : ∀ j : Int, 0 ≤ j → j < 4 → rd (l.take n) j = rd l j := by
    intro j h0 h1
    simp only [rd, List.getD_eq_getElem?_getD]
    rw [List.getElem?_take_of_lt (by omega)]
  unfold u32
  rw [g 0 (by omega) (by omega), g 1 (by omega) (by omega), g 2 (by omega) (by omega), g 3 (by omega) (by omega)]
/-- What more than a frame's greatest length lies behind says nothing. -/
theorem cut_window {l : List Int} (hb : Bytes l) : (cutN (l.take 8200)).1 = (cutN l).1 ∧ (cutN (l.take 8200)).2.2 = (cutN l).2.2 := by
  have hu : u32 (l.take 8200) = u32 l := u32_take (by omega)
  unfold cutN
  rw [hu]
  by_cases h4 : l.length < 4
  · rw [if_pos (by simp; omega), if_pos h4]; exact ⟨rfl, rfl⟩
  have hr := u32_range hb (by omega)
  rw [if_neg (by simp; omega), if_neg h4]
  by_cases h5 : u32 l > 8192
  · rw [if_pos h5, if_pos h5]; exact ⟨rfl, rfl⟩
  rw [if_neg h5, if_neg h5]
  by_cases h6 : l.length < 8 + (u32 l).toNat
  · rw [if_pos (by simp; omega), if_pos h6]; exact ⟨rfl, rfl⟩
  rw [if_neg (by simp; omega), if_neg h6]
  have e1 : (l.take 8200).take (4 + (u32 l).toNat) = l.take (4 + (u32 l).toNat) := by rw [List.take_take, Nat.min_eq_left (by omega)]
  have e2 : u32 ((l.take 8200).drop (4 + (u32 l).toNat)) = u32 (l.drop (4 + (u32 l).toNat)) := by
    rw [List.drop_take, u32_take (by omega)]
  rw [e1, e2]
  by_cases h7 : (sumN (l.take (4 + (u32 l).toNat)) : Int) = u32 (l.drop (4 + (u32 l).toNat))
  · rw [if_pos h7, if_pos h7]; exact ⟨rfl, rfl⟩
  · rw [if_neg h7, if_neg h7]; exact ⟨rfl, rfl⟩
theorem cut_ok {l : List Int} (hb : Bytes l) (h : (cutN l).2.2 = 0) : (cutN l).1.length + 8 ≤ l.length ∧ (cutN l).1.length ≤ 8192 ∧ (cutN l).2.1 = l.drop ((cutN l).1.length + 8) := by
  unfold cutN at h ⊢
  by_cases h4 : l.length < 4
  · rw [if_pos h4] at h; cases h
  have hr := u32_range hb (by omega)
  rw [if_neg h4] at h ⊢
  by_cases h5 : u32 l > 8192
  · rw [if_pos h5] at h; cases h
  rw [if_neg h5] at h ⊢
  by_cases h6 : l.length < 8 + (u32 l).toNat
  · rw [if_pos h6] at h; cases h
  rw [if_neg h6] at h ⊢
  by_cases h7 : (sumN (l.take (4 + (u32 l).toNat)) : Int) = u32 (l.drop (4 + (u32 l).toNat))
  · rw [if_pos h7]
    have : ((l.take (4 + (u32 l).toNat)).drop 4).length = (u32 l).toNat := by simp; omega
    simp only [this]
    exact ⟨by omega, by omega, by rw [Nat.add_comm]⟩
  · rw [if_neg h7] at h; cases h
theorem cut_nil : cutN [] = ([], [], 3) := rfl
theorem cut_frame {data : List Int} (hb : Bytes data) (hl : data.length ≤ 8192) (rest : List Int) : cutN (frameL data ++ rest) = (data, rest, 0) := by
  have hn : ((data.length : Int)).toNat = data.length := by omega
  have hln := frameL_len data
  have hs := sumN_lt (headL_bytes hb)
  unfold cutN
  rw [u32_frame hl, hn, if_neg (by simp; omega), if_neg (by omega), if_neg (by simp; omega)]
  have e1 : (frameL data ++ rest).take (4 + data.length) = headL data := by
    unfold frameL
    rw [List.append_assoc]
    exact List.take_left' (headL_len data)
  have e2 : (frameL data ++ rest).drop (4 + data.length) = le4 (sumN (headL data)) ++ rest := by
    unfold frameL
    rw [List.append_assoc]
    exact List.drop_left' (headL_len data)
  have e3 : (frameL data ++ rest).drop (8 + data.length) = rest := List.drop_left' hln
  rw [e1, e2, e3, u32_le4 hs, if_pos rfl]
  rfl
theorem cut_short {data : List Int} (hb : Bytes data) (hl : data.length ≤ 8192) {m : Nat} (hm : m < (frameL data).length) : cutN ((frameL data).take m) = ([], [], 3) := by
  have hln := frameL_len data
  unfold cutN
  by_cases h4 : m < 4
  · rw [if_pos (by simp; omega)]
  · have hu : u32 ((frameL data).take m) = data.length := by
      rw [u32_take (by omega)]
      have := u32_frame hl []
      rwa [List.append_nil] at this
    rw [hu, if_neg (by simp; omega), if_neg (by omega), if_pos (by simp; omega)]

/-! ### all -/
/-- All frames of some bytes, how many bytes they took, and what stopped them. -/
inductive AllR : List Int → List (List Int) → Nat → Int → Prop
  | nil : AllR [] [] 0 0
  | cut {l : List Int} {ds : List (List Int)} {u : Nat} {k : Int} (hn : l ≠ []) (h : (cutN l).2.2 = 0) (t : AllR (cutN l).2.1 ds u k) : AllR l ((cutN l).1 :: ds) ((cutN l).1.length + 8 + u) k
  | stop {l : List Int} (hn : l ≠ []) (h : (cutN l).2.2 ≠ 0) : AllR l [] 0 (cutN l).2.2
theorem all_tells (x0 : List Int) (hb : Bytes x0) (hl : x0.length ≤ 1000000) {r : List Int} {ds : List (List Int)} {u : Nat} {kd : Int} (h : AllR r ds u kd) : ∀ (k : Nat) (x2 : List (List Int)) (used : Int), 0 ≤ used → used ≤ x0.length → x0.drop used.toNat = r → x2.length ≤ used → ds.length + 9001 < k →
    frame_All.l0 k x0 x2 used = some (x2 ++ ds, used + u, kd) := by
  induction h with
  | nil =>
    intro k x2 used h0 h1 hr hx hk
    obtain ⟨k, rfl⟩ : ∃ j, k = j + 1 := ⟨k - 1, by omega⟩
    have : x0.length ≤ used.toNat := List.drop_eq_nil_iff.1 hr
    rw [frame_All.l0, if_neg (by omega)]
    simp
  | @cut l ds u kd hn hc t ih =>
    intro k x2 used h0 h1 hr hx hk
    obtain ⟨k, rfl⟩ : ∃ j, k = j + 1 := ⟨k - 1, by omega⟩
    have hlt : used < x0.length := by
      rcases Nat.lt_or_ge used.toNat x0.length with h | h
      · omega
      · exact absurd (hr.symm.trans (List.drop_eq_nil_iff.2 h)) hn
    have hbl : Bytes l := hr ▸ hb.drop _
    have hw : wrap64 (wrap64 (used + 8192) + 8) = used + 8200 := by unfold wrap64; omega
    have hle : used ≤ mn (x0.length : Int) (used + 8200) ∧ mn (x0.length : Int) (used + 8200) ≤ x0.length := by unfold mn; split <;> omega
    have hwin : (x0.take (mn (x0.length : Int) (used + 8200)).toNat).drop used.toNat = l.take 8200 := by
      rw [List.drop_take, hr]
      have hll : l.length = x0.length - used.toNat := by rw [← hr, List.length_drop]
      have hm : mn (x0.length : Int) (used + 8200) = if used + 8200 < (x0.length : Int) then used + 8200 else (x0.length : Int) := rfl
      rw [hm]
      split
      · congr 1; omega
      · rw [List.take_of_length_le (by omega), List.take_of_length_le (by omega)]
    rw [frame_All.l0, if_pos hlt, if_pos h0, hw, if_pos hle.1, if_pos hle.2, hwin, cut_eq (hbl.take _) (by simp; omega) (by omega)]
    obtain ⟨w1, w2⟩ := cut_window hbl
    obtain ⟨c1, c2, c3⟩ := cut_ok hbl hc
    have hll : l.length = x0.length - used.toNat := by rw [← hr, List.length_drop]
    simp only [Option.bind_some]
    rw [w1, w2, if_pos hc, if_pos (by omega)]
    have hw2 : wrap64 (used + wrap64 (((cutN l).1.length : Int) + 8)) = used + ((cutN l).1.length + 8) := by unfold wrap64; omega
    rw [hw2, ih k (x2 ++ [(cutN l).1]) _ (by omega) (by omega) ?_ (by simp; omega) (by simp at hk; omega)]
    · simp; omega
    · rw [c3, ← hr, List.drop_drop]; congr 1; omega
  | @stop l hn hc =>
    intro k x2 used h0 h1 hr hx hk
    obtain ⟨k, rfl⟩ : ∃ j, k = j + 1 := ⟨k - 1, by omega⟩
    have hlt : used < x0.length := by
      rcases Nat.lt_or_ge used.toNat x0.length with h | h
      · omega
      · exact absurd (hr.symm.trans (List.drop_eq_nil_iff.2 h)) hn
    have hbl : Bytes l := hr ▸ hb.drop _
    have hw : wrap64 (wrap64 (used + 8192) + 8) = used + 8200 := by unfold wrap64; omega
    have hle : used ≤ mn (x0.length : Int) (used + 8200) ∧ mn (x0.length : Int) (used + 8200) ≤ x0.length := by unfold mn; split <;> omega
    have hwin : (x0.take (mn (x0.length : Int) (used + 8200)).toNat).drop used.toNat = l.take 8200 := by
      rw [List.drop_take, hr]
      have hll : l.length = x0.length - used.toNat := by rw [← hr, List.length_drop]
      have hm : mn (x0.length : Int) (used + 8200) = if used + 8200 < (x0.length : Int) then used + 8200 else (x0.length : Int) := rfl
      rw [hm]
      split
      · congr 1; omega
      · rw [List.take_of_length_le (by omega), List.take_of_length_le (by omega)]
    rw [frame_All.l0, if_pos hlt, if_pos h0, hw, if_pos hle.1, if_pos hle.2, hwin, cut_eq (hbl.take _) (by simp; omega) (by omega)]
    obtain ⟨w1, w2⟩ := cut_window hbl
    simp only [Option.bind_some]
    rw [w2, if_neg hc]
    simp
theorem all_eq {l : List Int} (hb : Bytes l) (hl : l.length ≤ 1000000) {ds : List (List Int)} {u : Nat} {kd : Int} (h : AllR l ds u kd) {k : Nat} (hk : ds.length + 9001 < k) : frame_All.f k l = some (ds, (u : Int), kd) := by
  unfold frame_All.f
  rw [all_tells l hb hl h k [] 0 (by omega) (by omega) rfl (by simp) hk]
  simp
/-- Some lists' frames, one behind the other. -/
def flat (l : List (List Int)) : List Int := (l.map frameL).flatten
theorem flat_cons (x : List Int) (l : List (List Int)) : flat (x :: l) = frameL x ++ flat l := rfl
theorem flat_append (a b : List (List Int)) : flat (a ++ b) = flat a ++ flat b := by simp [flat]
theorem flat_bytes {l : List (List Int)} (h : BytesL l) : Bytes (flat l) := by
  induction l with
  | nil => exact Bytes.nil
  | cons x xs ih => exact (frameL_bytes (h x (List.mem_cons_self ..))).append (ih fun y hy => h y (List.mem_cons_of_mem _ hy))
theorem flat_len {l : List (List Int)} {M : Nat} (h : ∀ x ∈ l, x.length ≤ M) : (flat l).length ≤ l.length * (M + 8) := by
  induction l with
  | nil => simp [flat]
  | cons x xs ih =>
    have h1 := h x (List.mem_cons_self ..)
    have h2 := ih fun y hy => h y (List.mem_cons_of_mem _ hy)
    rw [flat_cons, List.length_append, frameL_len, List.length_cons, Nat.succ_mul]
    omega
theorem all_flat {l : List (List Int)} (hb : BytesL l) (hl : ∀ x ∈ l, x.length ≤ 8192) {t : List Int} {ds : List (List Int)} {u : Nat} {kd : Int} (h : AllR t ds u kd) : AllR (flat l ++ t) (l ++ ds) ((flat l).length + u) kd := by
  induction l with
  | nil => simpa [flat] using h
  | cons x xs ih =>
    have hc := cut_frame (hb x (List.mem_cons_self ..)) (hl x (List.mem_cons_self ..)) (flat xs ++ t)
    have hi := ih (fun y hy => hb y (List.mem_cons_of_mem _ hy)) (fun y hy => hl y (List.mem_cons_of_mem _ hy))
    rw [flat_cons, List.append_assoc, List.length_append, frameL_len]
    have := AllR.cut (l := frameL x ++ (flat xs ++ t)) (ds := xs ++ ds) (u := (flat xs).length + u) (k := kd) (by intro e; have := congrArg List.length e; simp [frameL_len] at this) (by rw [hc]) (by rw [hc]; exact hi)
    rw [hc] at this
    have e : 8 + x.length + (flat xs).length + u = x.length + 8 + ((flat xs).length + u) := by omega
    rw [e]
    exact this
theorem all_short {data : List Int} (hb : Bytes data) (hl : data.length ≤ 8192) {m : Nat} (h0 : 0 < m) (hm : m < (frameL data).length) : AllR ((frameL data).take m) [] 0 3 := by
  have hc := cut_short hb hl hm
  have := AllR.stop (l := (frameL data).take m) (by intro e; have := congrArg List.length e; rw [List.length_take, List.length_nil] at this; omega) (by rw [hc]; decide)
  rwa [hc] at this
end Go.Proofs.Ytjamddlclahhjaa.PAll
