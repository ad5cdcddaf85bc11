/-
  The plain law RingOwners: whose a trace is on a ring: the first point that is not below it.
  Conditions: none.
-/
import Derived.Test.YtijeeghilogjdaaRingMore
import Derived.Test.YtijeeghilogjdaaPAllx7
import Derived.Test.YtijeeghilogjdaaPAllx8
namespace Go.Proofs.Ytijeeghilogjdaa.PAll
open Go.RowKit Go.Proofs.YtijeeghilogjdaaW.PrintWords Go.Proofs.YtijeeghilogjdaaW.PrintLast
set_option linter.unusedVariables false
def cv (p : S58) : S43 := ⟨p.f0, p.f1⟩
theorem rd58_nat (L : List S58) (i : Nat) : rd_T58 L (i : Int) = L.getD i z58 := rfl
theorem getD_cv (l : List S58) (i : Nat) : (l.map cv).getD i z43 = cv (l.getD i z58) := by
  simp only [List.getD_eq_getElem?_getD, List.getElem?_map]
  cases l[i]? <;> rfl
theorem below_eq (p q : S58) : winnowref08_Below.f p.f0 p.f1 q.f0 q.f1 = some (ltP (cv p) (cv q)) := by
  unfold winnowref08_Below.f ltP cv
  by_cases h : p.f0 < q.f0
  · simp [h]
  · by_cases h1 : p.f0 = q.f0
    · simp [h1]
    · simp [h, h1]
theorem own_l0 (l : List S58) (hl : l.length ≤ 1000) (d : Nat) : ∀ (k i : Nat) (x : List S43), i + d = l.length → d + 1 ≤ k → x.length + d ≤ 1000 → winnowlaw08_Own.l0 k l x i = some (x ++ (l.drop i).map cv) := by
  induction d with
  | zero =>
    intro k i x hi hk hx
    obtain ⟨k, rfl⟩ : ∃ m, k = m + 1 := ⟨k - 1, by omega⟩
    rw [winnowlaw08_Own.l0, if_neg (by omega), List.drop_of_length_le (by omega)]
    simp
  | succ d ih =>
    intro k i x hi hk hx
    obtain ⟨k, rfl⟩ : ∃ m, k = m + 1 := ⟨k - 1, by omega⟩
    rw [winnowlaw08_Own.l0, if_pos (by omega), if_pos (by omega), if_pos (by omega), wadd1 (by omega), ih k (i + 1) _ (by omega) (by omega) (by simp; omega), drop_at l z58 (show i < l.length by omega), rd58_nat]
    simp [cv]
theorem own_eq (l : List S58) (hl : l.length ≤ 1000) {k : Nat} (hk : l.length + 1 ≤ k) : winnowlaw08_Own.f k l = some (l.map cv) := by
  unfold winnowlaw08_Own.f
  have := own_l0 l hl l.length k 0 [] (by omega) hk (by simp; omega)
  simpa using this
/-- Is it a ring? -/
theorem rises_l0 (l : List S58) (hl : l.length ≤ 1000) (d : Nat) : ∀ (k i : Nat), 1 ≤ i → i + d = max 1 l.length → d + 1 ≤ k → (l.take i).Pairwise (fun a b => ltP (cv a) (cv b) = true) →
    ∃ b : Bool, winnowlaw08_rises.l0 k l i = some b ∧ (b = true → l.Pairwise fun a b => ltP (cv a) (cv b) = true) := by
  induction d with
  | zero =>
    intro k i h1 hi hk h
    obtain ⟨k, rfl⟩ : ∃ m, k = m + 1 := ⟨k - 1, by omega⟩
    rw [List.take_of_length_le (by omega)] at h
    exact ⟨true, by rw [winnowlaw08_rises.l0, if_neg (by omega)], fun _ => h⟩
  | succ d ih =>
    intro k i h1 hi hk h
    obtain ⟨k, rfl⟩ : ∃ m, k = m + 1 := ⟨k - 1, by omega⟩
    rw [winnowlaw08_rises.l0, if_pos (by omega), wsub1 h1 (by omega), if_pos (by omega), if_pos (by omega), if_pos (by omega), rd58_nat, rd58_nat, below_eq]
    simp only [Option.bind_some]
    by_cases c : ltP (cv (l.getD (i - 1) z58)) (cv (l.getD i z58)) = true
    · rw [if_pos c, wadd1 (by omega)]
      refine ih k (i + 1) (by omega) (by omega) (by omega) ?_
      have hi2 : i < l.length := by omega
      have e1 : l.take (i + 1) = l.take i ++ [l.getD i z58] := by
        rw [List.take_succ_eq_append_getElem hi2]
        simp [List.getD_eq_getElem?_getD, List.getElem?_eq_getElem hi2]
      have hi3 : i - 1 < l.length := by omega
      have e2 : l.take i = l.take (i - 1) ++ [l.getD (i - 1) z58] := by
        have := List.take_succ_eq_append_getElem hi3
        rw [Nat.sub_add_cancel h1] at this
        rw [this]
        simp [List.getD_eq_getElem?_getD, List.getElem?_eq_getElem hi3]
      rw [e1]
      refine List.pairwise_append.2 ⟨h, List.pairwise_singleton .., fun a ha b hb => ?_⟩
      rw [List.mem_singleton] at hb
      subst hb
      rw [e2] at ha h
      rcases List.mem_append.1 ha with e | e
      · have h3 := (List.pairwise_append.1 h).2.2 a e _ (List.mem_singleton_self _)
        simp only [ltP, decide_eq_true_eq] at h3 c ⊢
        omega
      · rw [List.mem_singleton] at e
        rw [e]; exact c
    · rw [if_neg c]
      exact ⟨false, rfl, fun h => absurd h (by decide)⟩
theorem of_l0 (l : List S58) (hl : l.length ≤ 1000) (n : Int) (d : Nat) : ∀ (k i : Nat), i + d = l.length → d + 1 ≤ k → (∀ j, j < i → ((l.map cv).getD j z43).f0 < n) → winnowref08_Of.l0 k l n i = some (ofV (l.map cv) n) := by
  induction d with
  | zero =>
    intro k i hi hk h
    obtain ⟨k, rfl⟩ : ∃ m, k = m + 1 := ⟨k - 1, by omega⟩
    rw [winnowref08_Of.l0, if_neg (by omega)]
    unfold ofV
    by_cases hz : l = []
    · subst hz; rfl
    · have hpos : 0 < l.length := List.length_pos_iff.2 hz
      rw [if_neg (by omega), if_pos (by omega), if_neg (by simpa using hz)]
      have e := firstGe_one (l.map cv) n (l.map cv).length (Nat.le_refl _) (fun j hj => h j (by simpa [hi] using by simp at hj; omega)) (fun hc => absurd hc (Nat.lt_irrefl _))
      rw [if_pos e, getD_cv]
      rfl
  | succ d ih =>
    intro k i hi hk h
    obtain ⟨k, rfl⟩ : ∃ m, k = m + 1 := ⟨k - 1, by omega⟩
    rw [winnowref08_Of.l0, if_pos (by omega), if_pos (by omega), rd58_nat]
    by_cases c : (l.getD i z58).f0 ≥ n
    · rw [if_pos c]
      have e := firstGe_one (l.map cv) n i (by simp; omega) h (fun hc => by rw [getD_cv]; show ¬ (l.getD i z58).f0 < n; omega)
      unfold ofV
      rw [if_neg (by intro h0; simp at h0; subst h0; simp at hi), e, if_neg (by simp; omega), getD_cv]
      rfl
    · rw [if_neg c, wadd1 (by omega)]
      refine ih k (i + 1) (by omega) (by omega) (fun j hj => ?_)
      by_cases e : j = i
      · subst e; rw [getD_cv]; show (l.getD j z58).f0 < n; omega
      · exact h j (by omega)
theorem of58_eq (l : List S58) (hl : l.length ≤ 1000) (n : Int) {k : Nat} (hk : l.length + 1 ≤ k) : winnowref08_Of.f k l n = some (ofV (l.map cv) n) := by
  unfold winnowref08_Of.f
  exact of_l0 l hl n l.length k 0 (by omega) hk (fun j hj => by omega)
theorem rises_eq (l : List S58) (hl : l.length ≤ 1000) {k : Nat} (hk : l.length + 2 ≤ k) : ∃ b : Bool, winnowlaw08_rises.f k l = some b ∧ (b = true → l.Pairwise fun a b => ltP (cv a) (cv b) = true) := by
  unfold winnowlaw08_rises.f
  refine rises_l0 l hl (max 1 l.length - 1) k 1 (by omega) (by omega) (by omega) ?_
  cases l with
  | nil => exact List.Pairwise.nil
  | cons a t => simp
theorem srt_cv {l : List S58} (h : l.Pairwise fun a b => ltP (cv a) (cv b) = true) : SrtP (l.map cv) :=
  List.pairwise_map.2 (h.imp fun {a b} h => ltP_asy h)
theorem RingOwners (l : List S58) (t : Int) : ∃ k, winnowlaw08_RingOwners.f k l t = some true := by
  refine ⟨10000, ?_⟩
  obtain ⟨K, hK⟩ : ∃ K, K = 10000 := ⟨_, rfl⟩
  rw [← hK]
  have hal : winnowlaw08_RingOwners.j0 K l t true = some true := by
    obtain ⟨K, rfl⟩ : ∃ m, K = m + 1 := ⟨K - 1, by omega⟩
    rw [winnowlaw08_RingOwners.j0, if_pos rfl, alive_ok (by omega)]
    rfl
  unfold winnowlaw08_RingOwners.f
  by_cases h1 : (l.length : Int) > 300
  · rw [if_pos h1]; exact hal
  · rw [if_neg h1]
    obtain ⟨b, hb, hs⟩ := rises_eq l (by omega) (k := K) (by omega)
    rw [hb]
    simp only [Option.bind_some]
    cases b with
    | false => exact hal
    | true =>
      have hs := hs rfl
      obtain ⟨K, rfl⟩ : ∃ m, K = m + 1 := ⟨K - 1, by omega⟩
      rw [winnowlaw08_RingOwners.j0, if_neg (by decide), own_eq l (by omega) (by omega)]
      simp only [Option.bind_some]
      rw [owner_eq _ (by simp; omega) (srt_f0 (srt_cv hs)) t (by simp; omega)]
      show (some (ofV (l.map cv) (mixv t))).bind _ = _
      simp only [Option.bind_some]
      rw [show winnowref04_Mix.f t = some (mixv t) from rfl]
      simp only [Option.bind_some]
      rw [of58_eq l (by omega) _ (by omega)]
      simp only [Option.bind_some]
      rw [if_pos trivial, alive_ok (by omega)]
      rfl
end Go.Proofs.Ytijeeghilogjdaa.PAll
