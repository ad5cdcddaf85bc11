/-
  The plain law RingTwo: on the ring of all members a number is owned by who owns it among some of them, or among the others.
  Conditions: none.
-/
import Derived.Test.YtijeeghilogjdaaRingMore
import Derived.Test.YtijeeghilogjdaaPAllx10
namespace Go.Proofs.Ytijeeghilogjdaa.Pure
open Go.RowKit Go.Proofs.Ytijeeghilogjdaa.PAll Go.Proofs.YtijeeghilogjdaaW.PrintWords Go.Proofs.YtijeeghilogjdaaW.PrintLast
set_option linter.unusedVariables false
/-- Who owns a number on the ring of two groups. -/
theorem two_of (a b : List Int) (n : Nat) (hn : 0 < n) (t : Int) : ofV (sortP (pts (a ++ b) n)) t = ofV (sortP (pts a n)) t ∨ ofV (sortP (pts (a ++ b) n)) t = ofV (sortP (pts b n)) t := by
  by_cases he : sortP (pts (a ++ b) n) = []
  · have h : (pts (a ++ b) n).length = 0 := by rw [← sortP_len, he]; rfl
    rw [pts_app, List.length_append] at h
    have ha : sortP (pts a n) = [] := List.eq_nil_of_length_eq_zero (by rw [sortP_len]; omega)
    exact .inl (by rw [he, ha])
  · obtain ⟨p, hp, e⟩ := own_at (sortP_srt _) t he
    have hp2 := own_perm hp (sortP_perm _)
    have hm := hp2.1
    rw [pts_app] at hm
    rcases List.mem_append.1 hm with h | h
    · have hne : sortP (pts a n) ≠ [] := fun h0 => by
        have := (sortP_perm (pts a n)).mem_iff.2 h
        rw [h0] at this
        cases this
      obtain ⟨q, hq, e2⟩ := own_at (sortP_srt _) t hne
      have := own_sub hp2 (fun x hx => by rw [pts_app]; exact List.mem_append_left _ hx) h (own_perm hq (sortP_perm _))
      exact .inl (by rw [← e, ← e2, this])
    · have hne : sortP (pts b n) ≠ [] := fun h0 => by
        have := (sortP_perm (pts b n)).mem_iff.2 h
        rw [h0] at this
        cases this
      obtain ⟨q, hq, e2⟩ := own_at (sortP_srt _) t hne
      have := own_sub hp2 (fun x hx => by rw [pts_app]; exact List.mem_append_right _ hx) h (own_perm hq (sortP_perm _))
      exact .inr (by rw [← e, ← e2, this])
theorem two_nz (a : List Int) (hr : riseB 0 a = true) (n : Nat) (hn : 0 < n) (t : Int) : (ofV (sortP (pts a n)) t != 0) = decide ((a.length : Int) > 0) := by
  by_cases he : sortP (pts a n) = []
  · have h : a.length * n = 0 := by rw [← pts_len, ← sortP_len, he]; rfl
    have h2 : a.length = 0 := by
      rcases Nat.mul_eq_zero.1 h with h | h
      · exact h
      · omega
    rw [he, decide_eq_false (by omega)]
    rfl
  · obtain ⟨p, hp, e⟩ := ofV_mem (sortP (pts a n)) t he
    have hm := mem_pts ((sortP_perm _).mem_iff.1 hp)
    have := rise_above hr _ hm
    have hl : 0 < a.length := List.length_pos_of_mem hm
    rw [← e, decide_eq_true (by omega), bne_iff_ne]
    omega
theorem RingTwo : winnowlaw08_RingTwo.Pure := by
  intro ids a m t _ hb hw _ _ _
  have h0 := wfu hw
  obtain ⟨K, hK⟩ : ∃ K, K = ids.length + 20000 := ⟨_, rfl⟩
  refine ⟨K + 1, ?_⟩
  unfold winnowlaw08_RingTwo.f
  rw [right_eq ids h0 (by omega) (by omega)]
  simp only [Option.bind_some]
  have hal : ∀ k, 5000 ≤ k → winnowlaw08_RingTwo.j0 k ids a m t true = some true := fun k hk => by
    obtain ⟨k, rfl⟩ : ∃ m, k = m + 1 := ⟨k - 1, by omega⟩
    rw [winnowlaw08_RingTwo.j0, if_pos rfl, alive_ok (by omega)]
    rfl
  by_cases hr : riseB 0 ids = true
  · rw [if_pos hr]
    by_cases h1 : (ids.length : Int) > 10
    · rw [if_pos h1]; exact hal _ (by omega)
    · rw [if_neg h1]
      by_cases h2 : a < 1
      · rw [if_pos h2]; exact hal _ (by omega)
      · rw [if_neg h2]
        by_cases h3 : a > 8
        · rw [if_pos h3]; exact hal _ (by omega)
        · rw [if_neg h3]
          by_cases h4 : m < 0
          · rw [if_pos h4]; exact hal _ (by omega)
          · rw [if_neg h4]
            by_cases h5 : m > (ids.length : Int)
            · rw [decide_eq_true h5]; exact hal _ (by omega)
            · rw [decide_eq_false h5]
              obtain ⟨n, rfl⟩ := Int.eq_ofNat_of_zero_le (show 0 ≤ a by omega)
              obtain ⟨c, rfl⟩ := Int.eq_ofNat_of_zero_le (show 0 ≤ m by omega)
              have hl1 : (ids.take c).length ≤ 10 := by rw [List.length_take]; omega
              have hl2 : (ids.drop c).length ≤ 10 := by rw [List.length_drop]; omega
              have len : ∀ l : List Int, l.length ≤ 10 → (sortP (pts l n)).length ≤ 80 := fun l hl => by
                rw [sortP_len, pts_len]
                exact Nat.le_trans (Nat.mul_le_mul hl (show n ≤ 8 by omega)) (by decide)
              rw [winnowlaw08_RingTwo.j0, if_neg (by decide), if_pos (by omega), if_pos (by omega), Int.toNat_natCast, make_eq _ _ (by omega) (by omega), make_eq _ _ (by omega) (by omega), make_eq _ _ (by omega) (by omega),
                makeV_ok (rise_take c hr) (by omega) (by omega) (by omega), makeV_ok (rise_drop c hr) (by omega) (by omega) (by omega), makeV_ok hr (by omega) (by omega) (by omega)]
              simp only [Option.bind_some, Int.toNat_natCast]
              rw [if_pos trivial, if_pos trivial]
              obtain ⟨K, rfl⟩ : ∃ m, K = m + 1 := ⟨K - 1, by omega⟩
              have l1 := len _ hl1
              have l2 := len _ hl2
              have l3 := len ids (by omega)
              rw [winnowlaw08_RingTwo.j1, if_neg (by decide), owner_eq _ (by omega) (srt_f0 (sortP_srt _)) t (by omega), owner_eq _ (by omega) (srt_f0 (sortP_srt _)) t (by omega), owner_eq _ (by omega) (srt_f0 (sortP_srt _)) t (by omega)]
              simp only [Option.bind_some]
              have hnz := two_nz ids hr n (by omega) (mixv t)
              have htw := two_of (ids.take c) (ids.drop c) n (by omega) (mixv t)
              rw [List.take_append_drop] at htw
              rw [if_pos (beq_iff_eq.2 hnz), alive_ok (by omega)]
              simp only [Option.bind_some]
              by_cases e : ofV (sortP (pts ids n)) (mixv t) = ofV (sortP (pts (ids.take c) n)) (mixv t)
              · rw [if_pos e]
              · rw [if_neg e, if_pos (htw.resolve_left e)]
  · rw [if_neg hr]; exact hal _ (by omega)
end Go.Proofs.Ytijeeghilogjdaa.Pure
