/-
  The plain law RingAll: each trace is owned by a member, of one member's ring all are its own, and the points stand in the order of their places.
  Conditions: none.
-/
import Derived.Test.YtijeeghilogjdaaRingMore
import Derived.Test.YtijeeghilogjdaaPAllx9
namespace Go.Proofs.Ytijeeghilogjdaa.Pure
open Go.RowKit Go.Proofs.Ytijeeghilogjdaa.PAll Go.Proofs.YtijeeghilogjdaaW.PrintWords Go.Proofs.YtijeeghilogjdaaW.PrintLast
set_option linter.unusedVariables false
theorem all_l1 (r : List S43) (hl : r.length ≤ 1000) (hs : SrtP r) (d : Nat) : ∀ (k i : Nat), 1 ≤ i → i + d = max 1 r.length → d + 3001 ≤ k → winnowlaw08_RingAll.l1 k r true i = some true := by
  induction d with
  | zero =>
    intro k i h1 hi hk
    obtain ⟨k, rfl⟩ : ∃ m, k = m + 1 := ⟨k - 1, by omega⟩
    rw [winnowlaw08_RingAll.l1, if_neg (by omega), if_pos rfl, alive_ok (by omega)]
    rfl
  | succ d ih =>
    intro k i h1 hi hk
    obtain ⟨k, rfl⟩ : ∃ m, k = m + 1 := ⟨k - 1, by omega⟩
    have hm : (r.getD (i - 1) z43).f0 ≤ (r.getD i z43).f0 := by
      rw [List.getD_eq_getElem?_getD, List.getD_eq_getElem?_getD, List.getElem?_eq_getElem (show i < r.length by omega), List.getElem?_eq_getElem (show i - 1 < r.length by omega), Option.getD_some, Option.getD_some]
      exact List.pairwise_iff_getElem.1 (srt_f0 hs) _ _ (by omega) (by omega) (by omega)
    rw [winnowlaw08_RingAll.l1, if_pos (by omega), wsub1 h1 (by omega), if_pos (by omega), if_pos (by omega), if_pos (by omega), rd_nat, rd_nat, if_neg (by omega), wadd1 (by omega)]
    exact ih k (i + 1) (by omega) (by omega) (by omega)
theorem all_l0 (ids : List Int) (a t o : Int) (hr : riseB 0 ids = true) (hl : ids.length ≤ 16) (h1 : 1 ≤ a) (h2 : a ≤ 20) (r : List S43) (hlr : r.length ≤ 1000) (hs : SrtP r) (d : Nat) : ∀ (k i : Nat) (b : Bool), i + d = ids.length → 2 * d + 5000 ≤ k → (b = true ∨ o ∈ ids.drop i) →
    winnowlaw08_RingAll.l0 k ids a t r b o i = some true := by
  induction d with
  | zero =>
    intro k i b hi hk hb
    obtain ⟨k, rfl⟩ : ∃ m, k = m + 1 := ⟨k - 1, by omega⟩
    rw [List.drop_of_length_le (by omega)] at hb
    obtain rfl : b = true := hb.resolve_right (by simp)
    rw [winnowlaw08_RingAll.l0, if_neg (by omega)]
    exact all_l1 r hlr hs (r.length - 1) k 1 (by omega) (by omega) (by omega)
  | succ d ih =>
    intro k i b hi hk hb
    obtain ⟨k, rfl⟩ : ∃ m, k = m + 1 + 1 := ⟨k - 2, by omega⟩
    have hj3 : ∀ c : Bool, (c = true ∨ o ∈ ids.drop (i + 1)) → winnowlaw08_RingAll.j3 (k + 1) ids a t r c o i = some true := fun c hc => by
      have e1 : (ids.take (i + 1)).drop i = [ids.getD i 0] := by
        have hd := drop_at (ids.take (i + 1)) 0 (i := i) (by rw [List.length_take]; omega)
        rw [hd, List.drop_of_length_le (by rw [List.length_take]; omega)]
        simp [List.getD_eq_getElem?_getD]
      have hpos : 0 < ids.getD i 0 := by
        rw [List.getD_eq_getElem?_getD, List.getElem?_eq_getElem (show i < ids.length by omega), Option.getD_some]
        exact rise_above hr _ (List.getElem_mem _)
      rw [winnowlaw08_RingAll.j3, if_pos (by omega), wadd1 (by omega), if_pos (by omega), if_pos (by omega), Int.toNat_natCast, Int.toNat_natCast, e1, make_eq _ _ (by simp) (by simp; omega),
        makeV_ok (by rw [riseB, decide_eq_true hpos]; rfl) h1 (by omega) (by simp)]
      simp only [Option.bind_some]
      have hlen : (sortP (pts [ids.getD i 0] a.toNat)).length = a.toNat := by rw [sortP_len, pts_len, List.length_singleton, Nat.one_mul]
      obtain ⟨p, hp, e⟩ := ofV_mem (sortP (pts [ids.getD i 0] a.toNat)) (mixv t) (fun h => by rw [h] at hlen; simp at hlen; omega)
      have hm := mem_pts ((sortP_perm _).mem_iff.1 hp)
      rw [List.mem_singleton] at hm
      rw [if_pos trivial, owner_eq _ (by omega) (srt_f0 (sortP_srt _)) t (by omega)]
      simp only [Option.bind_some]
      rw [if_pos (by omega), rdi_nat, if_pos (by rw [← e, hm])]
      exact ih k (i + 1) c (by omega) (by omega) hc
    rw [winnowlaw08_RingAll.l0, if_pos (by omega)]
    by_cases hbt : b = true
    · rw [if_pos hbt]
      exact hj3 true (.inl rfl)
    · rw [if_neg hbt, if_pos (by omega), rdi_nat]
      refine hj3 _ ?_
      have := hb.resolve_left hbt
      rw [drop_at ids 0 (show i < ids.length by omega)] at this
      rcases List.mem_cons.1 this with e | e
      · exact .inl (by rw [e]; simp)
      · exact .inr e
theorem RingAll : winnowlaw08_RingAll.Pure := by
  intro ids a t _ hb hw _ _
  have h0 := wfu hw
  obtain ⟨K, hK⟩ : ∃ K, K = ids.length + 20000 := ⟨_, rfl⟩
  refine ⟨K + 1, ?_⟩
  unfold winnowlaw08_RingAll.f
  rw [right_eq ids h0 (by omega) (by omega)]
  simp only [Option.bind_some]
  have hal : ∀ k, 5000 ≤ k → winnowlaw08_RingAll.j0 k ids a t true = some true := fun k hk => by
    obtain ⟨k, rfl⟩ : ∃ m, k = m + 1 := ⟨k - 1, by omega⟩
    rw [winnowlaw08_RingAll.j0, if_pos rfl, alive_ok (by omega)]
    rfl
  by_cases hr : riseB 0 ids = true
  · rw [if_pos hr]
    by_cases h1 : (ids.length : Int) > 16
    · rw [if_pos h1]; exact hal _ (by omega)
    · rw [if_neg h1]
      by_cases h2 : a < 1
      · rw [if_pos h2]; exact hal _ (by omega)
      · rw [if_neg h2]
        by_cases h3 : a > 20
        · rw [if_pos h3]; exact hal _ (by omega)
        · rw [if_neg h3]
          by_cases h4 : (ids.length : Int) = 0
          · rw [beq_iff_eq.2 h4]; exact hal _ (by omega)
          · rw [beq_eq_false_iff_ne.2 h4]
            obtain ⟨n, rfl⟩ := Int.eq_ofNat_of_zero_le (show 0 ≤ a by omega)
            have hlen : (sortP (pts ids n)).length = ids.length * n := by rw [sortP_len, pts_len]
            have hle : ids.length * n ≤ 16 * 20 := Nat.mul_le_mul (by omega) (by omega)
            have hne : (sortP (pts ids n)) ≠ [] := fun h => by
              rw [h] at hlen
              have := Nat.mul_pos (show 0 < ids.length by omega) (show 0 < n by omega)
              simp at hlen; omega
            rw [winnowlaw08_RingAll.j0, if_neg (by decide), make_eq _ _ (by omega) (by omega), makeV_ok hr (by omega) (by omega) (by omega)]
            simp only [Option.bind_some, Int.toNat_natCast]
            rw [if_pos trivial, hlen, wsm (by omega) (by rw [← Int.natCast_mul]; omega), Int.natCast_mul]
            simp only [bne_self_eq_false]
            obtain ⟨K, rfl⟩ : ∃ m, K = m + 1 := ⟨K - 1, by omega⟩
            rw [winnowlaw08_RingAll.j1, if_neg (by decide), owner_eq _ (by omega) (srt_f0 (sortP_srt _)) t (by omega)]
            simp only [Option.bind_some]
            obtain ⟨p, hp, e⟩ := ofV_mem (sortP (pts ids n)) (mixv t) hne
            exact all_l0 ids n t _ hr (by omega) (by omega) (by omega) _ (by omega) (sortP_srt _) ids.length _ 0 false (by omega) (by omega) (.inr (by rw [← e]; exact mem_pts ((sortP_perm _).mem_iff.1 hp)))
  · rw [if_neg hr]; exact hal _ (by omega)
end Go.Proofs.Ytijeeghilogjdaa.Pure
