/-
  policy.Parse of the empty text; Parse as the printed laws call it.
  Conditions: the tables that the row lists, as the program lays them.
-/
import Derived.Test.YtemepnpfhoidhaaDoorPolicyShowPure
namespace Go.Proofs.YtemepnpfhoidhaaDoor.PAll
open Go.RowKit Go.Lib Go.Sort Go.Proofs.YtemepnpfhoidhaaDoorW.PrintWords Go.Proofs.YtemepnpfhoidhaaDoorW.PrintLast Go.Proofs.YtemepnpfhoidhaaDoorW.PrintMore
set_option linter.unusedVariables false
set_option linter.unusedSimpArgs false
attribute [local go_sem] Oper.semAt_some
set_option maxHeartbeats 8000000 in
set_option maxRecDepth 100000 in
theorem parse_empty (w : World) : Calls Tryd.prog 25 #[.string ⟨#[]⟩] w fun e w' => e = .returned (.tuple #[.slice none 0 0, .int .i64 0]) ∧ Below w.heap.size w w' := by
  have hct : countByte (ByteArray.mk #[]).data.toList 10 = 0 := rfl
  have HCT := Aside0.mk hct
  clear hct
  have hem : (ByteArray.mk #[]).toList.isEmpty = true := by rw [ByteArray.toList_eq]; rfl
  have hsz : (ByteArray.mk #[]).size = 0 := rfl
  refine (callsIn_wide (n := 9)).1 ?_
  refine callsIn_of_wp_marks Tryd.func25 rfl trivial ?_ rfl
  simp only [Tryd.ntmps25, List.size_toArray, List.length_cons, List.length_nil, Nat.reduceAdd, Nat.reduceSub, Array.replicate_succ, Array.replicate_zero, List.push_toArray, List.append_toArray, List.nil_append, List.cons_append]
  gi_wp2_with (first | (refine ⟨trivial, ?_⟩; gi_at_call 48; refine (callsIn_wide.2 (strCount ⟨#[]⟩ 10 _)).mono ?_; rintro e w' ⟨rfl, rfl⟩; rw [HCT.out]))
  have c0 : ((w.alloc (.cells #[.slice none 0 0] 33)).alloc (.cells #[.int .i64 0] 26)).cell? ⟨w.heap.size, 0, none⟩ = some (.slice none 0 0) := (blk_cell (blk_alloc (heap_alloc_new w _) _) 0).trans rfl
  have c1 : ((w.alloc (.cells #[.slice none 0 0] 33)).alloc (.cells #[.int .i64 0] 26)).cell? ⟨w.heap.size + 1, 0, none⟩ = some (.int .i64 0) := by
    have := heap_alloc_new (w.alloc (.cells #[.slice none 0 0] 33)) (.cells #[.int .i64 0] 26)
    rw [World.size_alloc] at this
    exact (blk_cell this 0).trans rfl
  refine ⟨.tuple #[.slice none 0 0, .int .i64 0], by simp [results, Tryd.results25, go_sem, c0, c1], rfl, below_alloc (below_alloc (Below.refl _ _) _) _⟩
/-- policy.Parse as the printed laws call it: of texts that were shown. -/
def policy_Parse.f (a0 : ByteArray) : Option (List PRule × Int) :=
  if a0.toList = [] then some ([], 0)
  else if (readT a0).length ≤ 16 ∧ (readT a0).all goodR = true ∧ (joinB 10 ((readT a0).map lineR)).toList = a0.toList ∧ a0.size ≤ 2048 then some (readT a0, 0) else none
theorem policy_Parse.calls (a0 : ByteArray) (r1 : List PRule) (r2 : Int) (w : World) (h : policy_Parse.f a0 = some (r1, r2)) (hL : Laid w := by (exact HLD.out.below (by repeat (first | (with_reducible first | exact HB.out | apply below_alloc | apply pw_below_drewN | apply below_drew1 | refine below_set ?_ (Aside0.out (by assumption))) | exact HB.out)))) :
    Calls Tryd.prog 25 #[.string a0] w fun e w' => ∃ v0_ : Value, e = .returned (.tuple #[v0_, .int .i64 r2]) ∧ Kd.R k37 37 w' w.heap.size (fun _ => True) v0_ r1 ∧ Below w.heap.size w w' := by
  unfold policy_Parse.f at h
  by_cases c : a0.toList = []
  · rw [if_pos c] at h
    cases h
    have e : a0 = ⟨#[]⟩ := empty_of (by rw [c]; rfl)
    subst e
    refine (parse_empty w).mono ?_
    rintro e w' ⟨rfl, hb⟩
    exact ⟨_, rfl, Kd.R_nil _ _ _ _ _, hb⟩
  · rw [if_neg c] at h
    split at h
    · rename_i hh
      obtain ⟨h16, hg, he, hsz⟩ := hh
      cases h
      have hgr : ∀ r ∈ readT a0, goodR r = true := fun r hr => List.all_eq_true.1 hg r hr
      have e : joinB 10 ((readT a0).map lineR) = a0 := by
        apply ba_ext
        rw [← ByteArray.toList_eq, ← ByteArray.toList_eq]
        exact he
      generalize readT a0 = rs at *
      subst e
      have hne : rs ≠ [] := by
        rintro rfl
        exact c (by rw [ByteArray.toList_eq]; rfl)
      refine parse_lines (rs.map lineR) rs (by rw [List.length_map]) (by simpa using hne) (by rw [List.length_map]; omega) (fun x m => by
        obtain ⟨r, hr, rfl⟩ := List.mem_map.1 m
        exact (line_good (hgr r hr)).2) hsz (by simpa using c) w hL.1 ?_
      intro i x r W hx hr hP
      rw [List.getElem?_map, hr] at hx
      cases hx
      exact rule_line r (hgr r (List.mem_of_getElem? hr)) W hP
    · cases h
theorem parse_shown (l : List PRule) (h16 : l.length ≤ 16) (hg : ∀ r ∈ l, goodR r = true) (hs : (joinB 10 (l.map lineR)).size ≤ 2048) : policy_Parse.f (joinB 10 (l.map lineR)) = some (l, 0) := by
  unfold policy_Parse.f
  by_cases hl : l = []
  · subst hl
    rw [if_pos (by rw [ByteArray.toList_eq]; rfl)]
  · have hr := read_shown l hl hg
    by_cases c : (joinB 10 (l.map lineR)).toList = []
    · exfalso
      have e : joinB 10 (l.map lineR) = ⟨#[]⟩ := empty_of (by rw [c]; rfl)
      rw [e] at hr
      have h1 : readT ⟨#[]⟩ = [⟨false, ⟨#[]⟩, 0, ⟨#[]⟩⟩] := by kernel_rfl
      rw [h1] at hr
      subst hr
      have := hg _ (List.mem_singleton.2 rfl)
      have h2 : goodR ⟨false, ⟨#[]⟩, 0, ⟨#[]⟩⟩ = false := by kernel_rfl
      rw [h2] at this
      cases this
    · rw [if_neg c, hr, if_pos ⟨h16, List.all_eq_true.2 hg, rfl, hs⟩]
end Go.Proofs.YtemepnpfhoidhaaDoor.PAll
