/-
  A rule by itself: (Rule).right; policy.rule at a right rule's line.
  Conditions: the table of powers of ten as the program lays it.
-/
import Derived.Test.YtemepnpfhoidhaaGreatDoorPolicyBase
import Derived.Test.YtemepnpfhoidhaaGreatDoorPAllx1m
namespace Go.Proofs.YtemepnpfhoidhaaGreatDoor.PAll
open Go.RowKit Go.Lib Go.Sort Go.Proofs.YtemepnpfhoidhaaGreatDoorW.PrintWords Go.Proofs.YtemepnpfhoidhaaGreatDoorW.PrintLast Go.Proofs.YtemepnpfhoidhaaGreatDoorW.PrintMore
set_option linter.unusedVariables false
set_option linter.unusedSimpArgs false
/-- What form says. -/
theorem form_some (what : ByteArray) : ∃ a b c, policy_form.f 1 what = some (a, b, c) := by
  simp only [policy_form.f, policy_form.j0]
  (repeat' split) <;> exact ⟨_, _, _, rfl⟩
/-- Is a rule right? -/
def rightB (what : ByteArray) (num : Int) (text : ByteArray) : Bool :=
  match policy_form.f 1 what with
  | none => false
  | some (kd, lo, hi) =>
    if kd = 3 then (decide (num = 0) && decide (span_Name.f text = some 0)) && !decide (0 ≤ indexByte text.data.toList 32)
    else if kd = 0 then false
    else (text.toList.isEmpty && decide (lo ≤ num)) && decide (num ≤ hi)
set_option maxHeartbeats 8000000 in
set_option maxRecDepth 100000 in
theorem right_calls (k : Bool) (what : ByteArray) (num : Int) (text : ByteArray) (w : World) :
    Calls Tryz.prog 20 #[.agg #[.bool k, .string what, .int .u64 num, .string text]] w fun e w' => e = .returned (.bool (rightB what num text)) ∧ Below w.heap.size w w' := by
  obtain ⟨kd, lo, hi, hf⟩ := form_some what
  have hR : rightB what num text = (if kd = 3 then (decide (num = 0) && decide (span_Name.f text = some 0)) && !decide (0 ≤ indexByte text.data.toList 32) else if kd = 0 then false else (text.toList.isEmpty && decide (lo ≤ num)) && decide (num ≤ hi)) := by
    unfold rightB
    rw [hf]
  obtain ⟨r, hr⟩ : ∃ r, rightB what num text = r := ⟨_, rfl⟩
  rw [hr]
  rw [hr] at hR
  have HR := Aside0.mk hR
  clear hR hr
  have HF := Aside0.mk hf
  obtain ⟨nm, hnm⟩ : ∃ nm, span_Name.f text = some nm := ⟨_, rfl⟩
  have HN := Aside0.mk hnm
  clear hf hnm
  have HB := Aside0.mk (below_alloc (Below.refl w.heap.size w) (.cells #[.bool k, .string what, .int .u64 num, .string text] 46))
  go_enter Tryz.func20, Tryz.ntmps20
  go_wp2_with fail
  refine (policy_form.calls 1 what kd lo hi _ HF.out).mono ?_
  rintro e w1 ⟨rfl, hD⟩
  have BK := Aside0.mk (blk_below (heap_alloc_new w _) (Drawn0.below hD))
  have HB1 := Aside0.mk (below_step HB.out (Drawn0.below hD))
  clear hD HB
  have hcz_2 : w1.cell? ⟨w.heap.size, 2, none⟩ = some (.int .u64 num) := (blk_cell BK.out 2).trans rfl
  have hcz_3 : w1.cell? ⟨w.heap.size, 3, none⟩ = some (.string text) := (blk_cell BK.out 3).trans rfl
  by_cases h3 : kd = 3
  · subst h3
    by_cases hn : num = 0
    · subst hn
      go_wp2_with fail
      refine (span_Name.calls text nm _ HN.out).mono ?_
      rintro e w2 ⟨rfl, hb⟩
      have BK2 := Aside0.mk (blk_below BK.out hb)
      have HB2 := Aside0.mk (below_step HB1.out hb)
      clear hb hcz_2 hcz_3
      have hcz_3 : w2.cell? ⟨w.heap.size, 3, none⟩ = some (.string text) := (blk_cell BK2.out 3).trans rfl
      by_cases hnm : nm = 0
      · subst hnm
        go_wp2_with (go_at_call 34; refine (strContains text 32 _).mono ?_; rintro e w3 ⟨rfl, rfl⟩)
        go_ret
        exact ⟨by rw [HR.out]; simp [HN.out, *], HB2.out⟩
      · have hnb : decide (nm = 0) = false := decide_eq_false hnm
        have hnb2 : (nm == 0) = false := by simpa using hnm
        go_wp2
        go_ret
        exact ⟨by rw [HR.out]; simp [HN.out, *], HB2.out⟩
    · have hnb2 : (num == 0) = false := by simpa using hn
      go_wp2
      go_ret
      exact ⟨by rw [HR.out]; simp [HN.out, *], HB1.out⟩
  · have h3b : (kd == 3) = false := by simpa using h3
    by_cases h0 : kd = 0
    · subst h0
      go_wp2
      go_ret
      exact ⟨by rw [HR.out]; simp [HN.out, *], HB1.out⟩
    · have h0b : (kd == 0) = false := by simpa using h0
      by_cases ht : text.toList = []
      · have hte : text.toList.isEmpty = true := by simpa using ht
        by_cases hl : lo ≤ num
        · have hlb : decide (lo ≤ num) = true := decide_eq_true hl
          by_cases hh : num ≤ hi
          · have hhb : decide (num ≤ hi) = true := decide_eq_true hh
            go_wp2
            go_ret
            exact ⟨by rw [HR.out]; simp [HN.out, *], HB1.out⟩
          · have hhb : decide (num ≤ hi) = false := decide_eq_false hh
            go_wp2
            go_ret
            exact ⟨by rw [HR.out]; simp [HN.out, *], HB1.out⟩
        · have hlb : decide (lo ≤ num) = false := decide_eq_false hl
          go_wp2
          go_ret
          exact ⟨by rw [HR.out]; simp [HN.out, *], HB1.out⟩
      · have hte : text.toList.isEmpty = false := by simpa using ht
        go_wp2
        go_ret
        exact ⟨by rw [HR.out]; simp [HN.out, *], HB1.out⟩
end Go.Proofs.YtemepnpfhoidhaaGreatDoor.PAll
