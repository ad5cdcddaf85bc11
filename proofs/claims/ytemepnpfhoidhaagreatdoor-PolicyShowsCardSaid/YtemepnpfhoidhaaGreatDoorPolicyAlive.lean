/-
  The chapter's example (winnowlaw04.alive) returns true.
  Conditions: the table of powers of ten and utf8's two tables as the program lays them.
-/
import Derived.Test.YtemepnpfhoidhaaGreatDoorPolicyParse
import Derived.Test.YtemepnpfhoidhaaGreatDoorPolicyEval
import Derived.Test.YtemepnpfhoidhaaGreatDoorPolicyMatch
namespace Go.Proofs.YtemepnpfhoidhaaGreatDoor.PAll
open Go.RowKit Go.Lib Go.Sort Go.Proofs.YtemepnpfhoidhaaGreatDoorW.PrintWords Go.Proofs.YtemepnpfhoidhaaGreatDoorW.PrintLast Go.Proofs.YtemepnpfhoidhaaGreatDoorW.PrintMore
set_option linter.unusedVariables false
set_option linter.unusedSimpArgs false
/-- What the program lays. -/
def Laid (w : World) : Prop := Pow10 w ∧ U8 w
theorem Laid.below {w w' : World} (h : Laid w) (hb : Below w.heap.size w w') : Laid w' := ⟨h.1.below hb, h.2.below hb⟩
theorem match_tells : MatchTells Laid matchB := fun p n W hp hn hL => match_calls p n W hp hn hL.2
theorem policy_eval (A0 : Option Addr) (c0 : Nat) (rs : List S46) (A : Option Addr) (c : Nat) (l : List S39) (hsm : ∀ x ∈ l, x.f6.size ≤ 1000) (w : World) (hw : Laid w) (hC0 : Kd.C k46 w A0 rs.length rs) (hC : Kd.C k39 w A l.length l) :
    Calls Tryz.prog 12 #[.slice A0 rs.length c0, .slice A l.length c] w fun e w' => e = .returned (.int .i64 (evalB matchB rs l)) ∧ Below w.heap.size w w' :=
  eval_calls Laid (fun _ _ h hb => h.below hb) matchB match_tells A0 c0 rs A c l hsm w hw hC0 hC
theorem tl (l : List UInt8) : (ByteArray.mk l.toArray).toList = l := by rw [ByteArray.toList_eq]
/-- strings.Split of words that are joined. -/
theorem split_words (xs : List ByteArray) (hne : xs ≠ []) (hx : ∀ x ∈ xs, (32 : UInt8) ∉ x.data.toList) (hs : (joinB 32 xs).size < 4294967281) (W : World) :
    Calls Tryz.prog 41 #[.string (joinB 32 xs), .string ⟨#[32]⟩] W fun e w' => e = .returned (.slice (some ⟨W.heap.size, 0, none⟩) xs.length xs.length) ∧ w' = W.alloc (.cells (xs.map Value.string).toArray 9) := by
  have hj := split_join 32 xs hne hx
  have h := strSplit (joinB 32 xs) 32 W hs
  rw [hj.2, hj.1] at h
  exact h
def sKeep : ByteArray := ⟨#[107, 101, 101, 112]⟩
def sFail : ByteArray := ⟨#[102, 97, 105, 108]⟩
def sHash : ByteArray := ⟨#[104, 97, 115, 104]⟩
def sHund : ByteArray := ⟨#[49, 48, 48]⟩
theorem form_fail : policy_form.f 1 sFail = some (1, 0, 0) := by
  simp only [policy_form.f, policy_form.j0, show sFail.toList = [102, 97, 105, 108] from tl _]
  rfl
theorem form_hash : policy_form.f 1 sHash = some (2, 0, 1000) := by
  simp only [policy_form.f, policy_form.j0, show sHash.toList = [104, 97, 115, 104] from tl _]
  rfl
theorem right_fail : rightB sFail 0 ⟨#[]⟩ = true := by
  unfold rightB
  rw [form_fail]
  simp only [show (ByteArray.mk #[]).toList = [] from tl []]
  rfl
theorem right_hash : rightB sHash 100 ⟨#[]⟩ = true := by
  unfold rightB
  rw [form_hash]
  simp only [show (ByteArray.mk #[]).toList = [] from tl []]
  rfl
theorem dig100 : decDigits 100 = [49, 48, 48] := by
  rw [decDigits, dif_neg (by decide), decDigits_two (by decide) (by decide)]
  rfl
def rFail : S46 := ⟨true, sFail, 0, ⟨#[]⟩⟩
def rHash : S46 := ⟨true, sHash, 100, ⟨#[]⟩⟩
def sBad : S39 := ⟨1, 1, 0, 0, 0, ⟨#[97]⟩, ⟨#[98]⟩, true⟩
def alines : List ByteArray := [joinB 32 [sKeep, sFail], joinB 32 [sKeep, sHash, sHund]]
theorem atext : joinB 10 alines = ⟨#[107, 101, 101, 112, 32, 102, 97, 105, 108, 10, 107, 101, 101, 112, 32, 104, 97, 115, 104, 32, 49, 48, 48]⟩ := by kernel_rfl
theorem aparse (w : World) (hw : Laid w) : Calls Tryz.prog 11 #[.string ⟨#[107, 101, 101, 112, 32, 102, 97, 105, 108, 10, 107, 101, 101, 112, 32, 104, 97, 115, 104, 32, 49, 48, 48]⟩] w fun e w' => ∃ v, e = .returned (.tuple #[v, .int .i64 0]) ∧ Kd.R k46 46 w' w.heap.size (fun _ => True) v [rFail, rHash] ∧ Below w.heap.size w w' := by
  have hno : ∀ x ∈ alines, (10 : UInt8) ∉ x.data.toList := by
    intro x hx
    simp only [alines, List.mem_cons, List.mem_nil_iff, or_false] at hx
    rcases hx with rfl | rfl <;> decide
  have h := parse_lines alines [rFail, rHash] rfl (by simp [alines]) (by simp [alines]) hno (by rw [atext]; decide) (by rw [atext, ByteArray.toList_eq]; rfl) w hw.1 (fun i x r W hi hr hp => ?_)
  · rw [atext] at h
    exact h
  · match i, hi, hr with
    | 0, hi, hr =>
      obtain rfl : joinB 32 [sKeep, sFail] = x := by simpa [alines] using hi
      obtain rfl : rFail = r := by simpa using hr
      exact rule_bare_true sFail 0 0 W _ (fun W => split_words [sKeep, sFail] (by simp) (by intro x hx; simp only [List.mem_cons, List.mem_nil_iff, or_false] at hx; rcases hx with rfl | rfl <;> decide) (by decide) W) form_fail right_fail
    | 1, hi, hr =>
      obtain rfl : joinB 32 [sKeep, sHash, sHund] = x := by simpa [alines] using hi
      obtain rfl : rHash = r := by simpa using hr
      have hd : (ByteArray.mk (decDigits 100).toArray) = sHund := by rw [dig100]; rfl
      have hsp := fun W => split_words [sKeep, sHash, sHund] (by simp) (by intro x hx; simp only [List.mem_cons, List.mem_nil_iff, or_false] at hx; rcases hx with rfl | rfl | rfl <;> decide) (by decide) W
      exact rule_counted_true sHash 0 1000 W 100 (by decide) hp _ (fun W => by rw [hd]; exact hsp W) form_hash right_hash
    | i + 2, hi, hr => simp [alines] at hi
theorem eval_keep : evalB matchB [rFail, rHash] [sBad] = 1 := by
  have h : holdsB matchB rFail [sBad] = true := by
    unfold holdsB
    rw [if_pos (show rightB rFail.f1 rFail.f2 rFail.f3 = true from right_fail), if_neg (by decide), if_neg (by rw [show rFail.f1.toList = [102, 97, 105, 108] from tl _]; decide)]
    simp only [List.any_cons, List.any_nil, oneB, show rFail.f1.toList = [102, 97, 105, 108] from tl _]
    rfl
  unfold evalB
  rw [if_neg (by decide), List.find?_cons, h]
  rfl
theorem eval_none : evalB matchB [rFail, rHash] [] = 0 := rfl
theorem eval_drop : evalB matchB [] [sBad] = 2 := rfl
theorem mix_zero : policy_Mix.f 0 = some 16294208416658607535 := by kernel_rfl
/-- One span in a row of its own. -/
theorem lit_span (W : World) : Kd.C k39 (W.alloc (.cells #[.int .u64 1, .int .u64 1, .int .u64 0, .int .u64 0, .int .u64 0, .string ⟨#[97]⟩, .string ⟨#[98]⟩, .bool true] 39)) (some ⟨W.heap.size, 0, none⟩) 1 [sBad] := by
  refine ⟨rfl, by decide, fun _ => ⟨_, rfl, fun j p hp => ?_⟩⟩
  have hj : j = 0 := by
    rcases Nat.eq_zero_or_pos j with h | h
    · exact h
    · rw [List.getElem?_eq_none (by simp; omega)] at hp; cases hp
  subst hj
  obtain rfl : sBad = p := by simpa using hp
  refine ⟨encS sBad, rfl, k39_mk _ sBad, fun i u hu => ?_⟩
  rw [show 0 * k39.sz + i = i from by rw [Nat.zero_mul, Nat.zero_add], Go.Lib.add_plain, blk_cell (heap_alloc_new W _) (0 + i), Nat.zero_add]
  simpa [encS, sBad] using hu
set_option maxHeartbeats 8000000 in
set_option maxRecDepth 100000 in
theorem alive_calls (w : World) (hw : Laid w) : Calls Tryz.prog 5 #[] w fun e w' => e = .returned (.bool true) ∧ Below w.heap.size w w' := by
  have HW := Aside0.mk hw
  clear hw
  go_enter Tryz.func5, Tryz.ntmps5
  go_wp2_with fail
  refine (aparse _ HW.out).mono ?_
  rintro e w1 ⟨v, rfl, hR, hb⟩
  obtain ⟨A, c, rfl, hle, hC⟩ := Kd.R_reads hR
  have HB1 := Aside0.mk hb
  have HC1 := Aside0.mk hC
  clear hR hC hb hle
  have HS := Aside0.mk (lit_span w1)
  have hb2 := below_alloc HB1.out (.cells #[.int .u64 1, .int .u64 1, .int .u64 0, .int .u64 0, .int .u64 0, .string ⟨#[97]⟩, .string ⟨#[98]⟩, .bool true] 39)
  have hs2 := below_alloc (Below.refl w1.heap.size w1) (.cells #[.int .u64 1, .int .u64 1, .int .u64 0, .int .u64 0, .int .u64 0, .string ⟨#[97]⟩, .string ⟨#[98]⟩, .bool true] 39)
  have HC2 := Aside0.mk (Kd.C_below HC1.out hs2)
  have HL2 := Aside0.mk (HW.out.below hb2)
  have HB2 := Aside0.mk hb2
  clear hb2 hs2 HC1 HB1
  have hsm : ∀ x ∈ [sBad], x.f6.size ≤ 1000 := by
    intro x hx
    simp only [List.mem_singleton] at hx
    subst hx
    decide
  have HSM := Aside0.mk hsm
  clear hsm
  go_wp2_with fail
  refine (policy_eval A c [rFail, rHash] (some ⟨w1.heap.size, 0, none⟩) 1 [sBad] HSM.out _ HL2.out HC2.out HS.out).mono ?_
  rw [eval_keep]
  rintro e w3 ⟨rfl, hb3⟩
  have HS3 := Aside0.mk (Kd.C_below HS.out hb3)
  have HC3 := Aside0.mk (Kd.C_below HC2.out hb3)
  have HL3 := Aside0.mk (HL2.out.below hb3)
  have HB3 := Aside0.mk (below_step HB2.out hb3)
  clear hb3 HS HC2 HL2 HB2
  go_wp2_with fail
  refine (policy_eval A c [rFail, rHash] none 0 [] (fun x hx => by cases hx) _ HL3.out HC3.out (Kd.C_nil _ _)).mono ?_
  rw [eval_none]
  rintro e w4 ⟨rfl, hb4⟩
  have HS4 := Aside0.mk (Kd.C_below HS3.out hb4)
  have HL4 := Aside0.mk (HL3.out.below hb4)
  have HB4 := Aside0.mk (below_step HB3.out hb4)
  clear hb4 HS3 HC3 HL3 HB3
  go_wp2_with fail
  refine (policy_eval none 0 [] (some ⟨w1.heap.size, 0, none⟩) 1 [sBad] HSM.out _ HL4.out (Kd.C_nil _ _) HS4.out).mono ?_
  rw [eval_drop]
  rintro e w5 ⟨rfl, hb5⟩
  have HB5 := Aside0.mk (below_step HB4.out hb5)
  clear hb5 HS4 HL4 HB4
  go_wp2_with fail
  refine (policy_Mix.calls 0 _ _ mix_zero).mono ?_
  rintro e w6 ⟨rfl, hD⟩
  have HB6 := Aside0.mk (below_step HB5.out (Drawn0.below hD))
  clear hD HB5
  go_wp2
  go_ret
  exact ⟨rfl, HB6.out⟩
end Go.Proofs.YtemepnpfhoidhaaGreatDoor.PAll
