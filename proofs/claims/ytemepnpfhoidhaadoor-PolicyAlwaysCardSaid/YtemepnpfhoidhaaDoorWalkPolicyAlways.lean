/-
  The law PolicyAlways returns true.
  Conditions: the tables that the row lists, as the program lays them.
-/
import Derived.Test.YtemepnpfhoidhaaDoorLawPolicyAlways
import Derived.Test.YtemepnpfhoidhaaDoorOpsAll
namespace Go.Proofs.YtemepnpfhoidhaaDoor.PAll
open Go.RowKit Go.Lib Go.Sort Go.Proofs.YtemepnpfhoidhaaDoorW.PrintWords Go.Proofs.YtemepnpfhoidhaaDoorW.PrintLast Go.Proofs.YtemepnpfhoidhaaDoorW.PrintMore
set_option linter.unusedVariables false
set_option linter.unusedSimpArgs false
abbrev RRule := S39
theorem own_many (rs : List RRule) (hr : rs.length ≤ 1000) (d : Nat) : ∀ (k i : Nat) (acc : List PRule), i ≤ rs.length → rs.length - i = d → d < k → acc.length ≤ i → winnowlaw04_Own.l0 k rs acc (i : Int) = some (acc ++ (rs.drop i).map ownR) := by
  induction d with
  | zero =>
    intro k i acc hi hd hk ha
    obtain ⟨k, rfl⟩ : ∃ j, k = j + 1 := ⟨k - 1, by omega⟩
    rw [winnowlaw04_Own.l0, if_neg (by omega), List.drop_eq_nil_of_le (by omega)]
    simp
  | succ d ih =>
    intro k i acc hi hd hk ha
    obtain ⟨k, rfl⟩ : ∃ j, k = j + 1 := ⟨k - 1, by omega⟩
    have hlt : i < rs.length := by omega
    rw [winnowlaw04_Own.l0, if_pos (by omega), if_pos (by omega), if_pos (by omega), w64s (by omega), rdR rs i hlt, ih k (i + 1) _ (by omega) (by omega) (by omega) (by simp; omega), List.drop_eq_getElem_cons hlt, List.map_cons, List.append_assoc]
    rfl
theorem own_more (rs : List RRule) (hr : rs.length ≤ 1000) {k : Nat} (hk : 1100 ≤ k) : winnowlaw04_Own.f k rs = some (rs.map ownR) := by
  have h := own_many rs hr rs.length k 0 [] (by omega) (by omega) (by omega) (by simp)
  rw [List.drop_zero, List.nil_append] at h
  exact h
theorem rdO (rs : List RRule) (i : Nat) (h : i < rs.length) : rd_T37 (rs.map ownR) (i : Int) = ownR rs[i] := by
  unfold rd_T37
  rw [Int.toNat_natCast, List.getD_eq_getElem?_getD, List.getElem?_map, List.getElem?_eq_getElem h]
  rfl
theorem same_l0 (rs : List RRule) (hr : rs.length ≤ 1000) (d : Nat) : ∀ (k i : Nat), i ≤ rs.length → rs.length - i = d → d < k → winnowlaw04_same.l0 k (rs.map ownR) rs (i : Int) = some true := by
  induction d with
  | zero =>
    intro k i hi hd hk
    obtain ⟨k, rfl⟩ : ∃ j, k = j + 1 := ⟨k - 1, by omega⟩
    rw [winnowlaw04_same.l0, if_neg (by rw [List.length_map]; omega)]
  | succ d ih =>
    intro k i hi hd hk
    obtain ⟨k, rfl⟩ : ∃ j, k = j + 1 := ⟨k - 1, by omega⟩
    have hlt : i < rs.length := by omega
    rw [winnowlaw04_same.l0, if_pos (by rw [List.length_map]; omega), if_pos (by omega), if_pos (by omega), w64s (by omega), rdR rs i hlt, rdO rs i hlt]
    simp only [show ∀ r : RRule, (ownR r).f0 = r.f0 from fun _ => rfl, show ∀ r : RRule, (ownR r).f1 = r.f1 from fun _ => rfl, show ∀ r : RRule, (ownR r).f2 = r.f2 from fun _ => rfl, show ∀ r : RRule, (ownR r).f3 = r.f3 from fun _ => rfl]
    rw [if_neg (by simp)]
    simp only [if_true]
    exact ih k (i + 1) (by omega) (by omega) (by omega)
theorem same_own (rs : List RRule) (hr : rs.length ≤ 1000) {k : Nat} (hk : 1100 ≤ k) : winnowlaw04_same.f k (rs.map ownR) rs = some true := by
  unfold winnowlaw04_same.f
  rw [if_pos (by rw [List.length_map])]
  exact same_l0 rs hr rs.length k 0 (by omega) (by omega) (by omega)
theorem eval_f3 (rs : List PRule) {l : Spans} (h : shortB l = true) : policy_Eval.f rs l = some (evalB matchB rs l) := by
  unfold policy_Eval.f
  rw [if_pos h]
def sAlways : ByteArray := ⟨#[97, 108, 119, 97, 121, 115]⟩
def alwaysR (b : Bool) : RRule := ⟨b, sAlways, 0, ⟨#[]⟩⟩
theorem always_holds (b : Bool) (l : Spans) (hl : l.length ≠ 0) : holdsB matchB (ownR (alwaysR b)) l = true := by
  have hr : rightB sAlways 0 ⟨#[]⟩ = true := by
    unfold rightB
    simp only [policy_form.f, policy_form.j0, show sAlways.toList = [97, 108, 119, 97, 121, 115] from tl _, show (ByteArray.mk #[]).toList = [] from tl []]
    rfl
  have hw : (ownR (alwaysR b)).f1.toList = [97, 108, 119, 97, 121, 115] := tl _
  unfold holdsB
  rw [if_pos (show rightB (ownR (alwaysR b)).f1 (ownR (alwaysR b)).f2 (ownR (alwaysR b)).f3 = true from hr), if_neg hl, if_neg (by rw [hw]; decide)]
  cases l with
  | nil => exact absurd rfl hl
  | cons x t =>
    rw [List.any_cons]
    have : oneB matchB (ownR (alwaysR b)) x = true := by
      unfold oneB
      rw [hw]
      rfl
    rw [this]
    rfl
/-- What a policy says with a rule that always holds behind it. -/
theorem eval_tail (rs : List PRule) (more : List PRule) (b : Bool) (l : Spans) (hl : l.length ≠ 0) :
    evalB matchB (rs ++ [ownR (alwaysR b)] ++ more) l = (match rs.find? (fun r => holdsB matchB r l) with | some r => if r.f0 = true then 1 else 2 | none => if b = true then 1 else 2) := by
  unfold evalB
  rw [if_neg hl, List.append_assoc, List.find?_append]
  cases rs.find? (fun r => holdsB matchB r l) with
  | some r => rfl
  | none =>
    rw [List.singleton_append, List.find?_cons, always_holds b l hl]
    rfl
theorem always_j1 (rs : List RRule) (hr : rs.length ≤ 100) {k : Nat} (hk : 1200 ≤ k) : winnowlaw04_PolicyAlways.j1 k rs false = some true := by
  obtain ⟨k, rfl⟩ : ∃ j, k = j + 1 := ⟨k - 1, by omega⟩
  rw [winnowlaw04_PolicyAlways.j1, if_neg (by decide), own_more rs (by omega) (by omega), Option.bind_some]
  show (some (showR (rs.map ownR))).bind _ = _
  rw [Option.bind_some]
  have hem : (ByteArray.mk #[]).toList = [] := tl []
  obtain ⟨p, hp⟩ : ∃ p, showR (rs.map ownR) = p := ⟨_, rfl⟩
  have hsh := hp
  unfold showR at hp
  by_cases c1 : 16 < (rs.map ownR).length
  · rw [if_pos c1] at hp
    subst hp
    rw [hsh, if_neg (by decide), if_pos hem]
    rfl
  rw [if_neg c1] at hp
  by_cases c2 : (rs.map ownR).any (fun r => !rightB r.f1 r.f2 r.f3) = true
  · rw [if_pos c2] at hp
    subst hp
    rw [hsh, if_neg (by decide), if_pos hem]
    rfl
  rw [if_neg c2] at hp
  by_cases c3 : (joinB 10 ((rs.map ownR).map lineR)).size > 2048
  · rw [if_pos c3] at hp
    subst hp
    rw [hsh, if_neg (by decide), if_pos hem]
    rfl
  rw [if_neg c3] at hp
  subst hp
  rw [hsh, if_pos rfl]
  show ((policy_Parse.f (joinB 10 ((rs.map ownR).map lineR))).bind _) = _
  rw [parse_shown (rs.map ownR) (by omega) (all_good c2) (by omega), Option.bind_some, if_pos rfl]
  show ((winnowlaw04_same.f k (rs.map ownR) rs).bind _) = _
  rw [same_own rs (by omega) (by omega), Option.bind_some, if_pos rfl]
  rfl
theorem always_j0 (rs more : List RRule) (b : Bool) (l : Spans) (hr : rs.length ≤ 100) (hm : more.length ≤ 100) (hl : l.length ≠ 0) (sl : shortB l = true) {k : Nat} (hk : 1300 ≤ k) : winnowlaw04_PolicyAlways.j0 k rs more b l false = some true := by
  obtain ⟨k, rfl⟩ : ∃ j, k = j + 1 := ⟨k - 1, by omega⟩
  have e1 : policy_Eval.f ((rs ++ [alwaysR b]).map ownR) l = some (evalB matchB (rs.map ownR ++ [ownR (alwaysR b)] ++ []) l) := by
    rw [eval_f3 _ sl, List.map_append, List.append_nil]
    rfl
  have e2 : policy_Eval.f ((rs ++ [alwaysR b] ++ more).map ownR) l = some (evalB matchB (rs.map ownR ++ [ownR (alwaysR b)] ++ more.map ownR) l) := by
    rw [eval_f3 _ sl, List.map_append, List.map_append]
    rfl
  have e3 : policy_Eval.f (rs.map ownR) l = some (match (rs.map ownR).find? (fun r => holdsB matchB r l) with | some r => if r.f0 = true then 1 else 2 | none => 2) := by
    rw [eval_f3 _ sl]
    unfold evalB
    rw [if_neg hl]
    rfl
  rw [eval_tail _ _ _ _ hl] at e1 e2
  have hj := always_j1 rs hr (k := k) (by omega)
  have o1 := own_more (rs ++ [alwaysR b]) (by simp; omega) (k := k) (by omega)
  have o2 := own_more (rs ++ [alwaysR b] ++ more) (by simp; omega) (k := k) (by omega)
  have o3 := own_more rs (by omega) (k := k) (by omega)
  rw [winnowlaw04_PolicyAlways.j0, if_neg (by decide)]
  show (if ([] : List RRule).length + rs.length < 2932031007402 then _ else _) = _
  rw [if_pos (by simp; omega), Option.bind_some, List.nil_append, if_pos (by omega), Option.bind_some]
  show ((winnowlaw04_Own.f k (rs ++ [alwaysR b])).bind _) = _
  rw [o1, Option.bind_some, e1, Option.bind_some, Option.bind_some]
  show (if ([] : List RRule).length + (rs ++ [alwaysR b]).length < 2932031007402 then _ else _) = _
  rw [if_pos (by simp; omega), Option.bind_some, List.nil_append]
  show (if (rs ++ [alwaysR b]).length + more.length < 2932031007402 then (winnowlaw04_Own.f k (rs ++ [alwaysR b] ++ more)).bind _ else _) = _
  rw [if_pos (by simp; omega), o2, Option.bind_some, e2, Option.bind_some, o3, Option.bind_some, e3, Option.bind_some, if_pos rfl]
  cases (rs.map ownR).find? (fun r => holdsB matchB r l) with
  | some r =>
    cases hf : r.f0 <;> cases b <;> simp only [hf] <;> first | exact hj | (simp; exact hj)
  | none =>
    cases b <;> first | exact hj | (simp; exact hj)
theorem always_true (rs more : List RRule) (b : Bool) (l : Spans) (k : Nat) (hk : 1300 ≤ k) : winnowlaw04_PolicyAlways.f k rs more b l = some true := by
  have hj : winnowlaw04_PolicyAlways.j0 k rs more b l true = some true := by
    obtain ⟨k, rfl⟩ : ∃ j, k = j + 1 := ⟨k - 1, by omega⟩
    rw [winnowlaw04_PolicyAlways.j0, if_pos rfl]
    rfl
  have lift : ∀ {α : Type} {f : Nat → Option α} (_ : ∀ k, LeO (f k) (f (k + 1))) {r : α} {a c : Nat}, f a = some r → a ≤ c → f c = some r := by
    intro α f hm r a c h hac
    induction hac with
    | refl => exact h
    | step _ ih => exact hm _ _ ih
  unfold winnowlaw04_PolicyAlways.f
  obtain ⟨t1, h1, x1⟩ := light_tells rs l
  rw [lift (fun k => winnowlaw04_Light.mono rs l k) h1 (by omega), Option.bind_some]
  cases t1 with
  | false => rw [if_neg (by decide)]; exact hj
  | true =>
    obtain ⟨lr, ll, s1⟩ := x1 rfl
    have s1 := short_of s1
    obtain ⟨t2, h2, x2⟩ := light_tells more []
    rw [if_pos rfl, lift (fun k => winnowlaw04_Light.mono more [] k) h2 (by omega), Option.bind_some]
    cases t2 with
    | false => rw [if_neg (by decide)]; exact hj
    | true =>
      obtain ⟨lm, _, _⟩ := x2 rfl
      obtain ⟨t3, h3⟩ := right_tells l ll
      rw [if_pos rfl, lift (fun k => winnowlaw04_right.mono l k) h3 (by omega), Option.bind_some]
      cases t3 with
      | false => rw [if_neg (by decide)]; exact hj
      | true =>
        rw [if_pos rfl]
        by_cases hz : l.length = 0
        · rw [show ((l.length : Int) == 0) = true by simp [hz]]
          exact hj
        · rw [show ((l.length : Int) == 0) = false by simpa using hz]
          exact always_j0 rs more b l lr lm hz s1 hk
theorem walk_PolicyAlways (W : World) (a0 : Option Addr) (cap0 : Nat) (x0 : (List S39)) (hl0 : x0.length ≤ cap0) (hC0 : Kd.C k39 W a0 x0.length x0) (ok_0 : x0.length ≤ maxLen ∧ ∀ y_x0 ∈ x0, (ok39 y_x0))
    (a1 : Option Addr) (cap1 : Nat) (x1 : (List S39)) (hl1 : x1.length ≤ cap1) (hC1 : Kd.C k39 W a1 x1.length x1) (ok_1 : x1.length ≤ maxLen ∧ ∀ y_x1 ∈ x1, (ok39 y_x1))
    (b2 : Bool)
    (a3 : Option Addr) (cap3 : Nat) (x3 : (List S44)) (hl3 : x3.length ≤ cap3) (hC3 : Kd.C k44 W a3 x3.length x3) (ok_3 : x3.length ≤ maxLen ∧ ∀ y_x3 ∈ x3, (ok44 y_x3)) (hL : Laid W) :
    Calls Tryd.prog 10 #[.slice a0 x0.length cap0, .slice a1 x1.length cap1, .bool b2, .slice a3 x3.length cap3] W fun e W' => e = .returned (.bool true) ∧ Below W.heap.size W W' :=
  winnowlaw04_PolicyAlways.calls 1300 a0 cap0 x0 a1 cap1 x1 b2 a3 cap3 x3 true W hC0 hl0 hC1 hl1 hC3 hl3 hL (always_true _ _ _ _ _ (Nat.le_refl _))
end Go.Proofs.YtemepnpfhoidhaaDoor.PAll
