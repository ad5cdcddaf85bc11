/-
  The law PolicyOrder returns true.
  Conditions: the tables that the row lists, as the program lays them.
-/
import Derived.Test.YtemepnpfhoidhaaDoorLawPolicyOrder
import Derived.Test.YtemepnpfhoidhaaDoorPolicyLawPure
import Derived.Test.YtemepnpfhoidhaaDoorOpsAll
namespace Go.Proofs.YtemepnpfhoidhaaDoor.PAll
open Go.RowKit Go.Lib Go.Sort Go.Proofs.YtemepnpfhoidhaaDoorW.PrintWords Go.Proofs.YtemepnpfhoidhaaDoorW.PrintLast Go.Proofs.YtemepnpfhoidhaaDoorW.PrintMore
set_option linter.unusedVariables false
set_option linter.unusedSimpArgs false
theorem eval_f (rs : List S37) {l : Spans} (h : shortB l = true) : policy_Eval.f rs l = some (evalB matchB rs l) := by
  unfold policy_Eval.f
  rw [if_pos h]
theorem order_l0 (rs : List S39) (hr : rs.length ≤ 100) (l m : Spans) (hl : l.length ≤ 100) (hml : m.length = l.length) (sl : shortB l = true) (hs : ∀ x, x ∈ l ↔ x ∈ m) (a : Nat) (ha : a < l.length) (d : Nat) :
    ∀ (k i : Nat), i ≤ rs.length → rs.length - i = d → d < k → (∀ r ∈ rs.take i, ¬ r.f1.toList = [109, 97, 110, 121]) → winnowlaw04_PolicyOrder.l0 k rs l (a : Int) (rs.map ownR) m (i : Int) = some true := by
  induction d with
  | zero =>
    intro k i hi hd hk hm
    obtain ⟨k, rfl⟩ : ∃ j, k = j + 1 := ⟨k - 1, by omega⟩
    have hla : l[a] ∈ l := List.getElem_mem _
    have hs2 : ∀ x, x ∈ m ++ [l[a]] ↔ x ∈ l := fun x => by
      rw [List.mem_append, List.mem_singleton, ← hs x]
      exact ⟨fun h => h.elim id (fun e => e ▸ hla), .inl⟩
    have sm : shortB (m ++ [l[a]]) = true := short_mem sl (fun x hx => (hs2 x).1 hx)
    have e : evalB matchB (rs.map ownR) (m ++ [l[a]]) = evalB matchB (rs.map ownR) l := by
      refine eval_same _ _ _ _ ⟨fun h => by simp at h, fun h => by omega⟩ (fun r hr2 => ?_)
      obtain ⟨q, hq, rfl⟩ := List.mem_map.1 hr2
      refine holds_often _ _ ?_ _ _ hs2
      have := hm q (by rw [List.take_of_length_le (by omega)]; exact hq)
      exact this
    rw [winnowlaw04_PolicyOrder.l0, if_neg (by omega), if_pos (by omega), if_pos (by omega), if_pos (by omega), rdS l a ha]
    show ((policy_Eval.f (rs.map ownR) (m ++ [l[a]])).bind _) = _
    rw [eval_f _ sm, eval_f _ sl, e]
    simp only [Option.bind_some, if_true]
    rfl
  | succ d ih =>
    intro k i hi hd hk hm
    obtain ⟨k, rfl⟩ : ∃ j, k = j + 1 := ⟨k - 1, by omega⟩
    have hlt : i < rs.length := by omega
    rw [winnowlaw04_PolicyOrder.l0, if_pos (by omega), if_pos (by omega), w64s (by omega), rdR rs i hlt]
    by_cases c : (rs[i].f1).toList = [109, 97, 110, 121]
    · rw [if_pos c]
      rfl
    · rw [if_neg c]
      refine ih k (i + 1) (by omega) (by omega) (by omega) (fun r hr2 => ?_)
      rw [List.take_succ_eq_append_getElem hlt, List.mem_append, List.mem_singleton] at hr2
      rcases hr2 with h | rfl
      · exact hm r h
      · exact c
theorem order_true (rs : List S39) (l : Spans) (a b : Int) : winnowlaw04_PolicyOrder.f 1000 rs l a b = some true := by
  have hj : winnowlaw04_PolicyOrder.j0 1000 rs l a b true = some true := by
    rw [winnowlaw04_PolicyOrder.j0, if_pos rfl]
    rfl
  unfold winnowlaw04_PolicyOrder.f
  obtain ⟨t1, h1, x1⟩ := light_tells rs l
  rw [h1]
  simp only [Option.bind_some]
  cases t1 with
  | false => exact hj
  | true =>
    obtain ⟨lr, ll, s1⟩ := x1 rfl
    have s1 := short_of s1
    obtain ⟨t2, h2⟩ := right_tells l ll
    rw [if_pos rfl, h2]
    simp only [Option.bind_some]
    cases t2 with
    | false => exact hj
    | true =>
      rw [if_pos rfl]
      by_cases c1 : a < 0
      · rw [if_pos c1]; exact hj
      by_cases c2 : b < 0
      · rw [if_neg c1, if_pos c2]; exact hj
      by_cases c3 : a ≥ (l.length : Int)
      · rw [if_neg c1, if_neg c2, if_pos c3]; exact hj
      by_cases c4 : b ≥ (l.length : Int)
      · rw [if_neg c1, if_neg c2, if_neg c3, decide_eq_true c4]; exact hj
      rw [if_neg c1, if_neg c2, if_neg c3, decide_eq_false c4]
      obtain ⟨a, rfl⟩ := Int.eq_ofNat_of_zero_le (show 0 ≤ a by omega)
      obtain ⟨b, rfl⟩ := Int.eq_ofNat_of_zero_le (show 0 ≤ b by omega)
      have ha : a < l.length := by omega
      have hb : b < l.length := by omega
      have hs := swap_mem l a b ha hb
      have sm : shortB ((l.set a l[b]).set b l[a]) = true := short_mem s1 (fun x hx => (hs x).2 hx)
      have e : evalB matchB (rs.map ownR) l = evalB matchB (rs.map ownR) ((l.set a l[b]).set b l[a]) := eval_same _ _ _ _ (by simp) (fun r _ => holds_same _ r _ _ hs (by simp))
      rw [winnowlaw04_PolicyOrder.j0, if_neg (by decide), own_tells rs lr (by omega)]
      simp only [Option.bind_some, List.nil_append]
      rw [if_pos (by simp; omega), if_pos (by omega), if_pos (by omega), if_pos (by omega), if_pos (by omega), if_pos (by omega), if_pos (by omega), rdS l a ha, rdS l b hb]
      show ((policy_Eval.f (rs.map ownR) l).bind fun t229 => ((policy_Eval.f (rs.map ownR) ((l.set a l[b]).set b l[a])).bind fun t230 => (if t229 = t230 then (winnowlaw04_PolicyOrder.l0 999 rs l (a : Int) (rs.map ownR) ((l.set a l[b]).set b l[a]) 0) else (some false)))) = _
      rw [eval_f _ s1, eval_f _ sm, ← e]
      simp only [Option.bind_some, if_true]
      exact order_l0 rs lr l _ ll (by simp) s1 hs a ha rs.length 999 0 (by omega) (by omega) (by omega) (fun r hr => by simp at hr)
theorem walk_PolicyOrder (W : World) (a0 : Option Addr) (cap0 : Nat) (x0 : (List S39)) (hl0 : x0.length ≤ cap0) (hC0 : Kd.C k39 W a0 x0.length x0) (ok_0 : x0.length ≤ maxLen ∧ ∀ y_x0 ∈ x0, (ok39 y_x0))
    (a1 : Option Addr) (cap1 : Nat) (x1 : (List S44)) (hl1 : x1.length ≤ cap1) (hC1 : Kd.C k44 W a1 x1.length x1) (ok_1 : x1.length ≤ maxLen ∧ ∀ y_x1 ∈ x1, (ok44 y_x1))
    (b2 : Int) (ok_2 : (Lit.int .i64 b2).wf = true)
    (b3 : Int) (ok_3 : (Lit.int .i64 b3).wf = true) (hL : Laid W) :
    Calls Tryd.prog 6 #[.slice a0 x0.length cap0, .slice a1 x1.length cap1, .int .i64 b2, .int .i64 b3] W fun e W' => e = .returned (.bool true) ∧ Below W.heap.size W W' :=
  winnowlaw04_PolicyOrder.calls 1000 a0 cap0 x0 a1 cap1 x1 b2 b3 true W hC0 hl0 hC1 hl1 hL (order_true _ _ _ _)
end Go.Proofs.YtemepnpfhoidhaaDoor.PAll
