/-
  Maps of the call's own whose elements are bools: what a look-up tells.
  Conditions: none.
-/
import Derived.Maps.OwnOps
import Derived.Maps.OwnSet
import Derived.Maps.Views
namespace Go.Proofs.Ytlpnpnjjmpkapaa
namespace MapBool
open Go.ChangeMaps Go.MapKept
open Go.Maps (Keyed)
section
variable {H : Type} {P : Program} {w w' : World} {k e t : TypeId} {b n : Nat} {D : DataW H} {R : Value → Option (DataW H × List MemPlace)}
theorem elem_bool_inv (he : P.underlying e = some .bool) {v : Value} {z : DataW H × List MemPlace} (h : plainElem P e v = some z) : ∃ x : Bool, v = .bool x ∧ z = (.lit (.bool x), []) := by
  unfold plainElem at h
  rw [he] at h
  cases v <;> simp at h
  exact ⟨_, rfl, h.symm⟩
theorem lookup_bool (h : w.ownsMap P k (plainElem P e) b n D) (K : Keyed P k) (ht : P.underlying t = some (.map k e)) (he : P.underlying e = some .bool) (hz : (zeroValue e).run P w = .ok (.bool false) w)
    {key : Value} {kl : Lit} (hkey : keyOf P k key = some kl) : ∃ c : Bool, (Instr.lookup t (.map (some b)) key false).run P w = .ok (.bool c) w ∧ D.atKey kl (.lit (.bool false)) = .lit (.bool c) := by
  obtain ⟨v, ps, hrun, hv⟩ := h.lookup K ht hz (plainElem_bool he false) hkey
  obtain ⟨c, rfl, hc⟩ := elem_bool_inv he hv
  simp only [Prod.mk.injEq] at hc
  exact ⟨c, hrun, hc.1⟩
theorem at_block (h : w.ownsMap P k R b n D) (e : w'.heap[b]? = w.heap[b]?) : w'.ownsMap P k R b n D := by
  obtain ⟨es, clock, hb, F, hs, hD⟩ := h
  exact ⟨es, clock, e.trans hb, F, hs, hD⟩
theorem below (h : w.ownsMap P k R b n D) (hB : Go.RowKit.Below w.heap.size w w') : w'.ownsMap P k R b n D := at_block h (hB.block b h.lt)
end
/-- A set of whole numbers: what a key reads as. -/
def Is (q : IntKind) (D : DataW Unit) (l : List Int) : Prop := Go.Maps.IsMap D ∧ ∀ x, (Lit.int q x).wf = true → D.atKey (.int q x) (.lit (.bool false)) = .lit (.bool (decide (x ∈ l)))
theorem Is.nil (q : IntKind) : Is q (.map []) [] := ⟨Go.Maps.isMap_empty, fun x _ => by simp [DataW.atKey]⟩
theorem Is.put {q : IntKind} {D : DataW Unit} {l : List Int} (h : Is q D l) (x : Int) : Is q (D.put (.int q x) (.lit (.bool true))) (l ++ [x]) := by
  refine ⟨h.1.put _ _, fun y hy => ?_⟩
  by_cases e : y = x
  · subst e
    rw [Go.Maps.atKey_put_same h.1 (by trivial)]
    simp
  · rw [Go.Maps.atKey_put_other (fun h2 => e (by cases h2; rfl)), h.2 y hy]
    simp [e]
end MapBool
end Go.Proofs.Ytlpnpnjjmpkapaa
