/-
  What comes in as data is held by cells, kind by kind: ints, bools, strings, slices and structs of these.
  Conditions: none of the law's; plain lemmas over any program.
-/
import Derived.Test.YtemepnpfhoidhaaGreatDoorWWords
import Derived.Deep.Slices
import Derived.Deep.Fields
import Derived.ChangeSame
import Derived.ChangeOld
import Derived.ProofKit
import Derived.OpenShut
import Derived.ShutString
import Derived.Below
namespace Go.Proofs.YtemepnpfhoidhaaGreatDoor.Opens
open Go.RowKit Go.Proofs.YtemepnpfhoidhaaGreatDoorW.PrintWords Go.Deep Go.ChangeShapes Go.WideShapes

/-- Values of type T, read as data, are held by the kind d, and ok tells what is known of them. -/
def Opens {α : Type} (P : Program) (d : Kd α) (T : TypeId) (ok : α → Prop) : Prop :=
  ∀ (H : Type) (enc : TypeId × Value → H) (w : World) (base : Nat) (spare : Nat → Bool) (held : Bool) (fuel : Nat) (cs : List Value) (y : DataW H × List MemPlace),
    DataW.trod enc P w base spare held fuel T cs = some y → ∃ x, d.K w x cs ∧ ok x

variable {P : Program}

theorem int {T : TypeId} {k : IntKind} (ht : P.underlying T = some (.int k)) : Opens P (Kd.int k) T (fun x => (Lit.int k x).wf = true) := by
  intro H enc w base spare held fuel cs y h
  obtain ⟨n, rfl, _, hw⟩ := DataW.trod_int ht h
  exact ⟨n, rfl, hw⟩
theorem bool {T : TypeId} (ht : P.underlying T = some .bool) : Opens P Kd.bool T (fun _ => True) := by
  intro H enc w base spare held fuel cs y h
  obtain ⟨b, rfl, _⟩ := DataW.trod_bool ht h
  exact ⟨b, rfl, trivial⟩
theorem string {T : TypeId} (ht : P.underlying T = some .string) : Opens P Kd.string T (fun s => s.size ≤ maxLen) := by
  intro H enc w base spare held fuel cs y h
  obtain ⟨s, rfl, _, hs⟩ := DataW.trod_string ht h
  exact ⟨s, rfl, hs⟩
theorem weaken {α : Type} {d : Kd α} {T : TypeId} {ok ok' : α → Prop} (h : Opens P d T ok) (hk : ∀ x, ok x → ok' x) : Opens P d T ok' := by
  intro H enc w base spare held fuel cs y ht
  obtain ⟨x, hx, ho⟩ := h H enc w base spare held fuel cs y ht
  exact ⟨x, hx, hk x ho⟩

theorem cells_of {w : World} {base : Nat} {a : Addr} {n : Nat} {cs : List Value} (h : w.cells? base a n = some cs) : cs.length = n ∧ ∀ i u, cs[i]? = some u → w.cell? (a.add i) = some u := by
  obtain ⟨_, hl, hat⟩ := World.cells?_some h
  refine ⟨hl, fun i u hu => ?_⟩
  have hi : i < n := by
    rcases Nat.lt_or_ge i n with hi | hi
    · exact hi
    · rw [List.getElem?_eq_none (by omega)] at hu
      cases hu
  rw [hat i hi, hu]

/-- a slice -/
theorem slice {α : Type} {d : Kd α} {T e : TypeId} {ok : α → Prop} (ht : P.underlying T = some (.slice e)) (hsz : P.cellsOf e = d.sz) (hd : Opens P d e ok) :
    Opens P (Kd.slice e d) T (fun xs => xs.length ≤ maxLen ∧ ∀ x ∈ xs, ok x) := by
  intro H enc w base spare held fuel cs y h
  rcases open_slice ht h with ⟨rfl, _⟩ | ⟨a, len, cap, m, n, D, Pl, rfl, hb, hl, hm, hmm, hx, hi⟩
  · exact ⟨[], ⟨none, 0, rfl, Nat.le_refl _, rfl, by simp, fun h => absurd h (by simp)⟩, by simp, by simp⟩
  · have hle : len ≤ m := by rw [hmm]; split <;> omega
    have build : ∀ k, k ≤ len → ∃ xs : List α, xs.length = k ∧ ∀ j p, xs[j]? = some p → (∃ c, c.length = d.sz ∧ d.K w p c ∧ ∀ i u, c[i]? = some u → w.cell? (a.add (j * d.sz + i)) = some u) ∧ ok p := by
      intro k
      induction k with
      | zero => exact fun _ => ⟨[], rfl, fun j p hp => by simp at hp⟩
      | succ k ih =>
        intro hk
        obtain ⟨xs, hxl, hxs⟩ := ih (by omega)
        obtain ⟨c, hc, htr⟩ := hi k (by omega)
        obtain ⟨x, hK, hok⟩ := hd _ _ _ _ _ _ _ _ _ htr
        obtain ⟨hcl, hcell⟩ := cells_of hc
        refine ⟨xs ++ [x], by simp [hxl], fun j p hp => ?_⟩
        rcases Nat.lt_or_ge j k with hj | hj
        · rw [List.getElem?_append_left (by omega)] at hp
          exact hxs j p hp
        · have hjk : j = k := by
            rcases Nat.lt_or_ge k j with h1 | h1
            · rw [List.getElem?_eq_none (by simp; omega)] at hp
              cases hp
            · omega
          subst hjk
          rw [List.getElem?_append_right (by omega), hxl, Nat.sub_self] at hp
          simp only [List.getElem?_cons_zero, Option.some.injEq] at hp
          subst hp
          refine ⟨⟨c, by rw [hcl, hsz], hK, fun i u hu => ?_⟩, hok⟩
          have := hcell i u hu
          rwa [Go.Deep.add_add, hsz] at this
    obtain ⟨xs, hxl, hxs⟩ := build len (Nat.le_refl _)
    refine ⟨xs, ⟨some a, cap, by rw [hxl], by omega, rfl, ?_, fun _ => ⟨a, rfl, fun j p hp => (hxs j p hp).1⟩⟩, by omega, ?_⟩
    · have h1 : xs.length ≤ maxLen := by omega
      simpa only [maxLen] using h1
    · intro x hx
      obtain ⟨j, hj, rfl⟩ := List.getElem_of_mem hx
      exact (hxs j _ (List.getElem?_eq_getElem hj)).2

/-- The fields of a struct, from the i-th on, which begins at cell 'off'. -/
def Fields {α : Type} (P : Program) (d : Kd α) (fs : Array Field) (i off : Nat) (ok : α → Prop) : Prop :=
  ∀ (H : Type) (enc : TypeId × Value → H) (w : World) (base : Nat) (spare : Nat → Bool) (held : Bool) (fuel : Nat) (cs : List Value) (xs : List (DataW H × List MemPlace)),
    cs.length = off + d.sz → xs.length = fs.size →
    (∀ (j : Nat) (f : Field), i ≤ j → fs[j]? = some f → DataW.trod enc P w base spare held fuel f.type ((cs.drop f.offset).take (P.cellsOf f.type)) = xs[j]?) → ∃ x, d.K w x (cs.drop off) ∧ ok x

theorem last {α : Type} {d : Kd α} {fs : Array Field} {i off : Nat} {ok : α → Prop} (f : Field) (hf : fs[i]? = some f) (ho : f.offset = off) (hsz : P.cellsOf f.type = d.sz) (hd : Opens P d f.type ok) : Fields P d fs i off ok := by
  intro H enc w base spare held fuel cs xs hl hx h
  have hi : i < fs.size := (Array.getElem?_eq_some_iff.1 hf).1
  have h1 := h i f (Nat.le_refl _) hf
  rw [List.getElem?_eq_getElem (by omega), ho, hsz, List.take_of_length_le (by rw [List.length_drop]; omega)] at h1
  exact hd _ _ _ _ _ _ _ _ _ h1
theorem cons {α β : Type} {d : Kd α} {d2 : Kd β} {fs : Array Field} {i off : Nat} {ok : α → Prop} {ok2 : β → Prop} (f : Field) (hf : fs[i]? = some f) (ho : f.offset = off) (hsz : P.cellsOf f.type = d.sz) (hd : Opens P d f.type ok)
    (hr : Fields P d2 fs (i + 1) (off + d.sz) ok2) : Fields P (Kd.pair d d2) fs i off (fun x => ok x.1 ∧ ok2 x.2) := by
  intro H enc w base spare held fuel cs xs hl hx h
  have hi : i < fs.size := (Array.getElem?_eq_some_iff.1 hf).1
  have h1 := h i f (Nat.le_refl _) hf
  have hsum : (Kd.pair d d2).sz = d.sz + d2.sz := rfl
  rw [hsum] at hl
  rw [List.getElem?_eq_getElem (by omega), ho, hsz] at h1
  obtain ⟨x, hK, hok⟩ := hd _ _ _ _ _ _ _ _ _ h1
  obtain ⟨x2, hK2, hok2⟩ := hr H enc w base spare held fuel cs xs (by omega) hx (fun j g hj hg => h j g (by omega) hg)
  refine ⟨(x, x2), ⟨(cs.drop off).take d.sz, cs.drop (off + d.sz), ?_, hK, hK2⟩, hok, hok2⟩
  rw [← List.drop_drop, List.take_append_drop]
/-- a struct -/
theorem struct {α β : Type} {d : Kd α} {T : TypeId} {fs : Array Field} {ok : α → Prop} (ht : P.underlying T = some (.struct fs)) (hsz : P.cellsOf T = d.sz) (h : Fields P d fs 0 0 ok) (f : β → α) (g : α → β) (hfg : ∀ x, f (g x) = x) :
    Opens P (Kd.iso d f) T (fun x => ok (f x)) := by
  intro H enc w base spare held fuel cs y htr
  obtain ⟨xs, n, _, _, hlen, hxl, hat⟩ := DataW.trod_struct ht htr
  obtain ⟨x, hK, hok⟩ := h H enc w base spare held n cs xs (by omega) hxl (fun j f _ hf => hat j f hf)
  exact ⟨g x, by show d.K w (f (g x)) cs; rw [hfg]; exact hK, by show ok (f (g x)); rw [hfg]; exact hok⟩
end Go.Proofs.YtemepnpfhoidhaaGreatDoor.Opens
