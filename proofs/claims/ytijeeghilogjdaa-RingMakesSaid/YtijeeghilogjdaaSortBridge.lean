/-
  A row of the call's own and the library's sort: between the words of the prints (Kd.R) and those of the shelf (HoldsK, sortWorldK).
  Conditions: elements of one kind of cells alone (nothing they lead to).
-/
import Derived.Test.YtijeeghilogjdaaWKept
import Derived.Shelf.GgSortFunc.RowK
namespace Go.Proofs.Ytijeeghilogjdaa
namespace SortBridge
set_option linter.unusedSectionVars false
open Go.Sort hiding Below ahead
open Go.Proofs.YtijeeghilogjdaaW.PrintWords
variable {α : Type} [Inhabited α] {enc : α → List Value} {k : Nat}
theorem flat_get (hk : ∀ x, (enc x).length = k) {xs : List α} {inner : List Value} (h : Reps (fun p c => c = enc p) k xs inner) (j : Nat) (hj : j < xs.length * k) : inner[j]? = some ((flatK enc k xs.toArray)[j]!) := by
  have k0 : 0 < k := by
    rcases Nat.eq_zero_or_pos k with e | e
    · rw [e] at hj; omega
    · exact e
  have hq : j / k < xs.length := Nat.div_lt_of_lt_mul (by rw [Nat.mul_comm]; exact hj)
  have hm : j % k < k := Nat.mod_lt _ k0
  have h2 := h.2 (j / k) xs[j / k] (List.getElem?_eq_getElem hq)
  have e : inner[j]? = ((inner.drop (j / k * k)).take k)[j % k]? := by
    rw [List.getElem?_take_of_lt hm, List.getElem?_drop, Nat.div_add_mod']
  rw [e, h2, get_flatK _ _ _ _ (by simpa using hj)]
  have e1 : xs.toArray[j / k]! = xs[j / k] := by simp [getElem!_pos, hq]
  rw [e1, List.getElem?_eq_getElem (by rw [hk]; exact hm), getElem!_pos _ _ (by rw [hk]; exact hm)]
theorem flat_eq (hk : ∀ x, (enc x).length = k) {xs : List α} {inner : List Value} (h : Reps (fun p c => c = enc p) k xs inner) : inner = (flatK enc k xs.toArray).toList := by
  refine List.ext_getElem? fun j => ?_
  by_cases hj : j < xs.length * k
  · rw [flat_get hk h j hj, Array.getElem?_toList, getElem!_pos _ _ (by simpa using hj), Array.getElem?_eq_getElem]
  · rw [List.getElem?_eq_none (by rw [h.1]; omega), Array.getElem?_toList, Array.getElem?_eq_none (by simp; omega)]
theorem flat_reps (hk : ∀ x, (enc x).length = k) (xs : List α) : Reps (fun p c => c = enc p) k xs (flatK enc k xs.toArray).toList := by
  refine ⟨by simp, fun j p hp => ?_⟩
  have hj : j < xs.length := by
    rcases Nat.lt_or_ge j xs.length with h | h
    · exact h
    · rw [List.getElem?_eq_none h] at hp; cases hp
  have ep : xs[j] = p := by rw [List.getElem?_eq_getElem hj] at hp; exact Option.some.inj hp
  refine List.ext_getElem? fun i => ?_
  by_cases hi : i < k
  · have hlt : j * k + i < xs.length * k := Nat.lt_of_lt_of_le (by rw [Nat.succ_mul]; omega : j * k + i < (j + 1) * k) (Nat.mul_le_mul_right k hj)
    rw [List.getElem?_take_of_lt hi, List.getElem?_drop, Array.getElem?_toList, Array.getElem?_eq_getElem (by simpa using hlt), ← getElem!_pos (flatK enc k xs.toArray) (j * k + i) (by simpa using hlt), get_flatK _ _ _ _ (by simpa using hlt)]
    have e1 : (j * k + i) / k = j := by rw [Nat.add_comm, Nat.add_mul_div_right _ _ (by omega), Nat.div_eq_of_lt hi, Nat.zero_add]
    have e2 : (j * k + i) % k = i := by rw [Nat.add_comm, Nat.add_mul_mod_self_right, Nat.mod_eq_of_lt hi]
    rw [e1, e2]
    have e3 : xs.toArray[j]! = p := by simp [getElem!_pos, hj, ep]
    rw [e3, List.getElem?_eq_getElem (by rw [hk]; exact hi), getElem!_pos _ _ (by rw [hk]; exact hi)]
  · rw [List.getElem?_eq_none (by rw [List.length_take]; omega), List.getElem?_eq_none (by rw [hk]; omega)]
section
variable {d : Kd α} {e : TypeId} {W : World} {base : Nat} {ok : Nat → Prop} {g n c : Nat} {xs : List α}
theorem R_parts (hsz : d.sz = k) (hM : ∀ w base ok x cs, d.M w base ok x cs → cs = enc x) (h : d.R e W base ok (.slice (some ⟨g, 0, none⟩) n c) xs) :
    n = xs.length ∧ base ≤ g ∧ ok g ∧ n ≤ c ∧ c ≤ maxLen ∧ ∃ cur, W.heap[g]? = some (.cells cur e (0, 0)) ∧ cur.size = c * k ∧ Reps (fun p cs => cs = enc p) k xs (cur.toList.take (n * k)) := by
  obtain ⟨h0, inner, ho, hr⟩ := h
  rw [hsz] at ho hr
  obtain ⟨hl, ho⟩ := ho
  rcases ho with ⟨ho, _⟩ | ⟨g', cap, cur, ho, hg, hh, h1, h2, h3, h4⟩
  · cases ho
  · injection ho with a1 a2 a3
    injection a1 with a1
    injection a1 with a1
    subst a1 a2 a3
    exact ⟨rfl, hg, h0 _ rfl, h1, h2, cur, hh, h3, by rw [h4]; exact hr.imp_ (fun p cs hp => hM _ _ _ _ _ hp)⟩
theorem R_head {v : Value} (h : d.R e W base ok v xs) (hx : xs ≠ []) : ∃ g n c, v = .slice (some ⟨g, 0, none⟩) n c := by
  obtain ⟨h0, inner, ho, hr⟩ := h
  obtain ⟨hl, ho⟩ := ho
  rcases ho with ⟨_, hi⟩ | ⟨g', cap, cur, ho, _⟩
  · exact absurd (List.eq_nil_of_length_eq_zero hi) hx
  · exact ⟨g', _, cap, ho⟩
theorem holds (hk : ∀ x, (enc x).length = k) (hsz : d.sz = k) (hM : ∀ w base ok x cs, d.M w base ok x cs → cs = enc x) (h : d.R e W base ok (.slice (some ⟨g, 0, none⟩) n c) xs) : HoldsK enc k W g 0 xs.toArray := by
  obtain ⟨rfl, hg, hok, h1, h2, cur, hh, h3, h4⟩ := R_parts hsz hM h
  intro j hj
  have hj' : j < xs.length * k := by simpa using hj
  have := flat_get hk h4 j hj'
  rw [List.getElem?_take_of_lt hj', Array.getElem?_toList] at this
  refine ⟨?_, ?_⟩
  · unfold World.cell?
    simp only [hh, Nat.zero_add]
    exact this
  · unfold World.frozen?
    simp only [hh]
    simp
/-- The block behind the sort. -/
theorem block_at {cur : Array Value} (hh : W.heap[g]? = some (.cells cur e (0, 0))) (m : Nat) (F : Array Value) (os : Array Obj) : (grow (putRow id (Go.Sort.ahead W m) g 0 F) os).heap[g]? = some (.cells (putCells id 0 F cur) e (0, 0)) := by
  have hlt : g < W.heap.size := by
    rcases Nat.lt_or_ge g W.heap.size with h | h
    · exact h
    · rw [Array.getElem?_eq_none h] at hh; cases hh
  unfold grow putRow mapBlock Go.Sort.ahead
  simp only
  rw [Array.getElem?_append_left (by simpa using hlt), Array.getElem?_modify, if_pos rfl, hh]
  rfl
theorem block_other {i : Nat} (hi : i < W.heap.size) (hne : i ≠ g) (m : Nat) (F : Array Value) (os : Array Obj) : (grow (putRow id (Go.Sort.ahead W m) g 0 F) os).heap[i]? = W.heap[i]? := by
  unfold grow putRow mapBlock Go.Sort.ahead
  simp only
  rw [Array.getElem?_append_left (by simpa using hi), Array.getElem?_modify, if_neg (fun h => hne h.symm)]
theorem size_le (m : Nat) (F : Array Value) (os : Array Obj) : W.heap.size ≤ (grow (putRow id (Go.Sort.ahead W m) g 0 F) os).heap.size := by
  unfold grow putRow mapBlock Go.Sort.ahead
  simp
theorem put_take (F cur : Array Value) (h : F.size ≤ cur.size) : (putCells id 0 F cur).toList.take F.size = F.toList := by
  refine List.ext_getElem? fun j => ?_
  by_cases hj : j < F.size
  · rw [List.getElem?_take_of_lt hj, Array.getElem?_toList, Array.getElem?_toList]
    unfold putCells
    rw [Array.getElem?_mapIdx, Array.getElem?_eq_getElem (by omega : j < cur.size), Array.getElem?_eq_getElem hj]
    simp only [Option.map_some, Nat.zero_le, true_and, Nat.zero_add, Nat.sub_zero, id]
    rw [if_pos hj, getElem!_pos F j hj]
  · rw [List.getElem?_eq_none (by rw [List.length_take]; omega), Array.getElem?_toList, Array.getElem?_eq_none (by omega)]
/-- The row behind the sort: the same place, other elements. -/
theorem back (hk : ∀ x, (enc x).length = k) (hsz : d.sz = k) (hM : ∀ w base ok x cs, d.M w base ok x cs → cs = enc x) (hM2 : ∀ w base ok x, d.M w base ok x (enc x)) (h : d.R e W base ok (.slice (some ⟨g, 0, none⟩) n c) xs)
    (ys : List α) (hy : ys.length = xs.length) (m : Nat) (os : Array Obj) : d.R e (grow (putRow id (Go.Sort.ahead W m) g 0 (flatK enc k ys.toArray)) os) base ok (.slice (some ⟨g, 0, none⟩) n c) ys := by
  obtain ⟨rfl, hg, hok, h1, h2, cur, hh, h3, h4⟩ := R_parts hsz hM h
  have hF : (flatK enc k ys.toArray).size = xs.length * k := by simp [hy]
  have hle : (flatK enc k ys.toArray).size ≤ cur.size := by rw [hF, h3]; exact Nat.mul_le_mul_right k h1
  refine ⟨fun q hq => ?_, (flatK enc k ys.toArray).toList, ⟨?_, .inr ⟨g, c, _, by rw [hy], hg, block_at hh m _ os, by rw [hy]; exact h1, h2, ?_, ?_⟩⟩, ?_⟩
  · have : g = q := by simpa [Value.ownBlock] using hq
    exact this ▸ hok
  · rw [hsz]; simp
  · rw [hsz]; unfold putCells; simp [h3]
  · rw [hsz, show ys.length * k = (flatK enc k ys.toArray).size by simp]
    exact put_take _ _ hle
  · rw [hsz]
    exact (flat_reps hk ys).imp_ (fun p cs hp => by rw [hp]; exact hM2 _ _ _ _)
theorem below_sort {w0 : World} (hB : Go.RowKit.Below w0.heap.size w0 W) (hg : w0.heap.size ≤ g) (m : Nat) (F : Array Value) (os : Array Obj) : Go.RowKit.Below w0.heap.size w0 (grow (putRow id (Go.Sort.ahead W m) g 0 F) os) :=
  ⟨hB.os, hB.tape, hB.output, Nat.le_trans hB.size (size_le m F os), fun i hi => (block_other (Nat.lt_of_lt_of_le hi hB.size) (by omega) m F os).trans (hB.block i hi)⟩
theorem kept_sort {P : Nat → Prop} (hg : P g) (m : Nat) (F : Array Value) (os : Array Obj) : Kept W (grow (putRow id (Go.Sort.ahead W m) g 0 F) os) P :=
  ⟨size_le m F os, fun _ hi hn => block_other hi (fun e => hn (e ▸ hg)) m F os⟩
end
end SortBridge
end Go.Proofs.Ytijeeghilogjdaa
