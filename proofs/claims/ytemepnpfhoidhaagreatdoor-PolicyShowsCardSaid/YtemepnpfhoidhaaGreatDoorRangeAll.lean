/-
  A range over a function whose iterator keeps its place in a cell of its own (block B0), each round of which goes on: what lies behind it.
  Conditions: the iterator's walk and the body's walk are premises.
-/
import Derived.RangeFuncNested
import Derived.RangeFuncBound
import Derived.RangeFuncCalls
import Derived.RangeFuncLeaves
import Derived.RangeFuncWrites
import Derived.WalkKit
namespace Go.Proofs.YtemepnpfhoidhaaGreatDoor
namespace RangeAll
open Go Go.RowKit
set_option linter.unusedVariables false
set_option linter.unusedSimpArgs false
variable {F : Fence} {n : Nat} {P : Program}
/-- The iterator's three cells stay. -/
def Same (B0 : Nat) (W W' : World) : Prop := ∀ k, B0 ≤ k → k ≤ B0 + 2 → W'.heap[k]? = W.heap[k]?
/-- The iterator's contract: it hands over all of xs, one by one, if each round goes on and leaves the iterator's cell. -/
def Hands {α : Type} (F : Fence) (n : Nat) (P : Program) (gf : Nat) (lb : Array Value) (encs : α → Array Value) (xs : List α) (B0 : Nat) (w0 : World) : Prop :=
  ∀ (l : Nat) (J : List α → World → Prop) (W : World), (∀ pre A v, J pre A → J pre (A.setCell ⟨B0, 0, none⟩ v)) →
    (∀ pre x W1, J pre W1 → (∃ t, xs = pre ++ x :: t) → YieldAt F (n - 1) P l (encs x) W1 fun e W' => e = .returned (.bool true) ∧ J (pre ++ [x]) W' ∧ Same B0 W1 W') →
    J [] W → Same B0 w0 W →
    CallsIn F n P gf (#[.func (.yield l) #[] #[]] ++ lb) W fun e W' => (∃ v, e = .returned v) ∧ J xs W'
/-- What a round's body leaves as it was: the records. -/
def Leaves (N : Nat) (W W' : World) : Prop := ∀ (k : Nat) (o : Obj), N ≤ k → W.heap[k]? = some o → o.isCells = false → W'.heap[k]? = some o
theorem Leaves.refl (N : Nat) (W : World) : Leaves N W W := fun _ _ _ h _ => h
theorem Leaves.trans {N : Nat} {A B C : World} (h : Leaves N A B) (k : Leaves N B C) : Leaves N A C := fun i o hi ho hc => k i o hi (h i o hi ho hc) hc
theorem Leaves.of_keeps {N : Nat} {W W' : World} (h : KeepsOthers W W') : Leaves N W W' := fun k o _ ho hc => h.same k o ho hc
theorem Leaves.setCell (N : Nat) (W : World) (a : Addr) (v : Value) : Leaves N W (W.setCell a v) := .of_keeps (.setCell W a v)
theorem Leaves.below {N M : Nat} {W W' : World} (h : Below M W W') (hM : W.heap.size ≤ M) : Leaves N W W' := fun k o _ ho _ => (h.block k (Nat.lt_of_lt_of_le (Array.getElem?_eq_some_iff.1 ho).1 hM)).trans ho
set_option maxHeartbeats 4000000 in
theorem range {α : Type} {g : Operand} {ps : Array Tmp} {assign body : Code} {Q : Exit → Act → World → Prop} {a : Act} {w : World}
    (hro : F.round = none) (h1 : 1 ≤ n) {gf : Nat} {lb : Array Value} (hg : a.eval g = .func (.func gf) #[] lb) (hFg : F.fn gf) (eg : ∀ args w, (callFunc gf args).run P w = .ok (.enter gf args) w)
    {encs : α → Array Value} (hps : ∀ x, (encs x).size = ps.size) {xs : List α} {B0 : Nat} (hBlt : B0 + 2 < w.heap.size) (hseq : Hands F (n - 1) P gf lb encs xs B0 w)
    (I : List α → World → Prop) (hIa : ∀ pre W o, I pre W → I pre (W.alloc o)) (hIp : ∀ pre W l o o', I pre W → w.heap.size ≤ l → W.heap[l]? = some o → o.isCells = false → I pre (W.putObj l o'))
    (hIs : ∀ pre A v, I pre A → I pre (A.setCell ⟨B0, 0, none⟩ v)) (h0 : I [] w) (a₁ : α → Act)
    (hassign : ∀ (l : Nat) (x : α) (W : World) (K : Act → World → Prop), K (a₁ x) W →
      assign.wpIn (F.inRound l) (n - 1 - 1) P (Exit.then K (fun _ _ _ => False)) { tmps := (ps.zip (encs x)).foldl (fun t (p, v) => t.setIfInBounds p v) a.tmps, defers := [] } W)
    (hbody : ∀ (l : Nat) (pre : List α) (x : α) (W : World), I pre W → (∃ t, xs = pre ++ x :: t) → body.wpIn (F.inRound l) (n - 1 - 1) P (fun e _ W' => e = .normal ∧ Leaves w.heap.size W W' ∧ Same B0 W W' ∧ I (pre ++ [x]) W') (a₁ x) W)
    (hdone : ∀ (D : Nat) (W : World), w.heap.size ≤ D → I xs W → W.heap[D]? = some (.deferred (some [])) → Q .normal { a with defers := { target := .collected D, args := #[] } :: a.defers } W) :
    (Code.rangeFunc g ps assign body).wpIn F n P Q a w := by
  refine wpIn_rangeFunc ?_
  intro fn hfn
  rw [hro]
  obtain ⟨rec, hrec⟩ : ∃ rec : LoopState → Option Code → Loop, rec = fun st pe => { state := st, pending := pe, fn, tmps := a.tmps, params := ps, assign, body, defers := w.heap.size } := ⟨_, rfl⟩
  obtain ⟨W1, hW1⟩ : ∃ W1, (w.alloc (.deferred (some []))).alloc (.loop (rec .ready none)) = W1 := ⟨_, rfl⟩
  have hL1 : W1.heap[w.heap.size + 1]? = some (.loop (rec .ready none)) := by
    rw [← hW1]
    have := World.alloc_heap_new (w.alloc (.deferred (some []))) (.loop (rec .ready none))
    rwa [World.size_alloc] at this
  have hK1 : W1.heap[w.heap.size]? = some (.deferred (some [])) := by
    rw [← hW1]
    exact (Below.heap_alloc _ _ _ (by simp)).trans (World.alloc_heap_new w _)
  have hO1 : Same B0 w W1 := fun k _ hk => by
    rw [← hW1]
    exact (Below.heap_alloc _ _ _ (by simp; omega)).trans (Below.heap_alloc _ _ _ (by omega))
  have hI1 : I [] W1 := by
    rw [← hW1]
    exact hIa _ _ _ (hIa _ _ _ h0)
  have hwith := hseq (w.heap.size + 1) (fun pre W => I pre W ∧ W.heap[w.heap.size + 1]? = some (.loop (rec .ready none)) ∧ W.heap[w.heap.size]? = some (.deferred (some []))) W1
    (fun pre A v h => ⟨hIs pre A v h.1, (Below.heap_setCell A _ v _ (by show w.heap.size + 1 ≠ B0; omega)).trans h.2.1, (Below.heap_setCell A _ v _ (by show w.heap.size ≠ B0; omega)).trans h.2.2⟩) ?_ ⟨hI1, hL1, hK1⟩ hO1
  · refine ⟨w.heap.size + 1, [{ target := .collected w.heap.size, args := #[] }], W1, { target := .fn (.func gf) lb, args := #[.func (.yield (w.heap.size + 1)) #[] #[]] }, W1, gf,
      #[.func (.yield (w.heap.size + 1)) #[] #[]] ++ lb, W1, ?_, ?_, ?_, ?_, fun _ => h1, ?_⟩
    · rw [← hW1, hrec]
      exact run_enterLoop_outer _ _ _ _ _
    · simp only [resolve, hg]
      simp [go_sem]
    · intro f' hf'
      simp [Target.leads] at hf'
      subst hf'
      exact hFg
    · simp [invoke, go_sem, eg]
    · refine hwith.mono ?_
      rintro e W2 ⟨⟨v, rfl⟩, hi, hl, hk⟩
      have he := run_endLoop (P := P) hl (by rw [hrec]; simp)
      rw [hrec] at he
      exact ⟨none, _, he, hdone _ _ (Nat.le_refl _) (hIp _ _ _ _ _ hi (by omega) hl rfl) ((World.putObj_heap_other (by omega)).trans hk)⟩
  · rintro pre x W ⟨hi, hl, hk⟩ ht
    have hlt : w.heap.size + 1 < W.heap.size := (Array.getElem?_eq_some_iff.1 hl).1
    have hy := run_yield (P := P) (args := encs x) hl (by rw [hrec]; exact hps x)
    rw [hrec] at hy
    refine ⟨fn, _, assign, body, hy, roundIn_of_wpIn hfn (hassign _ x W _ ⟨_, run_beginRound hl (by rw [hrec]), ?_⟩)⟩
    have hl2 : (W.putObj (w.heap.size + 1) (.loop { rec .ready none with state := .busy })).heap[w.heap.size + 1]? = some (.loop { rec .ready none with state := .busy }) := World.putObj_heap_same hlt
    have hk2 : (W.putObj (w.heap.size + 1) (.loop { rec .ready none with state := .busy })).heap[w.heap.size]? = some (.deferred (some [])) := (World.putObj_heap_other (by omega)).trans hk
    refine wpIn_mono (hbody _ pre x _ (hIp _ _ _ _ _ hi (by omega) hl rfl) ht) ?_
    rintro e a3 W3 ⟨rfl, hlv, hsame, hi3⟩
    have hl3 := hlv _ _ (by omega) hl2 rfl
    have hk3 := hlv _ _ (Nat.le_refl _) hk2 rfl
    have hr := run_endRound (P := P) none hl3
    rw [hrec] at hr hl3
    refine ⟨_, _, hr, rfl, ⟨hIp _ _ _ _ _ hi3 (by omega) hl3 rfl, ?_, (World.putObj_heap_other (by omega)).trans hk3⟩, ?_⟩
    · rw [World.putObj_heap_same (Array.getElem?_eq_some_iff.1 hl3).1, hrec]
      rfl
    · intro k hk1 hk2
      rw [World.putObj_heap_other (by omega), hsame k hk1 hk2, World.putObj_heap_other (by omega)]
end RangeAll
end Go.Proofs.YtemepnpfhoidhaaGreatDoor
