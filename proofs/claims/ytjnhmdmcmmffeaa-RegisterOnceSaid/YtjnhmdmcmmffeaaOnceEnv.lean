/-
  What RegisterOnce's memory holds, and what a step of it keeps.
  Conditions: none.
-/
import Derived.Test.YtjnhmdmcmmffeaaOncePure
namespace Go.Proofs.Ytjnhmdmcmmffeaa.PAll
open Go.RowKit Go.Proofs.YtjnhmdmcmmffeaaW.PrintWords Go.Proofs.YtjnhmdmcmmffeaaW.PrintLast Go.Proofs.YtjnhmdmcmmffeaaW.PrintMore
set_option linter.unusedVariables false
set_option linter.unusedSimpArgs false
theorem info38 : (Try.prog.info? 38).map (fun i => (i.zero, i.size, i.bytes)) = some (some (.int .i64 0), 1, 8) := by kernel_rfl
theorem info42 : (Try.prog.info? 42).map (fun i => (i.zero, i.size, i.bytes)) = some (some (.agg #[(.int .u64 0), (.int .u64 0), (.int .u64 0), (.int .u64 0), (.int .i64 0)]), 5, 40) := by kernel_rfl
theorem info24 : (Try.prog.info? 24).map (fun i => (i.zero, i.size, i.bytes)) = some (some (.agg #[(.int .u64 0), (.int .u64 0)]), 2, 16) := by kernel_rfl
abbrev KI : Kd Int := Kd.int .i64
/-- The registers, what was chosen, and the box of what was seen. -/
structure Env (w W : World) (v5 v6 : Value) (L : List S42) (cs : List Int) (g7 : Nat) (s0 s1 : Int) : Prop where
  r5 : Kd.R k42 42 W w.heap.size (fun _ => True) v5 L
  r6 : Kd.R KI 38 W w.heap.size (fun _ => True) v6 cs
  b7 : W.heap[g7]? = some (.cells #[.int .u64 s0, .int .u64 s1] 24 (0, 0))
  ge : w.heap.size ≤ g7
  hb : Below w.heap.size w W
/-- The boxes of one try: who was asked, the try itself, its ballot, the best that was told. -/
structure Inn (w W : World) (v12 : Value) (ak : List Int) (g9 : Nat) (c9 : Array Value) (g10 : Nat) (b0 b1 : Int) (g13 : Nat) (e0 e1 : Int) : Prop where
  r12 : Kd.R KI 3 W w.heap.size (fun _ => True) v12 ak
  b9 : W.heap[g9]? = some (.cells c9 69 (0, 0))
  b10 : W.heap[g10]? = some (.cells #[.int .u64 b0, .int .u64 b1] 24 (0, 0))
  b13 : W.heap[g13]? = some (.cells #[.int .u64 e0, .int .u64 e1] 24 (0, 0))
  ge : w.heap.size ≤ g9 ∧ w.heap.size ≤ g10 ∧ w.heap.size ≤ g13
  ne : g10 ≠ g13
variable {w W W' : World} {v5 v6 v12 : Value} {L : List S42} {cs ak : List Int} {g7 g9 g10 g13 g : Nat} {s0 s1 b0 b1 e0 e1 : Int} {c9 : Array Value}
theorem Env.below (h : Env w W v5 v6 L cs g7 s0 s1) (hb : Below W.heap.size W W') : Env w W' v5 v6 L cs g7 s0 s1 :=
  ⟨Kd.R_below h.r5 hb, Kd.R_below h.r6 hb, blk_below h.b7 hb, h.ge, below_then h.hb h.hb.size hb⟩
theorem Inn.below (h : Inn w W v12 ak g9 c9 g10 b0 b1 g13 e0 e1) (hb : Below W.heap.size W W') : Inn w W' v12 ak g9 c9 g10 b0 b1 g13 e0 e1 :=
  ⟨Kd.R_below h.r12 hb, blk_below h.b9 hb, blk_below h.b10 hb, blk_below h.b13 hb, h.ge, h.ne⟩
/-- Two cells of a box are written. -/
theorem keep2 (W : World) (g : Nat) (u v : Value) : KeepBut W ((W.setCell ⟨g, 0, none⟩ u).setCell ⟨g, 1, none⟩ v) g none := ((KeepBut.refl W g none).set_ 0 u).set_ 1 v
theorem put2 {t : Nat} {u v u' v' : Value} (h : W.heap[g]? = some (.cells #[u, v] t (0, 0))) : ((W.setCell ⟨g, 0, none⟩ u').setCell ⟨g, 1, none⟩ v').heap[g]? = some (.cells #[u', v'] t (0, 0)) :=
  blk_put (cs := #[u', v]) (blk_put (cs := #[u, v]) h 0 u' rfl) 1 v' rfl
theorem Env.keep (h : Env w W v5 v6 L cs g7 s0 s1) (hk : KeepBut W W' g none) {t : Nat} {cells : Array Value} (hB : W.heap[g]? = some (.cells cells t (0, 0))) (h5 : 42 ≠ t) (h6 : 38 ≠ t) (hne : g7 ≠ g) (hb : Below w.heap.size w W') : Env w W' v5 v6 L cs g7 s0 s1 :=
  ⟨Kd.R_mono (Kd.R_keep (Kd.R_types h.r5 hB (by intro q hq; have hq2 : q ∈ [42] := hq; rw [List.mem_singleton.1 hq2]; exact h5)) hk (fun _ hk => hk.2)) (fun _ _ => trivial),
   Kd.R_mono (Kd.R_keep (Kd.R_types h.r6 hB (by intro q hq; have hq2 : q ∈ [38] := hq; rw [List.mem_singleton.1 hq2]; exact h6)) hk (fun _ hk => hk.2)) (fun _ _ => trivial),
   hk.blk h.b7 hne (by simp), h.ge, hb⟩
theorem Env.put7 (h : Env w W v5 v6 L cs g7 s0 s1) (t0 t1 : Int) : Env w ((W.setCell ⟨g7, 0, none⟩ (.int .u64 t0)).setCell ⟨g7, 1, none⟩ (.int .u64 t1)) v5 v6 L cs g7 t0 t1 := by
  have hk := keep2 W g7 (.int .u64 t0) (.int .u64 t1)
  have hb : Below w.heap.size w ((W.setCell ⟨g7, 0, none⟩ (.int .u64 t0)).setCell ⟨g7, 1, none⟩ (.int .u64 t1)) := below_set (below_set h.hb h.ge) h.ge
  exact ⟨Kd.R_mono (Kd.R_keep (Kd.R_types h.r5 h.b7 (by decide)) hk (fun _ hk => hk.2)) (fun _ _ => trivial), Kd.R_mono (Kd.R_keep (Kd.R_types h.r6 h.b7 (by decide)) hk (fun _ hk => hk.2)) (fun _ _ => trivial), put2 h.b7, h.ge, hb⟩
theorem Inn.put7 (h : Inn w W v12 ak g9 c9 g10 b0 b1 g13 e0 e1) (e : Env w W v5 v6 L cs g7 s0 s1) (h1 : g7 ≠ g10) (h2 : g7 ≠ g13) (t0 t1 : Int) : Inn w ((W.setCell ⟨g7, 0, none⟩ (.int .u64 t0)).setCell ⟨g7, 1, none⟩ (.int .u64 t1)) v12 ak g9 c9 g10 b0 b1 g13 e0 e1 := by
  have hk := keep2 W g7 (.int .u64 t0) (.int .u64 t1)
  exact ⟨Kd.R_mono (Kd.R_keep (Kd.R_types h.r12 e.b7 (by decide)) hk (fun _ hk => hk.2)) (fun _ _ => trivial), hk.blk h.b9 (fun q => blk_ne h.b9 e.b7 (by decide) q) (by simp), hk.blk h.b10 (fun q => h1 q.symm) (by simp), hk.blk h.b13 (fun q => h2 q.symm) (by simp), h.ge, h.ne⟩
theorem Env.put13 (h : Env w W v5 v6 L cs g7 s0 s1) (i : Inn w W v12 ak g9 c9 g10 b0 b1 g13 e0 e1) (h2 : g7 ≠ g13) (t0 t1 : Int) : Env w ((W.setCell ⟨g13, 0, none⟩ (.int .u64 t0)).setCell ⟨g13, 1, none⟩ (.int .u64 t1)) v5 v6 L cs g7 s0 s1 :=
  h.keep (keep2 W g13 (.int .u64 t0) (.int .u64 t1)) i.b13 (by decide) (by decide) h2 (below_set (below_set h.hb i.ge.2.2) i.ge.2.2)
theorem Inn.put13 (h : Inn w W v12 ak g9 c9 g10 b0 b1 g13 e0 e1) (t0 t1 : Int) : Inn w ((W.setCell ⟨g13, 0, none⟩ (.int .u64 t0)).setCell ⟨g13, 1, none⟩ (.int .u64 t1)) v12 ak g9 c9 g10 b0 b1 g13 t0 t1 := by
  have hk := keep2 W g13 (.int .u64 t0) (.int .u64 t1)
  exact ⟨Kd.R_mono (Kd.R_keep (Kd.R_types h.r12 h.b13 (by decide)) hk (fun _ hk => hk.2)) (fun _ _ => trivial), hk.blk h.b9 (fun q => blk_ne h.b9 h.b13 (by decide) q) (by simp), hk.blk h.b10 h.ne (by simp), put2 h.b13, h.ge, h.ne⟩
/-- A register is written. -/
def putReg (W : World) (g i : Nat) (y : S42) : World := ((((W.setCell ⟨g, i * 5, none⟩ (.int .u64 y.f0.f0)).setCell ⟨g, i * 5 + 1, none⟩ (.int .u64 y.f0.f1)).setCell ⟨g, i * 5 + 2, none⟩ (.int .u64 y.f1.f0)).setCell ⟨g, i * 5 + 3, none⟩ (.int .u64 y.f1.f1)).setCell ⟨g, i * 5 + 4, none⟩ (.int .i64 y.f2)
theorem regs_put {base n cap : Nat} (h : Kd.R k42 42 W base (fun _ => True) (.slice (some ⟨g, 0, none⟩) n cap) L) (i : Nat) (hi : i < n) (y : S42) :
    Kd.R k42 42 (putReg W g i y) base (fun _ => True) (.slice (some ⟨g, 0, none⟩) n cap) (L.set i y) ∧ W.grownBy (putReg W g i y) (some g) := by
  obtain ⟨c, hcl, _, hcc, _⟩ := Kd.R_elem h z42 (i : Int) (by omega) (by omega)
  have := Kd.R_seg h (i : Int) (by omega) (by omega) (seg := [.int .u64 y.f0.f0, .int .u64 y.f0.f1, .int .u64 y.f1.f0, .int .u64 y.f1.f1, .int .i64 y.f2]) (j := 0) hcl hcc (show 5 ≤ 5 from by decide) (x' := y)
    (okp := fun _ => False) (by
      have e : c.take 0 ++ [Value.int .u64 y.f0.f0, .int .u64 y.f0.f1, .int .u64 y.f1.f0, .int .u64 y.f1.f1, .int .i64 y.f2] ++ c.drop (0 + 5) = [Value.int .u64 y.f0.f0, .int .u64 y.f0.f1, .int .u64 y.f1.f0, .int .u64 y.f1.f1, .int .i64 y.f2] := by
        have : c.drop (0 + 5) = [] := List.drop_eq_nil_of_le (by rw [hcl]; decide)
        rw [this]; simp
      have hM := k42_mkM W base (fun _ => False) y
      rw [← e] at hM
      exact hM) (fun _ hk => hk.elim)
  exact this
theorem Env.reg {n cap : Nat} (h : Env w W (.slice (some ⟨g, 0, none⟩) n cap) v6 L cs g7 s0 s1) (i : Nat) (hi : i < n) (y : S42) : Env w (putReg W g i y) (.slice (some ⟨g, 0, none⟩) n cap) v6 (L.set i y) cs g7 s0 s1 := by
  obtain ⟨h1, h2⟩ := regs_put h.r5 i hi y
  have hg : w.heap.size ≤ g := Kd.R_base h.r5 g rfl
  exact ⟨h1, Kd.R_over h.r6 h.r5 (by decide) h2, blk_grown h.b7 h2 (fun q => Kd.R_ne h.r5 h.b7 (by decide) q), h.ge, below_set (below_set (below_set (below_set (below_set h.hb hg) hg) hg) hg) hg⟩
theorem Inn.reg {n cap : Nat} (i : Inn w W v12 ak g9 c9 g10 b0 b1 g13 e0 e1) (h : Env w W (.slice (some ⟨g, 0, none⟩) n cap) v6 L cs g7 s0 s1) (k : Nat) (hi : k < n) (y : S42) : Inn w (putReg W g k y) v12 ak g9 c9 g10 b0 b1 g13 e0 e1 := by
  obtain ⟨h1, h2⟩ := regs_put h.r5 k hi y
  exact ⟨Kd.R_over i.r12 h.r5 (by decide) h2, blk_grown i.b9 h2 (fun q => Kd.R_ne h.r5 i.b9 (by decide) q), blk_grown i.b10 h2 (fun q => Kd.R_ne h.r5 i.b10 (by decide) q), blk_grown i.b13 h2 (fun q => Kd.R_ne h.r5 i.b13 (by decide) q), i.ge, i.ne⟩
/-- A row of whole numbers is appended to. -/
theorem Env.grown (h : Env w W v5 v6 L cs g7 s0 s1) {base : Nat} {ok : Nat → Prop} (hr : Kd.R KI 3 W base ok v12 ak) (hg : W.grownBy W' v12.ownBlock) (hb : Below w.heap.size w W') : Env w W' v5 v6 L cs g7 s0 s1 :=
  ⟨Kd.R_over h.r5 hr (by decide) hg, Kd.R_over h.r6 hr (by decide) hg, blk_grown h.b7 hg (fun q => Kd.R_ne hr h.b7 (by decide) q), h.ge, hb⟩
theorem Inn.grown {v12' : Value} {ak' : List Int} (h : Inn w W v12 ak g9 c9 g10 b0 b1 g13 e0 e1) (hr : Kd.R KI 3 W' w.heap.size (fun _ => True) v12' ak') (hg : W.grownBy W' v12.ownBlock) : Inn w W' v12' ak' g9 c9 g10 b0 b1 g13 e0 e1 :=
  ⟨hr, blk_grown h.b9 hg (fun q => Kd.R_ne h.r12 h.b9 (by decide) q), blk_grown h.b10 hg (fun q => Kd.R_ne h.r12 h.b10 (by decide) q), blk_grown h.b13 hg (fun q => Kd.R_ne h.r12 h.b13 (by decide) q), h.ge, h.ne⟩
theorem Env.chosen {v6' : Value} {cs' : List Int} (h : Env w W v5 v6 L cs g7 s0 s1) (hr : Kd.R KI 38 W' w.heap.size (fun _ => True) v6' cs') (hg : W.grownBy W' v6.ownBlock) (hb : Below w.heap.size w W') : Env w W' v5 v6' L cs' g7 s0 s1 :=
  ⟨Kd.R_over h.r5 h.r6 (by decide) hg, hr, blk_grown h.b7 hg (fun q => Kd.R_ne h.r6 h.b7 (by decide) q), h.ge, hb⟩
/-- What stands between two tries. -/
structure Good (n i : Nat) (L : List S42) (cs : List Int) (s0 s1 : Int) : Prop where
  len : L.length = n
  ok : ∀ x ∈ L, OkS i x
  seen : 0 ≤ s0 ∧ s0 ≤ i ∧ In64 s1
  inv : Paxos.Inv n (stOf L) cs
  few : cs.length ≤ i
theorem good_start (n : Nat) : Good n 0 (List.replicate n z42) [] 0 0 := by
  refine ⟨List.length_replicate, fun x hx => ?_, ⟨by omega, by omega, by unfold In64; omega⟩, ?_, Nat.le_refl _⟩
  · rw [(List.mem_replicate.1 hx).2]; exact z42_ok 0
  · have e : stOf (List.replicate n z42) = fun _ => ⟨0, 0, 0⟩ := by
      funext k
      unfold stOf
      have : (List.replicate n z42).getD k z42 = z42 := by
        rw [List.getD_eq_getElem?_getD, List.getElem?_replicate]
        split <;> rfl
      rw [this]; rfl
    rw [e]; exact Paxos.start n
theorem Good.skip {n i : Nat} {s0 s1 : Int} (h : Good n i L cs s0 s1) : Good n (i + 1) L cs s0 s1 :=
  ⟨h.len, fun x hx => (h.ok x hx).up (Nat.le_succ i), ⟨h.seen.1, by have := h.seen.2.1; omega, h.seen.2.2⟩, h.inv, Nat.le_succ_of_le h.few⟩
/-- What stands between two asks. -/
structure Mid (n i : Nat) (L L' : List S42) (b0 b1 t0 t1 : Int) (ak : List Int) (e0 e1 v want : Int) (j : Nat) : Prop where
  len : L'.length = n
  ok : ∀ y ∈ L', OkS (i + 1) y
  seen : 0 ≤ t0 ∧ t0 ≤ i + 1 ∧ In64 t1
  best : In64 e0 ∧ In64 e1
  inv : Paxos.Asks n (stOf L) (stOf L') (ky b0 b1) want ak (ky e0 e1) v
  few : ak.length ≤ j
theorem Mid.start {n i : Nat} {L : List S42} {cs : List Int} {s0 s1 b0 b1 t0 t1 want : Int} (h : Good n i L cs s0 s1) (h0 : 0 ≤ t0) (h1 : t0 ≤ i + 1) (h2 : In64 t1) : Mid n i L L b0 b1 t0 t1 [] 0 0 want want 0 :=
  ⟨h.len, fun y hy => (h.ok y hy).up (Nat.le_succ i), ⟨h0, h1, h2⟩, ⟨by unfold In64; omega, by unfold In64; omega⟩, Paxos.Asks.init _ _ _ _, Nat.le_refl _⟩
theorem Mid.skip {n i j : Nat} {L L' : List S42} {b0 b1 t0 t1 e0 e1 v want : Int} {ak : List Int} (h : Mid n i L L' b0 b1 t0 t1 ak e0 e1 v want j) : Mid n i L L' b0 b1 t0 t1 ak e0 e1 v want (j + 1) :=
  ⟨h.len, h.ok, h.seen, h.best, h.inv, Nat.le_succ_of_le h.few⟩
theorem keepB {W : World} {g g' t : Nat} {u v : Value} {cells : Array Value} (h : W.heap[g']? = some (.cells cells t (0, 0))) (hne : g' ≠ g) : ((W.setCell ⟨g, 0, none⟩ u).setCell ⟨g, 1, none⟩ v).heap[g']? = some (.cells cells t (0, 0)) :=
  (keep2 W g u v).blk h hne (by simp)
/-- A register's cells. -/
theorem Env.cells5 {n cap : Nat} (h : Env w W (.slice (some ⟨g, 0, none⟩) n cap) v6 L cs g7 s0 s1) (i : Nat) (hi : i < n) :
    W.cell? ⟨g, i * 5, none⟩ = some (.int .u64 (L.getD i z42).f0.f0) ∧ W.cell? ⟨g, i * 5 + 1, none⟩ = some (.int .u64 (L.getD i z42).f0.f1) ∧ W.cell? ⟨g, i * 5 + 2, none⟩ = some (.int .u64 (L.getD i z42).f1.f0) ∧ W.cell? ⟨g, i * 5 + 3, none⟩ = some (.int .u64 (L.getD i z42).f1.f1) ∧ W.cell? ⟨g, i * 5 + 4, none⟩ = some (.int .i64 (L.getD i z42).f2) := by
  obtain ⟨ce, hcl, hM, hcc, hfr⟩ := Kd.R_elem h.r5 z42 (i : Int) (by omega) (by omega)
  obtain rfl := k42_openM hM
  exact ⟨hcc 0 _ rfl, hcc 1 _ rfl, hcc 2 _ rfl, hcc 3 _ rfl, hcc 4 _ rfl⟩
theorem Env.free5 {n cap : Nat} (h : Env w W (.slice (some ⟨g, 0, none⟩) n cap) v6 L cs g7 s0 s1) (i : Nat) (hi : i < n) (j : Nat) : W.frozen? ⟨g, i * 5 + j, none⟩ = false := by
  obtain ⟨ce, hcl, hM, hcc, hfr⟩ := Kd.R_elem h.r5 z42 (i : Int) (by omega) (by omega)
  exact hfr j
/-- A box that stands beside all is written. -/
theorem Env.box {n cap t b : Nat} {cells : Array Value} (h : Env w W (.slice (some ⟨g, 0, none⟩) n cap) v6 L cs g7 s0 s1) (hk : KeepBut W W' b none) (hB : W.heap[b]? = some (.cells cells t (0, 0))) (hg : g ≠ b) (h7 : g7 ≠ b) (ht : 38 ≠ t) (hb : Below w.heap.size w W') : Env w W' (.slice (some ⟨g, 0, none⟩) n cap) v6 L cs g7 s0 s1 :=
  ⟨Kd.R_keep (Kd.R_mono (Kd.R_tight (d := k42) rfl h.r5) (ok' := fun k => k = g) (fun k hk => Option.some.inj (show some k = some g from hk))) hk (fun k hk => by rw [hk]; exact hg) |> fun r => Kd.R_mono r (fun _ _ => trivial),
   Kd.R_mono (Kd.R_keep (Kd.R_types h.r6 hB (by intro q hq; have hq2 : q ∈ [38] := hq; rw [List.mem_singleton.1 hq2]; exact ht)) hk (fun _ hk => hk.2)) (fun _ _ => trivial),
   hk.blk h.b7 h7 (by simp), h.ge, hb⟩
theorem Inn.box {t b : Nat} {cells : Array Value} (h : Inn w W v12 ak g9 c9 g10 b0 b1 g13 e0 e1) (hk : KeepBut W W' b none) (hB : W.heap[b]? = some (.cells cells t (0, 0))) (h9 : g9 ≠ b) (h10 : g10 ≠ b) (h13 : g13 ≠ b) (ht : 3 ≠ t) : Inn w W' v12 ak g9 c9 g10 b0 b1 g13 e0 e1 :=
  ⟨Kd.R_mono (Kd.R_keep (Kd.R_types h.r12 hB (by intro q hq; have hq2 : q ∈ [3] := hq; rw [List.mem_singleton.1 hq2]; exact ht)) hk (fun _ hk => hk.2)) (fun _ _ => trivial), hk.blk h.b9 h9 (by simp), hk.blk h.b10 h10 (by simp), hk.blk h.b13 h13 (by simp), h.ge, h.ne⟩
theorem keep5 (W : World) (g : Nat) (a b c d e : Value) : KeepBut W (((((W.setCell ⟨g, 0, none⟩ a).setCell ⟨g, 1, none⟩ b).setCell ⟨g, 2, none⟩ c).setCell ⟨g, 3, none⟩ d).setCell ⟨g, 4, none⟩ e) g none := (((((KeepBut.refl W g none).set_ 0 a).set_ 1 b).set_ 2 c).set_ 3 d).set_ 4 e
theorem put5 {t : Nat} {a b c d e a' b' c' d' e' : Value} (h : W.heap[g]? = some (.cells #[a, b, c, d, e] t (0, 0))) : (((((W.setCell ⟨g, 0, none⟩ a').setCell ⟨g, 1, none⟩ b').setCell ⟨g, 2, none⟩ c').setCell ⟨g, 3, none⟩ d').setCell ⟨g, 4, none⟩ e').heap[g]? = some (.cells #[a', b', c', d', e'] t (0, 0)) :=
  blk_put (cs := #[a', b', c', d', e]) (blk_put (cs := #[a', b', c', d, e]) (blk_put (cs := #[a', b', c, d, e]) (blk_put (cs := #[a', b, c, d, e]) (blk_put (cs := #[a, b, c, d, e]) h 0 a' rfl) 1 b' rfl) 2 c' rfl) 3 d' rfl) 4 e' rfl
/-- What a register says to a prepare, and what of it is told. -/
theorem prep_told (y : S42) (b0 b1 : Int) : ∃ (q : S42) (rb : Bool) (p0 p1 pv : Int), register_Prepare.f 3 y.f0.f0 y.f0.f1 y.f1.f0 y.f1.f1 y.f2 b0 b1 = some (q.f0.f0, q.f0.f1, q.f1.f0, q.f1.f1, q.f2, rb) ∧ register_Answer.f q.f0.f0 q.f0.f1 q.f1.f0 q.f1.f1 q.f2 1 b0 b1 rb false = some (5, 1, b0, b1, p0, p1, pv, rb, [], [], []) ∧
    ((rb = true ∧ OkP y.f0.f0 y.f0.f1 b0 b1 ∧ q = ⟨⟨b0, b1⟩, y.f1, y.f2⟩ ∧ p0 = y.f1.f0 ∧ p1 = y.f1.f1 ∧ pv = y.f2) ∨ (rb = false ∧ ¬ OkP y.f0.f0 y.f0.f1 b0 b1 ∧ q = y ∧ p0 = y.f0.f0 ∧ p1 = y.f0.f1)) := by
  by_cases h : OkP y.f0.f0 y.f0.f1 b0 b1
  · exact ⟨⟨⟨b0, b1⟩, y.f1, y.f2⟩, true, _, _, _, prep_yes (Nat.le_refl _) h, answer_yes _ _ _ _ _ _ _, .inl ⟨rfl, h, rfl, rfl, rfl, rfl⟩⟩
  · exact ⟨y, false, _, _, _, prep_no (Nat.le_refl _) h, answer_no _ _ _ _ _ _ _, .inr ⟨rfl, h, rfl, rfl, rfl⟩⟩
theorem Env.lt5 {n cap : Nat} (h : Env w W (.slice (some ⟨g, 0, none⟩) n cap) v6 L cs g7 s0 s1) (hn : 1 ≤ n) : g < W.heap.size := Kd.R_lt h.r5 g rfl
theorem below_set5 (h : Below w.heap.size w W) (hg : w.heap.size ≤ g) (a b c d e : Value) : Below w.heap.size w (((((W.setCell ⟨g, 0, none⟩ a).setCell ⟨g, 1, none⟩ b).setCell ⟨g, 2, none⟩ c).setCell ⟨g, 3, none⟩ d).setCell ⟨g, 4, none⟩ e) := below_set (below_set (below_set (below_set (below_set h hg) hg) hg) hg) hg
theorem getD_mem {L : List S42} {x0 : Nat} (h : x0 < L.length) : L.getD x0 z42 ∈ L := by
  rw [List.getD_eq_getElem?_getD, List.getElem?_eq_getElem h]; exact List.getElem_mem h
theorem Mid.more {n i j x0 : Nat} {L L' : List S42} {cs : List Int} {y : S42} {b0 b1 t0 t1 e0 e1 v want s0 s1 : Int} {ak : List Int} (h : Mid n i L L' b0 b1 t0 t1 ak e0 e1 v want j) (G : Good n i L cs s0 s1) (hx0 : x0 < n) (hn : ¬ (x0 : Int) ∈ ak) (hy : L'.getD x0 z42 = y) (hok : OkP y.f0.f0 y.f0.f1 b0 b1) (hb0 : b0 ≤ i + 1) (hb1 : In64 b1) :
    Mid n i L (L'.set x0 ⟨⟨b0, b1⟩, y.f1, y.f2⟩) b0 b1 t0 t1 (ak ++ [(x0 : Int)]) (if y.f2 ≠ 0 ∧ lt2 e0 e1 y.f1.f0 y.f1.f1 then y.f1.f0 else e0) (if y.f2 ≠ 0 ∧ lt2 e0 e1 y.f1.f0 y.f1.f1 then y.f1.f1 else e1) (if y.f2 ≠ 0 ∧ lt2 e0 e1 y.f1.f0 y.f1.f1 then y.f2 else v) want (j + 1) := by
  have hlen := h.len
  have hyo : OkS (i + 1) y := by rw [← hy]; exact h.ok _ (getD_mem (by omega))
  have hst : stOf L' x0 = toRg y := by show toRg (L'.getD x0 z42) = _; rw [hy]
  have hk := h.inv.keeps x0 hx0
  have htv := G.inv.tv x0 hx0
  rw [← hk.1, ← hk.2.1, hst] at htv
  have hp : (stOf L' x0).p ≤ ky b0 b1 := by
    rw [hst]
    have := hok.2
    rw [ky_lt hb1 hyo.p1] at this
    show ky y.f0.f0 y.f0.f1 ≤ _
    omega
  have hbest : 0 ≤ ky e0 e1 := by
    rcases h.inv.told with ⟨e, _⟩ | ⟨e, _⟩ <;> omega
  have hm := h.inv.more hx0 hn hp (r' := stOf (L'.set x0 ⟨⟨b0, b1⟩, y.f1, y.f2⟩)) (by rw [stOf_set (by omega), hst]; rfl) (by rw [hst]; exact htv.2) (by rw [hst]; exact htv.1) hbest
  rw [hst] at hm
  have hlt : ky e0 e1 < (toRg y).t ↔ lt2 e0 e1 y.f1.f0 y.f1.f1 := (ky_lt h.best.2 hyo.t1).symm
  have hv : (toRg y).v = y.f2 := rfl
  rw [hv] at hm
  refine ⟨by rw [List.length_set]; exact h.len, set_ok h.ok ⟨⟨by have := hok.1; exact Int.le_of_lt this, hb0⟩, hb1, hyo.t0, hyo.t1⟩, h.seen, ?_, ?_, by rw [List.length_append, List.length_singleton]; have := h.few; omega⟩
  · split
    · exact ⟨hyo.t0, hyo.t1⟩
    · exact h.best
  · by_cases hc : y.f2 ≠ 0 ∧ lt2 e0 e1 y.f1.f0 y.f1.f1
    · have hc2 : y.f2 ≠ 0 ∧ ky e0 e1 < (toRg y).t := ⟨hc.1, hlt.2 hc.2⟩
      rw [if_pos hc2, if_pos hc2] at hm
      rw [if_pos hc, if_pos hc, if_pos hc]
      exact hm
    · have hc2 : ¬ (y.f2 ≠ 0 ∧ ky e0 e1 < (toRg y).t) := fun hh => hc ⟨hh.1, hlt.1 hh.2⟩
      rw [if_neg hc2, if_neg hc2] at hm
      rw [if_neg hc, if_neg hc, if_neg hc]
      exact hm
theorem Mid.not_ {n i j x0 : Nat} {L L' : List S42} {y : S42} {b0 b1 t0 t1 e0 e1 v want m0 m1 : Int} {ak : List Int} (h : Mid n i L L' b0 b1 t0 t1 ak e0 e1 v want j) (hx0 : x0 < n) (hy : L'.getD x0 z42 = y) (hm : (m0 = 0 ∧ m1 = 0) ∨ (m0 = t0 ∧ m1 = t1) ∨ (m0 = y.f0.f0 ∧ m1 = y.f0.f1)) :
    Mid n i L (L'.set x0 y) b0 b1 m0 m1 ak e0 e1 v want (j + 1) := by
  have hlen := h.len
  have hyo : OkS (i + 1) y := by rw [← hy]; exact h.ok _ (getD_mem (by omega))
  have e : L'.set x0 y = L' := by rw [← hy]; exact stOf_same (by omega)
  rw [e]
  refine ⟨h.len, h.ok, ?_, h.best, h.inv, Nat.le_succ_of_le h.few⟩
  rcases hm with ⟨rfl, rfl⟩ | ⟨rfl, rfl⟩ | ⟨rfl, rfl⟩
  · exact ⟨by omega, by omega, by unfold In64; omega⟩
  · exact h.seen
  · exact ⟨hyo.p0.1, hyo.p0.2, hyo.p1⟩
/-- Two boxes' stores. -/
theorem Env.put7b {n cap : Nat} (h : Env w W (.slice (some ⟨g, 0, none⟩) n cap) v6 L cs g7 s0 s1) (t0 t1 : Int) : Env w ((W.setCell ⟨g7, 0, none⟩ (.int .u64 t0)).setCell ⟨g7, 1, none⟩ (.int .u64 t1)) (.slice (some ⟨g, 0, none⟩) n cap) v6 L cs g7 t0 t1 := h.put7 t0 t1
/-- A try that ends behind its asks. -/
theorem Mid.stop {n i j : Nat} {L L' : List S42} {cs : List Int} {b0 b1 t0 t1 e0 e1 v want s0 s1 : Int} {ak : List Int} (h : Mid n i L L' b0 b1 t0 t1 ak e0 e1 v want j) (G : Good n i L cs s0 s1) : Good n (i + 1) L' cs t0 t1 :=
  ⟨h.len, fun x hx => h.ok x hx, ⟨h.seen.1, by have := h.seen.2.1; omega, h.seen.2.2⟩, h.inv.stop G.inv, Nat.le_succ_of_le G.few⟩
/-- What stands between two tells. -/
structure Tel (n i : Nat) (L' U : List S42) (b0 b1 v : Int) : Prop where
  len : U.length = n
  ok : ∀ y ∈ U, OkS (i + 1) y
  inv : Paxos.Tells n (stOf L') (stOf U) (ky b0 b1) v
theorem Tel.start {n i j : Nat} {L L' : List S42} {b0 b1 t0 t1 e0 e1 v want : Int} {ak : List Int} (h : Mid n i L L' b0 b1 t0 t1 ak e0 e1 v want j) : Tel n i L' L' b0 b1 v := ⟨h.len, h.ok, Paxos.Tells.init _ _ _ _⟩
/-- What a register says to an accept. -/
theorem acc_told (y : S42) (b0 b1 v : Int) : ∃ (q : S42) (rb : Bool), register_Accept.f 3 y.f0.f0 y.f0.f1 y.f1.f0 y.f1.f1 y.f2 b0 b1 v = some (q.f0.f0, q.f0.f1, q.f1.f0, q.f1.f1, q.f2, rb) ∧ ((OkP y.f0.f0 y.f0.f1 b0 b1 ∧ q = ⟨⟨b0, b1⟩, ⟨b0, b1⟩, v⟩) ∨ q = y) := by
  by_cases h : OkA y.f0.f0 y.f0.f1 y.f1.f0 y.f1.f1 y.f2 b0 b1 v
  · exact ⟨⟨⟨b0, b1⟩, ⟨b0, b1⟩, v⟩, true, acc_yes (Nat.le_refl _) h, .inl ⟨h.1, rfl⟩⟩
  · exact ⟨y, false, acc_no (Nat.le_refl _) h, .inr rfl⟩
theorem Tel.more {n i x0 : Nat} {L' U : List S42} {y q : S42} {b0 b1 v : Int} (h : Tel n i L' U b0 b1 v) (hx0 : x0 < n) (hy : U.getD x0 z42 = y) (hq : (OkP y.f0.f0 y.f0.f1 b0 b1 ∧ q = ⟨⟨b0, b1⟩, ⟨b0, b1⟩, v⟩) ∨ q = y) (hb0 : 0 ≤ b0 ∧ b0 ≤ i + 1) (hb1 : In64 b1) (hi : i ≤ 100) : Tel n i L' (U.set x0 q) b0 b1 v := by
  have hlen := h.len
  have hyo : OkS (i + 1) y := by rw [← hy]; exact h.ok _ (getD_mem (by omega))
  rcases hq with ⟨hok, rfl⟩ | rfl
  · refine ⟨by rw [List.length_set]; exact h.len, set_ok h.ok ⟨hb0, hb1, (show In64 b0 from by unfold In64; omega), hb1⟩, ?_⟩
    have hst : stOf U x0 = toRg y := by show toRg (U.getD x0 z42) = _; rw [hy]
    refine h.inv.more (x := x0) ?_ (by rw [stOf_set (by omega)]; rfl)
    rw [hst]
    have := hok.2
    rw [ky_lt hb1 hyo.p1] at this
    show ky y.f0.f0 y.f0.f1 ≤ _
    omega
  · have e : U.set x0 q = U := by rw [← hy]; exact stOf_same (by omega)
    rw [e]; exact h
/-- A whole try. -/
theorem Tel.stop {n i j : Nat} {L L' U : List S42} {cs : List Int} {b1 t0 t1 e0 e1 v want s0 s1 m : Int} {ak : List Int} (ht : Tel n i L' U (s0 + 1) b1 v) (h : Mid n i L L' (s0 + 1) b1 t0 t1 ak e0 e1 v want j) (G : Good n i L cs s0 s1) (hm : n < 2 * ak.length) (hb1 : In64 b1) (hu : ∀ k, k < L'.length → (stOf L' k).t ≠ ky (s0 + 1) b1) (hw : 1 ≤ want ∧ want ≤ 3)
    (hmost : (m = 0 ∧ ∀ t x, x ≠ 0 → 2 * Paxos.cnt U.length (fun k => decide ((stOf U k).t = t ∧ (stOf U k).v = x)) ≤ U.length) ∨ (m ≠ 0 ∧ ∃ t, U.length < 2 * Paxos.cnt U.length (fun k => decide ((stOf U k).t = t ∧ (stOf U k).v = m)))) :
    Good n (i + 1) U (if m = 0 then cs else cs ++ [m]) t0 t1 ∧ ∀ x ∈ (if m = 0 then cs else cs ++ [m]), ∀ y ∈ (if m = 0 then cs else cs ++ [m]), x = y := by
  have hl := h.len
  have hul := ht.len
  rw [hul] at hmost
  have hb : 0 < ky (s0 + 1) b1 := by
    have := G.seen.1
    unfold ky; unfold In64 at hb1; omega
  obtain ⟨h1, h2⟩ := ht.inv.stop G.inv h.inv hm hb (fun k hk => hu k (by omega)) (h.inv.verdict G.inv hw) m hmost
  refine ⟨⟨ht.len, ht.ok, ⟨h.seen.1, by have := h.seen.2.1; omega, h.seen.2.2⟩, h1, ?_⟩, h2⟩
  have := G.few
  split
  · omega
  · rw [List.length_append, List.length_singleton]; omega
theorem i64_small {x : Int} (h0 : 0 ≤ x) (h1 : x ≤ 1000000) : IntKind.i64.wrap x = x := by rw [i64_w]; exact wrap_small h0 h1
end Go.Proofs.Ytjnhmdmcmmffeaa.PAll
