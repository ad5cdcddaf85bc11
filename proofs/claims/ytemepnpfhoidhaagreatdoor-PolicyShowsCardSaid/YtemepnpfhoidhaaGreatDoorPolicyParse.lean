/-
  strings.SplitSeq's iterator, and policy.Parse of the lines of right rules.
  Conditions: the table of powers of ten as the program lays it.
-/
import Derived.Test.YtemepnpfhoidhaaGreatDoorPolicyLine
import Derived.Test.YtemepnpfhoidhaaGreatDoorRangeAll
import Derived.Shelf.Abstract
import Derived.Shelf.RegionOpen
import Derived.OwnWalkIn
import Derived.TacticsInMore
import Derived.LoopNIn
import Derived.LoopIn
import Derived.RangeFuncBox
import Derived.Maps.AppendAt
import Derived.Test.YtemepnpfhoidhaaGreatDoorPAllx1m
namespace Go.Proofs.YtemepnpfhoidhaaGreatDoor.PAll
open Go.RowKit Go.Lib Go.Sort Go.Proofs.YtemepnpfhoidhaaGreatDoorW.PrintWords Go.Proofs.YtemepnpfhoidhaaGreatDoorW.PrintLast Go.Proofs.YtemepnpfhoidhaaGreatDoorW.PrintMore
set_option linter.unusedVariables false
set_option linter.unusedSimpArgs false
attribute [local go_sem] Oper.semAt_some
/-- How long is the text in a cell? -/
def cellLen (W : World) (B : Nat) : Nat := match W.cell? ⟨B, 0, none⟩ with
  | some (.string s) => s.size
  | _ => 0
theorem cellLen_eq {W : World} {B : Nat} {s : ByteArray} {t : TypeId} (h : W.heap[B]? = some (.cells #[.string s] t (0, 0))) : cellLen W B = s.size := by
  have e : W.cell? ⟨B, 0, none⟩ = some (.string s) := (blk_cell h 0).trans rfl
  unfold cellLen
  rw [e]
set_option maxHeartbeats 8000000 in
set_option maxRecDepth 100000 in
theorem split_hands (n : Nat) (hn : 1 ≤ n) (c : UInt8) (xs : List ByteArray) (hne : xs ≠ []) (hx : ∀ x ∈ xs, c ∉ x.data.toList) (hlen : (joinB c xs).size ≤ 1000000) (B0 : Nat) (w0 : World)
    (h0 : w0.heap[B0]? = some (.cells #[.string (joinB c xs)] 9)) (h1 : w0.heap[B0 + 1]? = some (.cells #[.string ⟨#[c]⟩] 9)) (h2 : w0.heap[B0 + 2]? = some (.cells #[.int .i64 0] 3)) :
    RangeAll.Hands Fence.wide n Tryz.prog 61 #[.pointer (some ⟨B0 + 1, 0, none⟩), .pointer (some ⟨B0, 0, none⟩), .pointer (some ⟨B0 + 2, 0, none⟩)] (fun x : ByteArray => #[.string x]) xs B0 w0 := by
  intro l J W hJs hY hJ0 hS
  have HJS := Aside0.mk hJs
  have HY := Aside0.mk hY
  have HX := Aside0.mk hx
  have HL := Aside0.mk hlen
  have C0 := Aside0.mk ((hS B0 (Nat.le_refl _) (by omega)).trans h0)
  have C1 := Aside0.mk ((hS (B0 + 1) (by omega) (by omega)).trans h1)
  have C2 := Aside0.mk ((hS (B0 + 2) (by omega) (by omega)).trans h2)
  have HJ0 := Aside0.mk hJ0
  clear hJs hY hx hS h0 h1 h2 hJ0 hlen
  refine callsIn_of_wp Tryz.func61 rfl trivial ?_ rfl
  simp only [Tryz.ntmps61, List.size_toArray, List.length_cons, List.length_nil, Nat.reduceAdd, Nat.reduceSub, Array.replicate_succ, Array.replicate_zero, List.push_toArray, List.append_toArray, List.nil_append, List.cons_append]
  have hc1 : W.cell? ⟨B0 + 1, 0, none⟩ = some (.string ⟨#[c]⟩) := (blk_cell C1.out 0).trans rfl
  have hs1 : (ByteArray.mk #[c]).size = 1 := rfl
  gi_wp2
  gi_loopw [] (fun wr => ∃ (pre rest : List ByteArray), rest ≠ [] ∧ Aside0 (xs = pre ++ rest) ∧ Aside0 ((joinB c rest).size ≤ 1000000) ∧ Aside0 (J pre wr) ∧ Aside0 (wr.heap[B0]? = some (.cells #[.string (joinB c rest)] 9)) ∧ Aside0 (wr.heap[B0 + 1]? = some (.cells #[.string ⟨#[c]⟩] 9)) ∧ Aside0 (wr.heap[B0 + 2]? = some (.cells #[.int .i64 0] 3))) (fun wr => cellLen wr B0)
  case atStart => exact ⟨[], xs, hne, ⟨rfl⟩, HL, HJ0, C0, C1, C2⟩
  case round =>
    clear C0 C1 C2 HJ0 hc1
    obtain ⟨pre, rest, hr, HE, HTL, HJ, C0, C1, C2⟩ := hrel
    have hc0 : wr.cell? ⟨B0, 0, none⟩ = some (.string (joinB c rest)) := (blk_cell C0.out 0).trans rfl
    have hc1 : wr.cell? ⟨B0 + 1, 0, none⟩ = some (.string ⟨#[c]⟩) := (blk_cell C1.out 0).trans rfl
    have hc2 : wr.cell? ⟨B0 + 2, 0, none⟩ = some (.int .i64 0) := (blk_cell C2.out 0).trans rfl
    have hf0 := blk_frozen C0.out 0
    cases rest with
    | nil => exact absurd rfl hr
    | cons x t =>
      have hxc : c ∉ x.data.toList := HX.out x (by rw [HE.out]; simp)
      obtain ⟨fn, tmps, assign, body, hy, hR⟩ := HY.out pre x wr HJ.out ⟨t, HE.out⟩
      have HR := Aside0.mk hR
      clear hR
      cases t with
      | nil =>
        have hix : indexByte (joinB c [x]).data.toList c = -1 := idx_miss c _ hxc
        have HIX := Aside0.mk hix
        have hj1 : joinB c [x] = x := rfl
        rw [hj1] at hc0 HIX
        clear hix hxc hj1
        gi_wp2_with (refine ⟨trivial, ?_⟩; gi_at_call 39; refine (callsIn_wide.2 (strIndex x c _)).mono ?_; rintro e w' ⟨rfl, rfl⟩; rw [HIX.out])
        refine HR.out.mono ?_
        rintro e W3 ⟨rfl, hJ3, hS3⟩
        have HJ3 := Aside0.mk hJ3
        clear hJ3 hS3 hc0 hc1 hc2 hf0
        gi_wp2
        go_end0
        exact ⟨⟨_, rfl⟩, by rw [HE.out]; exact HJ3.out⟩
      | cons y t =>
        have hj1 : joinB c (x :: y :: t) = x ++ ⟨#[c]⟩ ++ joinB c (y :: t) := rfl
        have hix : indexByte (joinB c (x :: y :: t)).data.toList c = (x.size : Nat) := by
          rw [← indexB_one, hj1]
          exact idxB_hit x _ c hxc
        have HIX := Aside0.mk hix
        have HEL := Aside0.mk (ext_left x c (joinB c (y :: t)))
        have HER := Aside0.mk (ext_right x c (joinB c (y :: t)))
        have hsz : (joinB c (x :: y :: t)).size = x.size + 1 + (joinB c (y :: t)).size := by
          rw [hj1, ByteArray.size_append, ByteArray.size_append, hs1]
        rw [← hj1] at HEL HER
        have HSZ := Aside0.mk hsz
        generalize joinB c (x :: y :: t) = s at *
        clear hix hxc hj1 hsz
        have hlt : decide ((x.size : Int) < 0) = false := decide_eq_false (by omega)
        have hb0 : (0 : Int) ≤ (x.size : Int) := by omega
        have hb1 : (x.size : Int) ≤ (s.size : Int) := by have := HSZ.out; omega
        have hb2 : (x.size : Int) ≤ 1000000 := by have := HSZ.out; have := HTL.out; omega
        have hb3 : (x.size : Int) + 1 ≤ (s.size : Int) := by have := HSZ.out; omega
        have hel := HEL.out
        gi_wp2_with (refine ⟨trivial, ?_⟩; gi_at_call 39; refine (callsIn_wide.2 (strIndex s c _)).mono ?_; rintro e w' ⟨rfl, rfl⟩; rw [HIX.out])
        refine HR.out.mono ?_
        rintro e W3 ⟨rfl, hJ3, hS3⟩
        have D0 := Aside0.mk ((hS3 B0 (Nat.le_refl _) (by omega)).trans C0.out)
        have D1 := Aside0.mk ((hS3 (B0 + 1) (by omega) (by omega)).trans C1.out)
        have D2 := Aside0.mk ((hS3 (B0 + 2) (by omega) (by omega)).trans C2.out)
        have HJ3 := Aside0.mk hJ3
        clear hJ3 hS3 hc0 hc1 hc2 hf0 hel
        have hc0 : W3.cell? ⟨B0, 0, none⟩ = some (.string s) := (blk_cell D0.out 0).trans rfl
        have hc1 : W3.cell? ⟨B0 + 1, 0, none⟩ = some (.string ⟨#[c]⟩) := (blk_cell D1.out 0).trans rfl
        have hf0 := blk_frozen D0.out 0
        have her := HER.out
        gi_wp2
        go_roundw
        case rel => 
          refine ⟨pre ++ [x], y :: t, by simp, ⟨by rw [HE.out]; simp⟩, ⟨by have := HSZ.out; have := HTL.out; omega⟩, ⟨HJS.out _ _ _ HJ3.out⟩, ⟨?_⟩, ⟨?_⟩, ⟨?_⟩⟩
          · exact blk_put D0.out 0 _ (by simp)
          · exact blk_far D1.out (by simp) _
          · exact blk_far D2.out (by simp) _
        case measure =>
          have e1 : (W3.setCell ⟨B0, 0, none⟩ (.string (joinB c (y :: t)))).heap[B0]? = some (.cells #[.string (joinB c (y :: t))] 9) := blk_put D0.out 0 _ (by simp)
          rw [cellLen_eq e1, cellLen_eq C0.out]
          have := HSZ.out
          omega
-- [parse
theorem boxed_far {W : World} {B C : Nat} {t : TypeId} {v : Value} (h : Boxed W B t v) (hne : B ≠ C) (u : Value) : Boxed (W.setCell ⟨C, 0, none⟩ u) B t v := (Below.heap_setCell W _ u B hne).trans h
theorem box_on {W2 w1 : World} {o o2 : Obj} {v : Value} {B base e size k n : Nat} {t : TypeId} {u : Value} {xs : List Value} (h : Boxed W2 B t u) (hrow : W2.ownsRow base e size v k xs) (hte : t ≠ e) (hg : ((W2.alloc o).alloc o2).grownBy w1 v.ownBlock) (hne : B ≠ n) (v' : Value) : Boxed (w1.setCell ⟨n, 0, none⟩ v') B t u :=
  boxed_far (((h.alloc o).alloc o2).kept hg (h.not_row hte hrow)) hne v'
theorem cells_new1 (W : World) (o : Obj) (cs : List Value) (t : TypeId) (j : Nat) (u : Value) (h : cs[j]? = some u) : ((W.alloc o).alloc (.cells cs.toArray t)).cell? ((⟨W.heap.size + 1, 0, none⟩ : Addr).add j) = some u := by
  rw [Go.Lib.add_plain]
  have hb := heap_alloc_new (W.alloc o) (.cells cs.toArray t)
  rw [World.size_alloc] at hb
  rw [blk_cell hb (0 + j), Nat.zero_add]
  simpa using h
/-- strings.SplitSeq hands over its iterator. -/
theorem seq_calls (s : ByteArray) (c : UInt8) (w : World) :
    Calls Tryz.prog 23 #[.string s, .string ⟨#[c]⟩] w fun e w' => e = .returned (.func (.func 61) #[] #[.pointer (some ⟨w.heap.size + 1, 0, none⟩), .pointer (some ⟨w.heap.size, 0, none⟩), .pointer (some ⟨w.heap.size + 2, 0, none⟩)]) ∧
      w' = ((w.alloc (.cells #[.string s] 9)).alloc (.cells #[.string ⟨#[c]⟩] 9)).alloc (.cells #[.int .i64 0] 3) := by
  have key : Calls Tryz.prog 40 #[.string s, .string ⟨#[c]⟩, .int .i64 0] w fun e w' => e = .returned (.func (.func 61) #[] #[.pointer (some ⟨w.heap.size + 1, 0, none⟩), .pointer (some ⟨w.heap.size, 0, none⟩), .pointer (some ⟨w.heap.size + 2, 0, none⟩)]) ∧
      w' = ((w.alloc (.cells #[.string s] 9)).alloc (.cells #[.string ⟨#[c]⟩] 9)).alloc (.cells #[.int .i64 0] 3) := by
    go_enter Tryz.func40, Tryz.ntmps40
    go_wp2
    go_ret
    exact ⟨by simp, rfl⟩
  have K := Aside0.mk key
  clear key
  go_enter Tryz.func23, Tryz.ntmps23
  go_wp2_with (go_at_call 40; refine K.out.mono ?_; rintro e w' ⟨rfl, rfl⟩)
  go_ret
  exact ⟨rfl, rfl⟩
def flatR (rs : List S46) : List Value := rs.flatMap (fun r => [.bool r.f0, .string r.f1, .int .u64 r.f2, .string r.f3])
theorem reps_flat (w : World) (base : Nat) (ok : Nat → Prop) : ∀ rs : List S46, Reps (k46.M w base ok) 4 rs (flatR rs)
  | [] => Reps.none _ _
  | r :: rs => Reps.c4 (k46_mkM w base ok r) (reps_flat w base ok rs)
/-- What stands between two lines. -/
structure PI (w : World) (rs : List S46) (pre : List ByteArray) (W : World) : Prop where
  out : ∃ v, Boxed W w.heap.size 28 v ∧ W.ownsRow w.heap.size 46 4 v pre.length (flatR (rs.take pre.length))
  knd : Boxed W (w.heap.size + 1) 25 (.int .i64 0)
  b0 : ∃ u, Boxed W (w.heap.size + 2) 9 u
  b1 : Boxed W (w.heap.size + 3) 9 (.string ⟨#[10]⟩)
  b2 : Boxed W (w.heap.size + 4) 3 (.int .i64 0)
  bel : Below w.heap.size w W
theorem boxed_put {W : World} {B l : Nat} {t : TypeId} {v : Value} {o o' : Obj} (h : Boxed W B t v) (hl : W.heap[l]? = some o) (ho : o.isCells = false) : Boxed (W.putObj l o') B t v := by
  have hne : B ≠ l := by
    rintro rfl
    rw [show W.heap[B]? = _ from h] at hl
    cases hl
    cases ho
  exact (World.putObj_heap_other hne).trans h
theorem PI.alloc {w : World} {rs pre W} (h : PI w rs pre W) (o : Obj) : PI w rs pre (W.alloc o) := by
  obtain ⟨⟨v, hv, hr⟩, hk, ⟨u, h0⟩, h1, h2, hb⟩ := h
  exact ⟨⟨v, hv.alloc o, hr.alloc o⟩, hk.alloc o, ⟨u, h0.alloc o⟩, h1.alloc o, h2.alloc o, hb.alloc hb.size o⟩
theorem PI.putObj {w : World} {rs pre W} (h : PI w rs pre W) {l : Nat} {o : Obj} (o' : Obj) (hlt : w.heap.size ≤ l) (hl : W.heap[l]? = some o) (ho : o.isCells = false) : PI w rs pre (W.putObj l o') := by
  obtain ⟨⟨v, hv, hr⟩, hk, ⟨u, h0⟩, h1, h2, hb⟩ := h
  exact ⟨⟨v, boxed_put hv hl ho, ownsRow_putObj hr o' hl ho⟩, boxed_put hk hl ho, ⟨u, boxed_put h0 hl ho⟩, boxed_put h1 hl ho, boxed_put h2 hl ho, hb.grown (grownBy_putObj' W l o') hb.size (fun k e => by cases e; exact hlt)⟩
theorem PI.set {w : World} {rs pre W} (h : PI w rs pre W) (v' : Value) : PI w rs pre (W.setCell ⟨w.heap.size + 2, 0, none⟩ v') := by
  obtain ⟨⟨v, hv, hr⟩, hk, ⟨u, h0⟩, h1, h2, hb⟩ := h
  exact ⟨⟨v, boxed_far hv (by omega) _, hr.kept (grownBy_setCell' W _ v') (.inr (h0.not_row (by decide) hr).symm)⟩, boxed_far hk (by omega) _, ⟨_, h0.set v'⟩, boxed_far h1 (by omega) _, boxed_far h2 (by omega) _, hb.setCell (p := ⟨w.heap.size + 2, 0, none⟩) (by simp) v'⟩
set_option maxHeartbeats 8000000 in
set_option maxRecDepth 100000 in
theorem parse_lines (xs : List ByteArray) (rs : List S46) (hlen : xs.length = rs.length) (hne : xs ≠ []) (h16 : xs.length ≤ 16) (hx : ∀ x ∈ xs, (10 : UInt8) ∉ x.data.toList) (hsz : (joinB 10 xs).size ≤ 2048) (hem : (joinB 10 xs).toList.isEmpty = false) (w : World) (htab : Pow10 w)
    (hrule : ∀ (i : Nat) (x : ByteArray) (r : S46) (W : World), xs[i]? = some x → rs[i]? = some r → Pow10 W → Calls Tryz.prog 24 #[.string x] W fun e w' => e = .returned (.tuple #[.agg #[.bool r.f0, .string r.f1, .int .u64 r.f2, .string r.f3], .bool true]) ∧ Below W.heap.size W w') :
    Calls Tryz.prog 11 #[.string (joinB 10 xs)] w fun e w' => ∃ v, e = .returned (.tuple #[v, .int .i64 0]) ∧ Kd.R k46 46 w' w.heap.size (fun _ => True) v rs ∧ Below w.heap.size w w' := by
  have hj := (split_join 10 xs hne hx).1
  rw [countB_one] at hj
  have HJ := Aside0.mk (show (countByte (joinB 10 xs).data.toList 10 : Int) = (xs.length : Int) - 1 from by omega)
  have HS := Aside0.mk hsz
  have hh := split_hands 8 (by decide) 10 xs hne hx (by omega) (w.heap.size + 2)
  have HH := Aside0.mk hh
  have HRU := Aside0.mk hrule
  have HLE := Aside0.mk hlen
  have H16 := Aside0.mk h16
  have HT := Aside0.mk htab
  have hcb : (16 : Int) ≤ (xs.length : Int) - 1 → False := by omega
  have HCB := Aside0.mk hcb
  have hgb : decide (2048 < ((joinB 10 xs).size : Int)) = false := decide_eq_false (by omega)
  have hgc : decide ((16 : Int) ≤ (xs.length : Int) - 1) = false := decide_eq_false hcb
  generalize hs : joinB 10 xs = s at *
  clear hj hsz hh hrule hlen h16 htab hcb hx hne
  refine (callsIn_wide (n := 9)).1 ?_
  refine callsIn_of_wp_marks Tryz.func11 rfl trivial ?_ rfl
  simp only [Tryz.ntmps11, List.size_toArray, List.length_cons, List.length_nil, Nat.reduceAdd, Nat.reduceSub, Array.replicate_succ, Array.replicate_zero, List.push_toArray, List.append_toArray, List.nil_append, List.cons_append]
  gi_wp2_with (first | (refine ⟨trivial, ?_⟩; gi_at_call 22; refine (callsIn_wide.2 (strCount s 10 _)).mono ?_; rintro e w' ⟨rfl, rfl⟩; rw [HJ.out]) | (refine ⟨trivial, ?_⟩; gi_at_call 23; refine (callsIn_wide.2 (seq_calls s 10 _)).mono ?_; rintro e w' ⟨rfl, hw⟩))
  obtain ⟨W0, hW0⟩ : ∃ W0, (((((w.alloc (.cells #[.slice none 0 0] 28)).alloc (.cells #[.int .i64 0] 25)).alloc (.cells #[.string s] 9)).alloc (.cells #[.string ⟨#[10]⟩] 9)).alloc (.cells #[.int .i64 0] 3)) = W0 := ⟨_, rfl⟩
  have hsz0 : W0.heap.size = w.heap.size + 5 := by rw [← hW0]; simp
  have e0 : Boxed W0 w.heap.size 28 (.slice none 0 0) := by
    rw [← hW0]
    exact ((((Boxed.new w _ _).alloc _).alloc _).alloc _).alloc _
  have e1 : Boxed W0 (w.heap.size + 1) 25 (.int .i64 0) := by
    rw [← hW0]
    have := Boxed.new (w.alloc (.cells #[.slice none 0 0] 28)) 25 (.int .i64 0)
    rw [World.size_alloc] at this
    exact ((this.alloc _).alloc _).alloc _
  have e2 : Boxed W0 (w.heap.size + 2) 9 (.string s) := by
    rw [← hW0]
    have := Boxed.new ((w.alloc (.cells #[.slice none 0 0] 28)).alloc (.cells #[.int .i64 0] 25)) 9 (.string s)
    rw [World.size_alloc, World.size_alloc] at this
    exact (this.alloc _).alloc _
  have e3 : Boxed W0 (w.heap.size + 3) 9 (.string ⟨#[10]⟩) := by
    rw [← hW0]
    have := Boxed.new (((w.alloc (.cells #[.slice none 0 0] 28)).alloc (.cells #[.int .i64 0] 25)).alloc (.cells #[.string s] 9)) 9 (.string ⟨#[10]⟩)
    rw [World.size_alloc, World.size_alloc, World.size_alloc] at this
    exact this.alloc _
  have e4 : Boxed W0 (w.heap.size + 4) 3 (.int .i64 0) := by
    rw [← hW0]
    have := Boxed.new ((((w.alloc (.cells #[.slice none 0 0] 28)).alloc (.cells #[.int .i64 0] 25)).alloc (.cells #[.string s] 9)).alloc (.cells #[.string ⟨#[10]⟩] 9)) 3 (.int .i64 0)
    rw [World.size_alloc, World.size_alloc, World.size_alloc, World.size_alloc] at this
    exact this
  have hbW : Below w.heap.size w W0 := by
    rw [← hW0]
    exact below_alloc (below_alloc (below_alloc (below_alloc (below_alloc (Below.refl _ _) _) _) _) _) _
  rw [hW0] at hw ⊢
  have hPI : PI w rs [] W0 := ⟨⟨_, e0, World.ownsRow_nil _ _ _ _⟩, e1, ⟨_, e2⟩, e3, e4, hbW⟩
  clear hw hW0
  refine RangeAll.range (n := 9) rfl (by decide) (gf := 61) (lb := #[.pointer (some ⟨w.heap.size + 2 + 1, 0, none⟩), .pointer (some ⟨w.heap.size + 2, 0, none⟩), .pointer (some ⟨w.heap.size + 2 + 2, 0, none⟩)]) rfl trivial (enters_of Tryz.func61 (by kernel_rfl) rfl) (encs := fun x : ByteArray => #[Value.string x]) (fun _ => rfl) (xs := xs) (B0 := w.heap.size + 2) (by omega)
    (HH.out W0 e2 e3 e4) (fun pre W => PI w rs pre W) (fun pre W o h => h.alloc o) (fun pre W l o o' h hl hh ho => h.putObj o' (by omega) hh ho) (fun pre A v h => h.set v) hPI
    (fun x => { tmps := #[.string s, undef, .pointer (some ⟨w.heap.size, 0, none⟩), .pointer (some ⟨w.heap.size + 1, 0, none⟩), .string x, undef, undef, .string s, .int .i64 s.size, .bool false, .bool false, .string s, .int .i64 (xs.length - 1), .bool false, .bool false, .string s, .bool false, .string s, .func (.func 61) #[] #[.pointer (some ⟨w.heap.size + 2 + 1, 0, none⟩), .pointer (some ⟨w.heap.size + 2, 0, none⟩), .pointer (some ⟨w.heap.size + 2 + 2, 0, none⟩)], .string x, undef, undef, undef, undef, undef, undef, undef, undef, undef, undef, undef, undef], defers := [] }) ?assign ?body ?done
  case assign =>
    intro l x W K hK
    gi_wp2
    exact hK
  case body =>
    clear hPI hbW e0 e1 e2 e3 e4 HH
    rintro l pre x W hI ⟨t, ht⟩
    obtain ⟨⟨v, hv, hr⟩, hk, ⟨u, h0⟩, h1, h2, hb⟩ := hI
    have hlp : pre.length < xs.length := by rw [ht]; simp
    have hxi : xs[pre.length]? = some x := by rw [ht]; simp
    obtain ⟨r, hri⟩ : ∃ r, rs[pre.length]? = some r := ⟨_, List.getElem?_eq_getElem (by rw [← HLE.out]; exact hlp)⟩
    have HC := Aside0.mk (HRU.out pre.length x r W hxi hri (HT.out.below hb))
    have hfl : flatR (rs.take (pre.length + 1)) = flatR (rs.take pre.length) ++ [.bool r.f0, .string r.f1, .int .u64 r.f2, .string r.f3] := by
      rw [List.take_add_one, hri]
      simp [flatR]
    have HFL := Aside0.mk hfl
    have HLP := Aside0.mk hlp
    have HV := Aside0.mk hv
    have HR0 := Aside0.mk hr
    have HK := Aside0.mk hk
    have H0 := Aside0.mk h0
    have H1 := Aside0.mk h1
    have H2 := Aside0.mk h2
    have HB := Aside0.mk hb
    clear hfl hlp hxi hri hv hr hk h0 h1 h2 hb HRU ht
    gi_wp2_with fail
    refine ⟨trivial, ?_⟩
    refine (CallsIn.inRound l (callsIn_wide.2 HC.out)).mono ?_
    rintro e W2 ⟨rfl, hb2⟩
    have HV2 := Aside0.mk (show Boxed W2 _ _ _ from blk_below HV.out hb2)
    have HR2 := Aside0.mk (own_move HR0.out (fun k hk => hb2.block k (own_lt HR0.out k hk)))
    have HK2 := Aside0.mk (show Boxed W2 _ _ _ from blk_below HK.out hb2)
    have H02 := Aside0.mk (show Boxed W2 _ _ _ from blk_below H0.out hb2)
    have H12 := Aside0.mk (show Boxed W2 _ _ _ from blk_below H1.out hb2)
    have H22 := Aside0.mk (show Boxed W2 _ _ _ from blk_below H2.out hb2)
    have HB2 := Aside0.mk (below_step HB.out hb2)
    have HL2 := Aside0.mk (RangeAll.Leaves.below (N := w.heap.size + 5) hb2 (Nat.le_refl _))
    have HS2 := Aside0.mk (show RangeAll.Same (w.heap.size + 2) W W2 from fun k h1 h2 => hb2.block k (by have := HB.out.size; have := H2.out.lt; omega))
    clear hb2 HC
    have hcv := (HV2.out.alloc (Obj.cells #[Value.bool r.f0, Value.string r.f1, Value.int IntKind.u64 r.f2, Value.string r.f3] 46)).cell
    obtain ⟨i0, hi, hz0, hz1, hz2⟩ := info_parts info46
    gi_wp2_with (gi_at_builtin; refine wpListIn_append_own _ rfl _ _ 28 rfl w.heap.size 46 i0 (.agg #[(.bool false), (.string ⟨#[]⟩), (.int .u64 0), (.string ⟨#[]⟩)]) 4 48 Tryz.underlying28 hi hz0 hz1 hz2 rfl (by decide) _ _ _ rfl ((HR2.out.alloc _).alloc _) ⟨W2.heap.size + 1, 0, none⟩ 1 1 [Value.bool r.f0, Value.string r.f1, Value.int IntKind.u64 r.f2, Value.string r.f3] (by first | rfl | simp) rfl (fun j u hj => cells_new1 W2 _ _ _ j u hj) (by simp [Value.oneCell']) (by unfold maxLen; have := HLP.out; have := H16.out; omega) (by have := HLP.out; have := H16.out; omega) (by have := HB2.out.size; simp; omega) ?_; intro v' w1 hown' hgrow _; obtain ⟨g', cap', rfl⟩ := ownsRow_succ hown'; obtain ⟨hv1, hv2, hr2, hk2, hb2⟩ := (HV2.out.alloc _).appended (by decide) (HR2.out.alloc _) (by have := HB2.out.size; simp; omega) (Nat.le_refl _) hown' hgrow; have GG := Aside0.mk hgrow; have GV1 := Aside0.mk hv1; have GV2 := Aside0.mk hv2; have GR2 := Aside0.mk hr2; have GK2 := Aside0.mk hk2; have GB2 := Aside0.mk hb2; clear hv1 hv2 hr2 hk2 hb2 hown' hgrow; have hc1 := GV1.out.cell; have hf1 := GV1.out.frozen)
    have G0 := box_on H02.out HR2.out (by decide) GG.out (show w.heap.size + 2 ≠ w.heap.size by omega) (Value.slice (some ⟨g', 0, none⟩) (pre.length + 1) cap')
    have G1 := box_on H12.out HR2.out (by decide) GG.out (show w.heap.size + 3 ≠ w.heap.size by omega) (Value.slice (some ⟨g', 0, none⟩) (pre.length + 1) cap')
    have G2 := box_on H22.out HR2.out (by decide) GG.out (show w.heap.size + 4 ≠ w.heap.size by omega) (Value.slice (some ⟨g', 0, none⟩) (pre.length + 1) cap')
    have GK := box_on HK2.out HR2.out (by decide) GG.out (show w.heap.size + 1 ≠ w.heap.size by omega) (Value.slice (some ⟨g', 0, none⟩) (pre.length + 1) cap')
    refine ⟨(HL2.out.trans (.of_keeps (.alloc _ _))).trans (.of_keeps GK2.out), ?_, ⟨⟨_, GV2.out, ?_⟩, GK, ⟨_, G0⟩, G1, G2, ?_⟩⟩
    · intro k hk1 hk2
      obtain rfl | rfl | rfl : k = w.heap.size + 2 ∨ k = w.heap.size + 3 ∨ k = w.heap.size + 4 := by omega
      · exact (show _ = _ from G0).trans (show _ = _ from H0.out).symm
      · exact (show _ = _ from G1).trans (show _ = _ from H1.out).symm
      · exact (show _ = _ from G2).trans (show _ = _ from H2.out).symm
    · rw [List.length_append, List.length_singleton, HFL.out]
      exact GR2.out
    · exact (below_alloc HB2.out _).trans GB2.out
  case done =>
    clear hPI hbW e0 e1 e2 e3 e4 HH HRU
    rintro D W hD hI hK
    obtain ⟨⟨v, hv, hr⟩, hk, ⟨u, h0⟩, h1, h2, hb⟩ := hI
    obtain ⟨A, vn, vc, rfl⟩ : ∃ A n c, v = Value.slice A n c := by
      rcases hr.2 with ⟨rfl, _⟩ | ⟨g, cap, cur, rfl, _⟩
      · exact ⟨_, _, _, rfl⟩
      · exact ⟨_, _, _, rfl⟩
    have HV := Aside0.mk hv
    have HKN := Aside0.mk hk
    have HRR := Aside0.mk hr
    have HB := Aside0.mk hb
    have HD := Aside0.mk hD
    have HKD := Aside0.mk hK
    have hcv := hv.cell
    have hfv := hv.frozen
    have hck := hk.cell
    have hfk := hk.frozen
    clear hv hr hb hk h0 h1 h2 hD hK
    gi_wp2
    have hne0 := HV.out.not_row (by decide) HRR.out
    have hne1 := HKN.out.not_row (by decide) HRR.out
    have r1 := HRR.out.kept (grownBy_setCell' W w.heap.size (.slice A vn vc)) (.inr hne0.symm)
    have r2 := r1.kept (grownBy_setCell' _ (w.heap.size + 1) (.int .i64 0)) (.inr hne1.symm)
    have hdd : ((W.setCell ⟨w.heap.size, 0, none⟩ (.slice A vn vc)).setCell ⟨w.heap.size + 1, 0, none⟩ (.int .i64 0)).heap[D]? = some (.deferred (some [])) := by
      have := HD.out
      exact ((Below.heap_setCell _ _ _ D (by show D ≠ w.heap.size + 1; omega)).trans (Below.heap_setCell _ _ _ D (by show D ≠ w.heap.size; omega))).trans HKD.out
    have b0 : Boxed ((W.setCell ⟨w.heap.size, 0, none⟩ (.slice A vn vc)).setCell ⟨w.heap.size + 1, 0, none⟩ (.int .i64 0)) w.heap.size _ _ := boxed_far (HV.out.set _) (by omega) _
    have b1 : Boxed ((W.setCell ⟨w.heap.size, 0, none⟩ (.slice A vn vc)).setCell ⟨w.heap.size + 1, 0, none⟩ (.int .i64 0)) (w.heap.size + 1) _ _ := (boxed_far HKN.out (by omega) _).set _
    have hbb : Below w.heap.size w ((W.setCell ⟨w.heap.size, 0, none⟩ (.slice A vn vc)).setCell ⟨w.heap.size + 1, 0, none⟩ (.int .i64 0)) := below_set (below_set HB.out (Nat.le_refl _)) (by omega)
    clear r1 hcv hfv hck hfk
    generalize (W.setCell ⟨w.heap.size, 0, none⟩ (.slice A vn vc)).setCell ⟨w.heap.size + 1, 0, none⟩ (.int .i64 0) = W9 at r2 hdd b0 b1 hbb ⊢
    refine ⟨by simp, .inl ⟨_, _, rfl, run_takeDeferred hdd, ?_⟩⟩
    have c0 := (boxed_put (o' := .deferred none) b0 hdd rfl).cell
    have c1 := (boxed_put (o' := .deferred none) b1 hdd rfl).cell
    have r3 := ownsRow_putObj r2 (.deferred none) hdd rfl
    have hb9 : Below w.heap.size w (W9.putObj D (.deferred none)) := hbb.grown (grownBy_putObj' W9 D _) hbb.size (fun k e => by cases e; have := HD.out; omega)
    refine ⟨.tuple #[.slice A vn vc, .int .i64 0], by simp [results, Tryz.results11, go_sem, c0, c1], _, rfl, ⟨fun _ _ => trivial, flatR rs, ?_, reps_flat _ _ _ rs⟩, hb9⟩
    rw [HLE.out, List.take_length] at r3
    exact r3
-- parse]
end Go.Proofs.YtemepnpfhoidhaaGreatDoor.PAll
