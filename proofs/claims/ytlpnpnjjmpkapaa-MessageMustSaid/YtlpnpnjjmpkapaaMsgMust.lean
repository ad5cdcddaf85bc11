/-
  message.MustAsk, Caught and must, of an ask and of anything else; message.Packet and Trace of what is no thing.
  Conditions: none.
-/
import Derived.Test.YtlpnpnjjmpkapaaPAllx8
import Derived.Tactics2
import Derived.Defers
import Derived.Recover
namespace Go.Proofs.Ytlpnpnjjmpkapaa.PAll
open Go.RowKit Go.Proofs.YtlpnpnjjmpkapaaW.PrintWords Go.Proofs.YtlpnpnjjmpkapaaW.PrintLast Go.Proofs.YtlpnpnjjmpkapaaW.PrintMore
set_option linter.unusedVariables false
set_option linter.unusedSimpArgs false

theorem mp0 (W : World) : (Instr.typeAssert (.nilIface) 20 57 false).run Try.prog W = .halt (.panic (.iface 15 (.pointer (some ⟨W.heap.size, 0, none⟩)))) (W.alloc (.cells #[.pointer (some ⟨0, 20, none⟩), .pointer none, .pointer (some ⟨0, 57, none⟩), .string ⟨#[]⟩] 168 (0, 0))) := by kernel_rfl
theorem mp51 (x : Value) (W : World) : (Instr.typeAssert (.iface 51 x) 20 57 false).run Try.prog W = .halt (.panic (.iface 15 (.pointer (some ⟨W.heap.size, 0, none⟩)))) (W.alloc (.cells #[.pointer (some ⟨0, 20, none⟩), .pointer (some ⟨0, 51, none⟩), .pointer (some ⟨0, 57, none⟩), .string ⟨#[]⟩] 168 (0, 0))) := by kernel_rfl
theorem mp54 (x : Value) (W : World) : (Instr.typeAssert (.iface 54 x) 20 57 false).run Try.prog W = .halt (.panic (.iface 15 (.pointer (some ⟨W.heap.size, 0, none⟩)))) (W.alloc (.cells #[.pointer (some ⟨0, 20, none⟩), .pointer (some ⟨0, 54, none⟩), .pointer (some ⟨0, 57, none⟩), .string ⟨#[]⟩] 168 (0, 0))) := by kernel_rfl
theorem mp60 (x : Value) (W : World) : (Instr.typeAssert (.iface 60 x) 20 57 false).run Try.prog W = .halt (.panic (.iface 15 (.pointer (some ⟨W.heap.size, 0, none⟩)))) (W.alloc (.cells #[.pointer (some ⟨0, 20, none⟩), .pointer (some ⟨0, 60, none⟩), .pointer (some ⟨0, 57, none⟩), .string ⟨#[]⟩] 168 (0, 0))) := by kernel_rfl
theorem mp63 (x : Value) (W : World) : (Instr.typeAssert (.iface 63 x) 20 57 false).run Try.prog W = .halt (.panic (.iface 15 (.pointer (some ⟨W.heap.size, 0, none⟩)))) (W.alloc (.cells #[.pointer (some ⟨0, 20, none⟩), .pointer (some ⟨0, 63, none⟩), .pointer (some ⟨0, 57, none⟩), .string ⟨#[]⟩] 168 (0, 0))) := by kernel_rfl
theorem mp66 (x : Value) (W : World) : (Instr.typeAssert (.iface 66 x) 20 57 false).run Try.prog W = .halt (.panic (.iface 15 (.pointer (some ⟨W.heap.size, 0, none⟩)))) (W.alloc (.cells #[.pointer (some ⟨0, 20, none⟩), .pointer (some ⟨0, 66, none⟩), .pointer (some ⟨0, 57, none⟩), .string ⟨#[]⟩] 168 (0, 0))) := by kernel_rfl
theorem mp69 (x : Value) (W : World) : (Instr.typeAssert (.iface 69 x) 20 57 false).run Try.prog W = .halt (.panic (.iface 15 (.pointer (some ⟨W.heap.size, 0, none⟩)))) (W.alloc (.cells #[.pointer (some ⟨0, 20, none⟩), .pointer (some ⟨0, 69, none⟩), .pointer (some ⟨0, 57, none⟩), .string ⟨#[]⟩] 168 (0, 0))) := by kernel_rfl
theorem mp3 (x : Value) (W : World) : (Instr.typeAssert (.iface 3 x) 20 57 false).run Try.prog W = .halt (.panic (.iface 15 (.pointer (some ⟨W.heap.size, 0, none⟩)))) (W.alloc (.cells #[.pointer (some ⟨0, 20, none⟩), .pointer (some ⟨0, 3, none⟩), .pointer (some ⟨0, 57, none⟩), .string ⟨#[]⟩] 168 (0, 0))) := by kernel_rfl
theorem mp73 (x : Value) (W : World) : (Instr.typeAssert (.iface 73 x) 20 57 false).run Try.prog W = .halt (.panic (.iface 15 (.pointer (some ⟨W.heap.size, 0, none⟩)))) (W.alloc (.cells #[.pointer (some ⟨0, 20, none⟩), .pointer (some ⟨0, 73, none⟩), .pointer (some ⟨0, 57, none⟩), .string ⟨#[]⟩] 168 (0, 0))) := by kernel_rfl
theorem ma (x : Value) (W : World) : (Instr.typeAssert (.iface 57 x) 20 57 false).run Try.prog W = .ok x W := by kernel_rfl
theorem mustask_no (m : Value) (D : Obj) (w : World) (hm : ∀ W : World, (Instr.typeAssert m 20 57 false).run Try.prog W = .halt (.panic (.iface 15 (.pointer (some ⟨W.heap.size, 0, none⟩)))) (W.alloc D)) :
    Calls Try.prog 27 #[m] w fun e w' => ∃ pv : Value, e = .panicked [{ v := .iface 15 pv, recovered := false }] ∧ Below w.heap.size w w' := by
  go_enter Try.func27, Try.ntmps27
  go_wp2
  refine ⟨rfl, _, rfl, ?_⟩
  exact ((Below.refl _ _).alloc (Nat.le_refl _) _).alloc (by simp) _
theorem mustask_ok (a b c v : Int) (w : World)  :
    Calls Try.prog 27 #[.iface 57 (.agg #[.int .u64 a, .int .u64 b, .int .u64 c, .int .i64 v])] w fun e w' => e = .returned (.agg #[.int .u64 a, .int .u64 b, .int .u64 c, .int .i64 v]) ∧ Below w.heap.size w w' := by
  have hm := ma (.agg #[.int .u64 a, .int .u64 b, .int .u64 c, .int .i64 v])
  have hu57 := Try.underlying57
  go_enter Try.func27, Try.ntmps27
  go_wp2
  refine bodyPost_ret (v := .agg #[.int .u64 a, .int .u64 b, .int .u64 c, .int .i64 v]) (by simp [results, Try.results27, go_sem, hu57]) rfl ⟨rfl, (Below.refl _ _).alloc (Nat.le_refl _) _⟩
theorem rec_panicking (g k : Nat) (a b c v : Int) (x : Bool) (u : TypeId) (pv : Value) (older : List PanicEntry) (w : World) (h : w.heap[g]? = some (.cells #[.int .u64 a, .int .u64 b, .int .u64 c, .int .i64 v] 57 (0, 0))) (hx : w.heap[k]? = some (.cells #[.bool x] 4 (0, 0))) (hne : g ≠ k) :
    CallsD Try.prog 93 #[.pointer (some ⟨g, 0, none⟩), .pointer (some ⟨k, 0, none⟩)] (.panicking ({ v := .iface u pv, recovered := false } :: older)) w fun e u' w' =>
      e = .returned (.tuple #[]) ∧ u' = .panicking ({ v := .iface u pv, recovered := true } :: older) ∧ w' = ((((w.setCell ⟨g, 0, none⟩ (.int .u64 0)).setCell ⟨g, 1, none⟩ (.int .u64 0)).setCell ⟨g, 2, none⟩ (.int .u64 0)).setCell ⟨g, 3, none⟩ (.int .i64 0)).setCell ⟨k, 0, none⟩ (.bool true) := by
  have c0 : w.cell? ⟨g, 0, none⟩ = some (.int .u64 a) := by simp [World.cell?, h]
  have c1 : w.cell? ⟨g, 1, none⟩ = some (.int .u64 b) := by simp [World.cell?, h]
  have c2 : w.cell? ⟨g, 2, none⟩ = some (.int .u64 c) := by simp [World.cell?, h]
  have c3 : w.cell? ⟨g, 3, none⟩ = some (.int .i64 v) := by simp [World.cell?, h]
  have d0 : w.cell? ⟨k, 0, none⟩ = some (.bool x) := by simp [World.cell?, hx]
  have f0 : w.frozen? ⟨g, 0, none⟩ = false := by simp [World.frozen?, h]
  have f1 : w.frozen? ⟨g, 1, none⟩ = false := by simp [World.frozen?, h]
  have f2 : w.frozen? ⟨g, 2, none⟩ = false := by simp [World.frozen?, h]
  have f3 : w.frozen? ⟨g, 3, none⟩ = false := by simp [World.frozen?, h]
  have e0 : w.frozen? ⟨k, 0, none⟩ = false := by simp [World.frozen?, hx]
  have hu57 := Try.underlying57
  have hu4 := Try.underlying4
  have hne2 : k ≠ g := hne.symm
  refine callsD_of_wpS Try.func93 rfl fun c₀ cs hu => ?_
  apply wpS_seq
  apply wpS_region
  simp [wpOpsS, go_sem, recoverD, hu, Try.ntmps93, Exit.thenS]
  refine wpS_cond (t := true) (by simp [Act.eval, Array.replicate]) ?_
  simp only [if_true]
  apply wpS_region
  simp [wpOpsS, go_sem, c0, c1, c2, c3, d0, f0, f1, f2, f3, e0, hne, hne2, hu57, hu4, bodyPostS, results, Try.results93]
theorem rec_idle (p q : Value) (w : World) :
    CallsD Try.prog 93 #[p, q] .returning w fun e u' w' => e = .returned (.tuple #[]) ∧ u' = .returning ∧ w' = w := by
  refine callsD_of_wpS Try.func93 rfl fun c₀ cs hu => ?_
  apply wpS_seq
  apply wpS_region
  simp [wpOpsS, go_sem, recoverD, hu, Try.ntmps93, Exit.thenS]
  refine wpS_cond (t := false) (by simp [Act.eval, Array.replicate]) ?_
  simp only [Bool.false_eq_true, if_false]
  refine wpS_of_wp (wp_skip ?_)
  cases c₀
  simp_all [bodyPostS, results, Try.results93]
theorem cells4 {w : World} {g : Nat} {a b c v : Value} {t : TypeId} (h : w.heap[g]? = some (.cells #[a, b, c, v] t (0, 0))) : (w.cell? ⟨g, 0, none⟩ = some a ∧ w.cell? ⟨g, 1, none⟩ = some b ∧ w.cell? ⟨g, 2, none⟩ = some c ∧ w.cell? ⟨g, 3, none⟩ = some v) ∧ w.frozen? ⟨g, 0, none⟩ = false ∧ w.frozen? ⟨g, 1, none⟩ = false ∧ w.frozen? ⟨g, 2, none⟩ = false ∧ w.frozen? ⟨g, 3, none⟩ = false := by
  simp [World.cell?, World.frozen?, h]
theorem cells1 {w : World} {g : Nat} {a : Value} {t : TypeId} (h : w.heap[g]? = some (.cells #[a] t (0, 0))) : w.cell? ⟨g, 0, none⟩ = some a ∧ w.frozen? ⟨g, 0, none⟩ = false := by
  simp [World.cell?, World.frozen?, h]
theorem two_new {w w1 : World} {o p : Obj} (hb : Below ((w.alloc o).alloc p).heap.size ((w.alloc o).alloc p) w1) : w1.heap[w.heap.size]? = some o ∧ w1.heap[w.heap.size + 1]? = some p ∧ Below w.heap.size w w1 := by
  refine ⟨?_, ?_, ((((Below.refl _ _).alloc (Nat.le_refl _) _).alloc (by simp) _).trans (hb.mono (by simp; omega)))⟩
  · rw [hb.block _ (by simp; omega)]
    show ((w.heap.push o).push p)[w.heap.size]? = _
    rw [Array.getElem?_push, if_neg (by simp), Array.getElem?_push, if_pos rfl]
  · rw [hb.block _ (by simp)]
    show ((w.heap.push o).push p)[w.heap.size + 1]? = _
    rw [Array.getElem?_push, if_pos (by simp)]
set_option maxRecDepth 100000 in
theorem caught_no (m : Value) (D : Obj) (w : World) (hm : ∀ W : World, (Instr.typeAssert m 20 57 false).run Try.prog W = .halt (.panic (.iface 15 (.pointer (some ⟨W.heap.size, 0, none⟩)))) (W.alloc D)) :
    Calls Try.prog 56 #[m] w fun e w' => e = .returned (.tuple #[.agg #[.int .u64 0, .int .u64 0, .int .u64 0, .int .i64 0], .bool true]) ∧ Below w.heap.size w w' := by
  have hmf : ∀ (fn : Fn) (first cap : Array Value) (w : World), (Instr.makeFunc fn first cap).run Try.prog w = .ok (.func fn first cap) w := fun _ _ _ _ => rfl
  have HM : Hid (∀ W : World, (Instr.typeAssert m 20 57 false).run Try.prog W = .halt (.panic (.iface 15 (.pointer (some ⟨W.heap.size, 0, none⟩)))) (W.alloc D)) := hm
  clear hm
  have hu57 := Try.underlying57
  have hu4 := Try.underlying4
  go_enter_defers Try.func56, Try.ntmps56
  go_wp2_with (go_at_call 27; refine (mustask_no m D _ HM.out).mono ?_; rintro e w1 ⟨pv, rfl, hb⟩)
  obtain ⟨hG, hK, hB⟩ := two_new hb
  have hK1 := hK
  generalize hgk : w.heap.size + 1 = k at hK hK1 ⊢
  have hne : w.heap.size ≠ k := by omega
  have hkb : w.heap.size ≤ k := by omega
  refine leaves_cons (f := 93) (args := #[.pointer (some ⟨w.heap.size, 0, none⟩), .pointer (some ⟨k, 0, none⟩)]) (by simp) (by simp [go_sem]) ?_
  refine (rec_panicking w.heap.size k 0 0 0 0 false 15 pv [] _ hG hK hne).mono ?_
  rintro e u' w'' ⟨rfl, rfl, rfl⟩
  have hfin : Below w.heap.size w (((((w1.setCell ⟨w.heap.size, 0, none⟩ (.int .u64 0)).setCell ⟨w.heap.size, 1, none⟩ (.int .u64 0)).setCell ⟨w.heap.size, 2, none⟩ (.int .u64 0)).setCell ⟨w.heap.size, 3, none⟩ (.int .i64 0)).setCell ⟨k, 0, none⟩ (.bool true)) :=
    (((((hB.setCell (p := ⟨w.heap.size, 0, none⟩) (Nat.le_refl _) _).setCell (p := ⟨w.heap.size, 1, none⟩) (Nat.le_refl _) _).setCell (p := ⟨w.heap.size, 2, none⟩) (Nat.le_refl _) _).setCell (p := ⟨w.heap.size, 3, none⟩) (Nat.le_refl _) _).setCell (p := ⟨k, 0, none⟩) hkb _)
  have HF : Hid (Below w.heap.size w (((((w1.setCell ⟨w.heap.size, 0, none⟩ (.int .u64 0)).setCell ⟨w.heap.size, 1, none⟩ (.int .u64 0)).setCell ⟨w.heap.size, 2, none⟩ (.int .u64 0)).setCell ⟨w.heap.size, 3, none⟩ (.int .i64 0)).setCell ⟨k, 0, none⟩ (.bool true))) := hfin
  clear hfin hb hB hgk hkb
  obtain ⟨⟨c0, c1, c2, c3⟩, f0, f1, f2, f3⟩ := cells4 hG
  obtain ⟨d0, e0⟩ := cells1 hK
  clear hG hK hK1
  have hne2 : k ≠ w.heap.size := hne.symm
  simp [Leaves, settle, results, Try.results56, go_sem, c0, c1, c2, c3, d0, hne, hne2, hu57, hu4]
  exact HF.out
set_option maxRecDepth 100000 in
theorem caught_ok (a b c v : Int) (w : World) :
    Calls Try.prog 56 #[.iface 57 (.agg #[.int .u64 a, .int .u64 b, .int .u64 c, .int .i64 v])] w fun e w' => e = .returned (.tuple #[.agg #[.int .u64 a, .int .u64 b, .int .u64 c, .int .i64 v], .bool false]) ∧ Below w.heap.size w w' := by
  have hmf : ∀ (fn : Fn) (first cap : Array Value) (w : World), (Instr.makeFunc fn first cap).run Try.prog w = .ok (.func fn first cap) w := fun _ _ _ _ => rfl
  have hu57 := Try.underlying57
  have hu4 := Try.underlying4
  go_enter_defers Try.func56, Try.ntmps56
  go_wp2_with (go_at_call 27; refine (mustask_ok a b c v _).mono ?_; rintro e w1 ⟨rfl, hb⟩; obtain ⟨hG, hK, hB⟩ := two_new hb; obtain ⟨⟨c0, c1, c2, c3⟩, f0, f1, f2, f3⟩ := cells4 hG; obtain ⟨d0, e0⟩ := cells1 hK; have HB : Hid (Below w.heap.size w w1) := hB; clear hb hB hG hK)
  refine leaves_cons (f := 93) (args := #[.pointer (some ⟨w.heap.size, 0, none⟩), .pointer (some ⟨w.heap.size + 1, 0, none⟩)]) (by simp) (by simp [go_sem]) ?_
  refine (rec_idle _ _ _).mono ?_
  rintro e u' w'' ⟨rfl, rfl, rfl⟩
  simp [Leaves, settle, results, Try.results56, go_sem, c0, c1, c2, c3, d0, hu57, hu4]
  exact (((((HB.out.setCell (p := ⟨w.heap.size, 0, none⟩) (Nat.le_refl _) _).setCell (p := ⟨w.heap.size, 1, none⟩) (Nat.le_refl _) _).setCell (p := ⟨w.heap.size, 2, none⟩) (Nat.le_refl _) _).setCell (p := ⟨w.heap.size, 3, none⟩) (Nat.le_refl _) _).setCell (p := ⟨w.heap.size + 1, 0, none⟩) (Nat.le_succ _) _)
theorem one_new {w w1 : World} {o : Obj} (hb : Below (w.alloc o).heap.size (w.alloc o) w1) : w1.heap[w.heap.size]? = some o ∧ w.heap.size < w1.heap.size ∧ Below w.heap.size w w1 := by
  refine ⟨?_, by have := hb.size; simp at this; omega, (((Below.refl _ _).alloc (Nat.le_refl _) _).trans (hb.mono (by simp)))⟩
  rw [hb.block _ (by simp)]
  show (w.heap.push o)[w.heap.size]? = _
  rw [Array.getElem?_push, if_pos rfl]
set_option maxRecDepth 100000 in
theorem must_any (m : Value) (a b c v : Int) (fell : Bool) (w : World) (hc : ∀ W : World, Calls Try.prog 56 #[m] W fun e w' => e = .returned (.tuple #[.agg #[.int .u64 a, .int .u64 b, .int .u64 c, .int .i64 v], .bool fell]) ∧ Below W.heap.size W w') :
    Calls Try.prog 26 #[m] w fun e w' => e = .returned (.tuple #[.agg #[.int .u64 a, .int .u64 b, .int .u64 c, .int .i64 v], .bool (!fell)]) ∧ Below w.heap.size w w' := by
  have hnot : ∀ (x : Bool) (w : World), (Op.unary .not (.bool x)).run Try.prog w = .ok (.bool (!x)) w := fun _ _ => rfl
  have hu57 := Try.underlying57
  have HC : Hid (∀ W : World, Calls Try.prog 56 #[m] W fun e w' => e = .returned (.tuple #[.agg #[.int .u64 a, .int .u64 b, .int .u64 c, .int .i64 v], .bool fell]) ∧ Below W.heap.size W w') := hc
  clear hc
  go_enter Try.func26, Try.ntmps26
  go_wp2_with (go_at_call 56; refine (HC.out _).mono ?_; rintro e w1 ⟨rfl, hb⟩; obtain ⟨hG, hz, hB⟩ := one_new hb; obtain ⟨⟨c0, c1, c2, c3⟩, f0, f1, f2, f3⟩ := cells4 hG; have HB : Hid (Below w.heap.size w w1) := hB; clear hb hB hG)
  refine bodyPost_ret (v := .tuple #[.agg #[.int .u64 a, .int .u64 b, .int .u64 c, .int .i64 v], .bool (!fell)]) (by simp [results, Try.results26, go_sem, c0, c1, c2, c3, hz]) rfl ⟨rfl, ?_⟩
  repeat (first | exact HB.out | refine Below.alloc ?_ ?_ _ | refine Below.setCell ?_ ?_ _)
  all_goals (simp; try omega)

theorem must_no (m : Value) (D : Obj) (w : World) (hm : ∀ W : World, (Instr.typeAssert m 20 57 false).run Try.prog W = .halt (.panic (.iface 15 (.pointer (some ⟨W.heap.size, 0, none⟩)))) (W.alloc D)) :
    Calls Try.prog 26 #[m] w fun e w' => e = .returned (.tuple #[.agg #[.int .u64 0, .int .u64 0, .int .u64 0, .int .i64 0], .bool false]) ∧ Below w.heap.size w w' := must_any m 0 0 0 0 true w (fun W => caught_no m D W hm)
theorem ta3_51 (x : Value) : ∀ W, (Instr.typeAssert (.iface 3 x) 20 51 true).run Try.prog W = .ok (.tuple #[.agg #[.int .u64 0, .bool false, .slice none 0 0], .bool false]) W := fun W => by kernel_rfl
theorem ta3_54 (x : Value) : ∀ W, (Instr.typeAssert (.iface 3 x) 20 54 true).run Try.prog W = .ok (.tuple #[.agg #[.slice none 0 0], .bool false]) W := fun W => by kernel_rfl
theorem ta3_57 (x : Value) : ∀ W, (Instr.typeAssert (.iface 3 x) 20 57 true).run Try.prog W = .ok (.tuple #[.agg #[.int .u64 0, .int .u64 0, .int .u64 0, .int .i64 0], .bool false]) W := fun W => by kernel_rfl
theorem ta3_60 (x : Value) : ∀ W, (Instr.typeAssert (.iface 3 x) 20 60 true).run Try.prog W = .ok (.tuple #[.agg #[.int .u64 0, .int .u64 0, .int .u64 0, .bool false, .int .u64 0, .int .u64 0, .int .i64 0, .bool false], .bool false]) W := fun W => by kernel_rfl
theorem ta3_63 (x : Value) : ∀ W, (Instr.typeAssert (.iface 3 x) 20 63 true).run Try.prog W = .ok (.tuple #[.agg #[.int .u64 0, .int .i64 0], .bool false]) W := fun W => by kernel_rfl
theorem ta3_66 (x : Value) : ∀ W, (Instr.typeAssert (.iface 3 x) 20 66 true).run Try.prog W = .ok (.tuple #[.agg #[.int .u64 0, .int .u64 0, .int .u64 0, .slice none 0 0], .bool false]) W := fun W => by kernel_rfl
theorem ta3_69 (x : Value) : ∀ W, (Instr.typeAssert (.iface 3 x) 20 69 true).run Try.prog W = .ok (.tuple #[.agg #[.int .u64 0, .slice none 0 0], .bool false]) W := fun W => by kernel_rfl
set_option maxHeartbeats 8000000 in
set_option maxRecDepth 100000 in
theorem packet_no3 (x : Value) (w : World) :
    Calls Try.prog 31 #[.iface 3 x] w fun e w' => e = .returned (.agg #[.int .i64 0, .int .u64 0, .int .u64 0, .int .u64 0, .int .u64 0, .int .u64 0, .int .i64 0, .bool false, .slice none 0 0, .slice none 0 0, .slice none 0 0]) ∧ Below w.heap.size w w' := by
  have hu30 := Try.underlying30
  have hu24 := Try.underlying24
  have hu51 := Try.underlying51
  have hu54 := Try.underlying54
  have hu57 := Try.underlying57
  have hu60 := Try.underlying60
  have hu63 := Try.underlying63
  have hu66 := Try.underlying66
  have hu69 := Try.underlying69
  have ta51 := ta3_51 x
  have ta54 := ta3_54 x
  have ta57 := ta3_57 x
  have ta60 := ta3_60 x
  have ta63 := ta3_63 x
  have ta66 := ta3_66 x
  have ta69 := ta3_69 x
  go_enter Try.func31, Try.ntmps31
  go_wp2_with ((with_reducible refine gate_dst (N := 2) rfl ?_); refine box_event ?hg (N := 2) ?hd (cs := #[.int .i64 0, .int .u64 0, .int .u64 0, .int .u64 0, .int .u64 0, .int .u64 0, .int .i64 0, .bool false, .slice none 0 0, .slice none 0 0, .slice none 0 0]) (t := 30) ?hr ?_; (case hd => rfl); (case hg => rfl); (case hr => first | (go_simp; done) | (go_simp; rfl)); intro gp hg w1 hbox hb; have HGP := Aside0.mk (show w.heap.size ≤ gp from Nat.le_of_eq hg.symm); have BP1 := Aside0.mk hbox; have HB1 := Aside0.mk hb; clear hg hbox hb; obtain ⟨hp_0, hp_1, hp_2, hp_3, hp_4, hp_5, hp_6, hp_7, hp_8, hp_9, hp_10⟩ := Hand.Cz.c11 BP1.out; obtain ⟨hf_0, hf_1, hf_2, hf_3, hf_4, hf_5, hf_6, hf_7, hf_8, hf_9, hf_10⟩ := Hand.Cz.f11 BP1.out)
  go_wp2
  refine bodyPost_ret (results_cell_row rfl _ _ gp 30 #[.int .i64 0, .int .u64 0, .int .u64 0, .int .u64 0, .int .u64 0, .int .u64 0, .int .i64 0, .bool false, .slice none 0 0, .slice none 0 0, .slice none 0 0] (0, 0) _ rfl (Hand.Cz.p11 BP1.out) Try.underlying30 rfl (by kernel_rfl)) rfl ?_
  exact ⟨rfl, Hand.Cz.b11 HB1.out HGP.out⟩

theorem ta73_51 (x : Value) : ∀ W, (Instr.typeAssert (.iface 73 x) 20 51 true).run Try.prog W = .ok (.tuple #[.agg #[.int .u64 0, .bool false, .slice none 0 0], .bool false]) W := fun W => by kernel_rfl
theorem ta73_54 (x : Value) : ∀ W, (Instr.typeAssert (.iface 73 x) 20 54 true).run Try.prog W = .ok (.tuple #[.agg #[.slice none 0 0], .bool false]) W := fun W => by kernel_rfl
theorem ta73_57 (x : Value) : ∀ W, (Instr.typeAssert (.iface 73 x) 20 57 true).run Try.prog W = .ok (.tuple #[.agg #[.int .u64 0, .int .u64 0, .int .u64 0, .int .i64 0], .bool false]) W := fun W => by kernel_rfl
theorem ta73_60 (x : Value) : ∀ W, (Instr.typeAssert (.iface 73 x) 20 60 true).run Try.prog W = .ok (.tuple #[.agg #[.int .u64 0, .int .u64 0, .int .u64 0, .bool false, .int .u64 0, .int .u64 0, .int .i64 0, .bool false], .bool false]) W := fun W => by kernel_rfl
theorem ta73_63 (x : Value) : ∀ W, (Instr.typeAssert (.iface 73 x) 20 63 true).run Try.prog W = .ok (.tuple #[.agg #[.int .u64 0, .int .i64 0], .bool false]) W := fun W => by kernel_rfl
theorem ta73_66 (x : Value) : ∀ W, (Instr.typeAssert (.iface 73 x) 20 66 true).run Try.prog W = .ok (.tuple #[.agg #[.int .u64 0, .int .u64 0, .int .u64 0, .slice none 0 0], .bool false]) W := fun W => by kernel_rfl
theorem ta73_69 (x : Value) : ∀ W, (Instr.typeAssert (.iface 73 x) 20 69 true).run Try.prog W = .ok (.tuple #[.agg #[.int .u64 0, .slice none 0 0], .bool false]) W := fun W => by kernel_rfl
set_option maxHeartbeats 8000000 in
set_option maxRecDepth 100000 in
theorem packet_no73 (x : Value) (w : World) :
    Calls Try.prog 31 #[.iface 73 x] w fun e w' => e = .returned (.agg #[.int .i64 0, .int .u64 0, .int .u64 0, .int .u64 0, .int .u64 0, .int .u64 0, .int .i64 0, .bool false, .slice none 0 0, .slice none 0 0, .slice none 0 0]) ∧ Below w.heap.size w w' := by
  have hu30 := Try.underlying30
  have hu24 := Try.underlying24
  have hu51 := Try.underlying51
  have hu54 := Try.underlying54
  have hu57 := Try.underlying57
  have hu60 := Try.underlying60
  have hu63 := Try.underlying63
  have hu66 := Try.underlying66
  have hu69 := Try.underlying69
  have ta51 := ta73_51 x
  have ta54 := ta73_54 x
  have ta57 := ta73_57 x
  have ta60 := ta73_60 x
  have ta63 := ta73_63 x
  have ta66 := ta73_66 x
  have ta69 := ta73_69 x
  go_enter Try.func31, Try.ntmps31
  go_wp2_with ((with_reducible refine gate_dst (N := 2) rfl ?_); refine box_event ?hg (N := 2) ?hd (cs := #[.int .i64 0, .int .u64 0, .int .u64 0, .int .u64 0, .int .u64 0, .int .u64 0, .int .i64 0, .bool false, .slice none 0 0, .slice none 0 0, .slice none 0 0]) (t := 30) ?hr ?_; (case hd => rfl); (case hg => rfl); (case hr => first | (go_simp; done) | (go_simp; rfl)); intro gp hg w1 hbox hb; have HGP := Aside0.mk (show w.heap.size ≤ gp from Nat.le_of_eq hg.symm); have BP1 := Aside0.mk hbox; have HB1 := Aside0.mk hb; clear hg hbox hb; obtain ⟨hp_0, hp_1, hp_2, hp_3, hp_4, hp_5, hp_6, hp_7, hp_8, hp_9, hp_10⟩ := Hand.Cz.c11 BP1.out; obtain ⟨hf_0, hf_1, hf_2, hf_3, hf_4, hf_5, hf_6, hf_7, hf_8, hf_9, hf_10⟩ := Hand.Cz.f11 BP1.out)
  go_wp2
  refine bodyPost_ret (results_cell_row rfl _ _ gp 30 #[.int .i64 0, .int .u64 0, .int .u64 0, .int .u64 0, .int .u64 0, .int .u64 0, .int .i64 0, .bool false, .slice none 0 0, .slice none 0 0, .slice none 0 0] (0, 0) _ rfl (Hand.Cz.p11 BP1.out) Try.underlying30 rfl (by kernel_rfl)) rfl ?_
  exact ⟨rfl, Hand.Cz.b11 HB1.out HGP.out⟩

set_option maxHeartbeats 8000000 in
set_option maxRecDepth 100000 in
theorem pkt_no (m : Value) (w : World) (hP : ∀ W, Calls Try.prog 31 #[m] W fun e w' => e = .returned (.agg #[.int .i64 0, .int .u64 0, .int .u64 0, .int .u64 0, .int .u64 0, .int .u64 0, .int .i64 0, .bool false, .slice none 0 0, .slice none 0 0, .slice none 0 0]) ∧ Below W.heap.size W w') (hR : ∀ W, Calls Try.prog 13 #[.agg #[.int .i64 0, .int .u64 0, .int .u64 0, .int .u64 0, .int .u64 0, .int .u64 0, .int .i64 0, .bool false, .slice none 0 0, .slice none 0 0, .slice none 0 0]] W fun e w' => e = .returned (.int .i64 6) ∧ Below W.heap.size W w') :
    Calls Try.prog 24 #[m] w fun e w' => e = .returned (.tuple #[.agg #[.int .i64 0, .int .u64 0, .int .u64 0, .int .u64 0, .int .u64 0, .int .u64 0, .int .i64 0, .bool false, .slice none 0 0, .slice none 0 0, .slice none 0 0], .int .i64 6]) ∧ Below w.heap.size w w' := by
  have hu30 := Try.underlying30
  have hu24 := Try.underlying24
  have HP := Aside0.mk hP
  have HR := Aside0.mk hR
  clear hP hR
  go_enter Try.func24, Try.ntmps24
  go_wp2_with ((with_reducible refine gate_dst (N := 2) rfl ?_); refine box_event ?hg (N := 2) ?hd (cs := #[.int .i64 0, .int .u64 0, .int .u64 0, .int .u64 0, .int .u64 0, .int .u64 0, .int .i64 0, .bool false, .slice none 0 0, .slice none 0 0, .slice none 0 0]) (t := 30) ?hr ?_; (case hd => rfl); (case hg => rfl); (case hr => first | (go_simp; done) | (go_simp; rfl)); intro g2 hg w1 hbox hb; have HG2 := Aside0.mk (show w.heap.size ≤ g2 from Nat.le_of_eq hg.symm); have HB1 := Aside0.mk hb; have BK1 := Aside0.mk hbox; clear hg hbox hb)
  refine (HP.out _).mono ?_
  rintro e w3 ⟨rfl, hb⟩
  have HB3 := Aside0.mk (below_step HB1.out hb)
  have BK3 := Aside0.mk (blk_below BK1.out hb)
  clear hb HB1 BK1
  go_upto_region 2 with ((with_reducible refine gate_dst (N := 4) rfl ?_); refine box_event ?hg (N := 4) ?hd (cs := #[.int .i64 0, .int .u64 0, .int .u64 0, .int .u64 0, .int .u64 0, .int .u64 0, .int .i64 0, .bool false, .slice none 0 0, .slice none 0 0, .slice none 0 0]) (t := 30) ?hr ?_; (case hd => rfl); (case hg => rfl); (case hr => first | (go_simp; done) | (go_simp; rfl)); intro g4 hg w5 hbox hb; have HG4 := Aside0.mk (show w.heap.size ≤ g4 from by rw [hg]; exact HB3.out.size); have HNE := Aside0.mk (show g2 ≠ g4 from by have := blk_lt BK3.out; omega); have HB5 := Aside0.mk (below_step HB3.out hb); have BK5 := Aside0.mk (blk_below BK3.out hb); have BQ5 := Aside0.mk hbox; clear hg hbox hb; obtain ⟨hp_0, hp_1, hp_2, hp_3, hp_4, hp_5, hp_6, hp_7, hp_8, hp_9, hp_10⟩ := Hand.Cz.c11 BQ5.out; obtain ⟨hf_0, hf_1, hf_2, hf_3, hf_4, hf_5, hf_6, hf_7, hf_8, hf_9, hf_10⟩ := Hand.Cz.f11 BQ5.out)
  generalize hW6 : World.setCell _ (Addr.mk g4 10 none) _ = w6
  have BQ6 := Aside0.mk (show w6.heap[g4]? = some (.cells #[.int .i64 0, .int .u64 0, .int .u64 0, .int .u64 0, .int .u64 0, .int .u64 0, .int .i64 0, .bool false, .slice none 0 0, .slice none 0 0, .slice none 0 0] 30 (0, 0)) from by rw [← hW6]; exact Hand.Cz.p11 BQ5.out)
  have BK6 := Aside0.mk (show w6.heap[g2]? = some (.cells #[.int .i64 0, .int .u64 0, .int .u64 0, .int .u64 0, .int .u64 0, .int .u64 0, .int .i64 0, .bool false, .slice none 0 0, .slice none 0 0, .slice none 0 0] 30 (0, 0)) from by rw [← hW6]; exact Hand.Cz.o11 BK5.out HNE.out)
  have HB6 := Aside0.mk (show Below w.heap.size w w6 from by rw [← hW6]; exact Hand.Cz.b11 HB5.out HG4.out)
  clear hW6 BQ5 BK5 HB5 HB3 BK3 hp_0 hf_0 hp_1 hf_1 hp_2 hf_2 hp_3 hf_3 hp_4 hf_4 hp_5 hf_5 hp_6 hf_6 hp_7 hf_7 hp_8 hf_8 hp_9 hf_9 hp_10 hf_10
  obtain ⟨hp_0, hp_1, hp_2, hp_3, hp_4, hp_5, hp_6, hp_7, hp_8, hp_9, hp_10⟩ := Hand.Cz.c11 BQ6.out
  go_wp2_with fail
  refine (HR.out _).mono ?_
  rintro e w7 ⟨rfl, hb⟩
  have BK7 := Aside0.mk (blk_below BK6.out hb)
  have HB7 := Aside0.mk (below_step HB6.out hb)
  clear hb BK6 HB6 BQ6 hp_0 hp_1 hp_2 hp_3 hp_4 hp_5 hp_6 hp_7 hp_8 hp_9 hp_10
  obtain ⟨hs_0, hs_1, hs_2, hs_3, hs_4, hs_5, hs_6, hs_7, hs_8, hs_9, hs_10⟩ := Hand.Cz.c11 BK7.out
  obtain ⟨hg_0, hg_1, hg_2, hg_3, hg_4, hg_5, hg_6, hg_7, hg_8, hg_9, hg_10⟩ := Hand.Cz.f11 BK7.out
  go_wp2_with fail
  refine bodyPost_ret (results_ct rfl _ _ g2 30 #[.int .i64 0, .int .u64 0, .int .u64 0, .int .u64 0, .int .u64 0, .int .u64 0, .int .i64 0, .bool false, .slice none 0 0, .slice none 0 0, .slice none 0 0] (0, 0) _ rfl (Hand.Cz.p11 BK7.out) Try.underlying30 rfl (by kernel_rfl)) rfl ?_
  exact ⟨rfl, Hand.Cz.b11 HB7.out HG2.out⟩

theorem right_zero (w : World) : Calls Try.prog 13 #[.agg #[.int .i64 0, .int .u64 0, .int .u64 0, .int .u64 0, .int .u64 0, .int .u64 0, .int .i64 0, .bool false, .slice none 0 0, .slice none 0 0, .slice none 0 0]] w fun e w' => e = .returned (.int .i64 6) ∧ Below w.heap.size w w' :=
  message_Right.calls 0 0 0 0 0 0 0 false none 0 [] none 0 [] none 0 [] 6 w (Kd.C_nil _ _) (Nat.le_refl _) (Kd.C_nil _ _) (Nat.le_refl _) (Kd.C_nil _ _) (Nat.le_refl _) (by kernel_rfl)
def mustt.T25_5 : Bool × List (List Nat × List Nat) := (true, [([], []), ([0], [0]), ([], []), ([2], [2]), ([3], [3]), ([1, 0, 1], [1]), ([4, 5, 0, 1, 2, 3, 4, 5], [4])])
def mustt.B25_5 : List Nat := [0, 1, 0, 4, 12, 3, 63]
theorem mustt.tab25_5 : rtab .any (opsOf Try.f25 5) = mustt.T25_5 := by kernel_rfl
theorem mustt.bits25_5 : waitsOk mustt.T25_5.2 mustt.B25_5 = true := by kernel_rfl
set_option maxHeartbeats 8000000 in
set_option maxRecDepth 100000 in
theorem trace_no3 (x : Value) (w : World) :
    Calls Try.prog 25 #[.iface 3 x] w fun e w' => e = .returned (.tuple #[.int .u64 0, .bool false]) ∧ Below w.heap.size w w' := by
  have hu30 := Try.underlying30
  have hu24 := Try.underlying24
  have hu51 := Try.underlying51
  have hu54 := Try.underlying54
  have hu57 := Try.underlying57
  have hu60 := Try.underlying60
  have hu63 := Try.underlying63
  have hu66 := Try.underlying66
  have hu69 := Try.underlying69
  have ta54 := ta3_54 x
  go_enter Try.func25, Try.ntmps25
  go_wp2_with fail
  refine (packet_no3 x _).mono ?_
  rintro e w2 ⟨rfl, hb⟩
  have HB2 := Aside0.mk (show Below w.heap.size w w2 from below_step (by repeat (first | exact Below.refl _ _ | (with_reducible apply below_alloc) | (refine below_set ?_ (by simp)))) hb)
  clear hb
  go_upto_region 5 with ((with_reducible refine gate_dst (N := 6) rfl ?_); refine box_event ?hg (N := 6) ?hd (cs := #[.int .i64 0, .int .u64 0, .int .u64 0, .int .u64 0, .int .u64 0, .int .u64 0, .int .i64 0, .bool false, .slice none 0 0, .slice none 0 0, .slice none 0 0]) (t := 30) ?hr ?_; (case hd => rfl); (case hg => rfl); (case hr => first | (go_simp; done) | (go_simp; rfl)); intro g hg w3 hbox hb; have HGE := Aside0.mk (show w.heap.size ≤ g from by rw [hg]; exact HB2.out.size); have HB3 := Aside0.mk (below_step HB2.out hb); have BK3 := Aside0.mk hbox; clear hg hbox hb; obtain ⟨hp_0, hp_1, hp_2, hp_3, hp_4, hp_5, hp_6, hp_7, hp_8, hp_9, hp_10⟩ := Hand.Cz.c11 BK3.out; obtain ⟨hf_0, hf_1, hf_2, hf_3, hf_4, hf_5, hf_6, hf_7, hf_8, hf_9, hf_10⟩ := Hand.Cz.f11 BK3.out)
  generalize hW4 : World.setCell _ (Addr.mk g 10 none) _ = w4
  have BK4 := Aside0.mk (show w4.heap[g]? = some (.cells #[.int .i64 0, .int .u64 0, .int .u64 0, .int .u64 0, .int .u64 0, .int .u64 0, .int .i64 0, .bool false, .slice none 0 0, .slice none 0 0, .slice none 0 0] 30 (0, 0)) from by rw [← hW4]; exact Hand.Cz.p11 BK3.out)
  have HB4 := Aside0.mk (show Below w.heap.size w w4 from by rw [← hW4]; exact Hand.Cz.b11 HB3.out HGE.out)
  clear hW4 hp_0 hf_0 hp_1 hf_1 hp_2 hf_2 hp_3 hf_3 hp_4 hf_4 hp_5 hf_5 hp_6 hf_6 hp_7 hf_7 hp_8 hf_8 hp_9 hf_9 hp_10 hf_10
  refine start_ (n := 7) (S := fun w' => w'.heap[g]? = some (.cells #[.int .i64 0, .int .u64 0, .int .u64 0, .int .u64 0, .int .u64 0, .int .u64 0, .int .i64 0, .bool false, .slice none 0 0, .slice none 0 0, .slice none 0 0] 30 (0, 0)) ∧ Below w.heap.size w w') (ds := []) #[false, false, false, false, false, false, false] (by kernel_rfl) rfl rfl ⟨blk_drew BK4.out, below_drew1 HB4.out⟩ (fun hHeld => ?_)
  refine with_tabW mustt.tab25_5 mustt.bits25_5 (fun HT_ HW_ => ?_)
  generalize w4.drew = wd at hHeld ⊢
  refine pure_ (i := 0) (N := some 15) (v := ?_) (a' := ?_) #[true, false, false, false, false, false, false] rfl rfl (any_of HT_.out (by kernel_rfl)) (fun _ _ _ h => h) (Or.inl ⟨by rfl, ?_⟩) ?_ ?_
  rotate_left
  · intro w'
    go_simp
    with_reducible rfl
  rotate_left
  · simp only [Act.put, List.setIfInBounds_toArray, List.set_cons_zero, List.set_cons_succ, i64_w, i32_w]
    rfl
  refine take_ (i := 1) (N := some 16) (v := ?_) (a' := ?_) #[true, true, false, false, false, false, false] rfl rfl (take_ofW HT_.out HW_.out (by kernel_rfl)) (fun _ _ _ h => h) (Or.inl ⟨by rfl, ?_⟩) hHeld ?_ ?_
  rotate_left
  · rintro w' ⟨E, I⟩
    have z1 : w'.cell? ⟨g, 1, none⟩ = some (.int .u64 0) := (blk_cell E 1).trans rfl
    go_simp
    with_reducible rfl
  rotate_left
  · simp only [Act.put, List.setIfInBounds_toArray, List.set_cons_zero, List.set_cons_succ, i64_w, i32_w]
    rfl
  refine pure_ (i := 2) (N := some 17) (v := ?_) (a' := ?_) #[true, true, true, false, false, false, false] rfl rfl (any_of HT_.out (by kernel_rfl)) (fun _ _ _ h => h) (Or.inl ⟨by rfl, ?_⟩) ?_ ?_
  rotate_left
  · intro w'
    go_simp
    with_reducible rfl
  rotate_left
  · simp only [Act.put, List.setIfInBounds_toArray, List.set_cons_zero, List.set_cons_succ, i64_w, i32_w]
    rfl
  refine take_ (i := 3) (N := some 18) (v := ?_) (a' := ?_) #[true, true, true, true, false, false, false] rfl rfl (take_ofW HT_.out HW_.out (by kernel_rfl)) (fun _ _ _ h => h) (Or.inl ⟨by rfl, ?_⟩) hHeld ?_ ?_
  rotate_left
  · rintro w' ⟨E, I⟩
    have z0 : w'.cell? ⟨g, 0, none⟩ = some (.int .i64 0) := (blk_cell E 0).trans rfl
    go_simp
    with_reducible rfl
  rotate_left
  · simp only [Act.put, List.setIfInBounds_toArray, List.set_cons_zero, List.set_cons_succ, i64_w, i32_w]
    rfl
  refine pure_ (i := 4) (N := some 19) (v := ?_) (a' := ?_) #[true, true, true, true, true, false, false] rfl rfl (any_of HT_.out (by kernel_rfl)) (fun _ _ _ h => h) (Or.inl ⟨by rfl, ?_⟩) ?_ ?_
  rotate_left
  · intro w'
    go_simp
    with_reducible rfl
  rotate_left
  · simp only [Act.put, List.setIfInBounds_toArray, List.set_cons_zero, List.set_cons_succ, i64_w, i32_w]
    rfl
  refine pure_ (i := 5) (N := some 2) (v := ?_) (a' := ?_) #[true, true, true, true, true, true, false] rfl rfl (any_of HT_.out (by kernel_rfl)) (fun _ _ _ h => h) (Or.inl ⟨by rfl, ?_⟩) ?_ ?_
  rotate_left
  · intro w'
    go_simp
    with_reducible rfl
  rotate_left
  · simp only [Act.put, List.setIfInBounds_toArray, List.set_cons_zero, List.set_cons_succ, i64_w, i32_w]
    rfl
  refine pure_ (i := 6) (N := some 3) (v := ?_) (a' := ?_) #[true, true, true, true, true, true, true] rfl rfl (any_of HT_.out (by kernel_rfl)) (fun _ _ _ h => h) (Or.inl ⟨by rfl, ?_⟩) ?_ ?_
  rotate_left
  · intro w'
    go_simp
    with_reducible rfl
  rotate_left
  · simp only [Act.put, List.setIfInBounds_toArray, List.set_cons_zero, List.set_cons_succ, i64_w, i32_w]
    rfl
  refine done_ (done_of HT_.out (by kernel_rfl)) ?_
  go_wp2
  go_ret2
  exact ⟨rfl, hHeld.2⟩

end Go.Proofs.Ytlpnpnjjmpkapaa.PAll
