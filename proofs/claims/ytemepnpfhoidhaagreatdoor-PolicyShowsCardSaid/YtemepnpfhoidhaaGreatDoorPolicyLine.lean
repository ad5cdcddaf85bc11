/-
  policy.rule at a right rule's line.
  Conditions: the table of powers of ten as the program lays it.
-/
import Derived.Test.YtemepnpfhoidhaaGreatDoorPolicyRule
import Derived.Deep.RegionWith
import Derived.StillTailTactics
import Derived.BigRegion
import Derived.Test.YtemepnpfhoidhaaGreatDoorPAllx1m
namespace Go.Proofs.YtemepnpfhoidhaaGreatDoor.PAll
open Go.RowKit Go.Lib Go.Sort Go.Proofs.YtemepnpfhoidhaaGreatDoorW.PrintWords Go.Proofs.YtemepnpfhoidhaaGreatDoorW.PrintLast Go.Proofs.YtemepnpfhoidhaaGreatDoorW.PrintMore
set_option linter.unusedVariables false
set_option linter.unusedSimpArgs false
def kwB (k : Bool) : ByteArray := if k = true then ⟨#[107, 101, 101, 112]⟩ else ⟨#[100, 114, 111, 112]⟩
theorem kwB_plain (k : Bool) (c : UInt8) (hc : c = 32 ∨ c = 10) : c ∉ (kwB k).data.toList := by
  unfold kwB
  cases k <;> rcases hc with rfl | rfl <;> decide
theorem kwB_size (k : Bool) : (kwB k).size = 4 := by cases k <;> rfl
set_option maxHeartbeats 16000000 in
set_option maxRecDepth 100000 in
theorem rule_bare_true (what : ByteArray) (lo hi : Int) (w : World) (line : ByteArray) (hsp : ∀ W, Calls Tryz.prog 41 #[.string line, .string ⟨#[32]⟩] W fun e w' => e = .returned (.slice (some ⟨W.heap.size, 0, none⟩) 2 2) ∧ w' = W.alloc (.cells #[.string ⟨#[107, 101, 101, 112]⟩, .string what] 9)) (hf : policy_form.f 1 what = some (1, lo, hi)) (hr : rightB what 0 ⟨#[]⟩ = true) :
    Calls Tryz.prog 24 #[.string line] w fun e w' => e = .returned (.tuple #[.agg #[.bool true, .string what, .int .u64 0, .string ⟨#[]⟩], .bool true]) ∧ Below w.heap.size w w' := by
  have HS := Aside0.mk hsp
  have HF := Aside0.mk hf
  have HR := Aside0.mk hr
  clear hsp hf hr
  go_enter Tryz.func24, Tryz.ntmps24
  go_wp2_with fail
  refine (HS.out _).mono ?_
  rintro e w1 ⟨rfl, hw⟩
  have BA := Aside0.mk (show w1.heap[w.heap.size]? = some (.cells #[.bool false, .string ⟨#[]⟩, .int .u64 0, .string ⟨#[]⟩] 46) from by rw [hw]; exact blk_alloc (heap_alloc_new w _) _)
  have BS := Aside0.mk (show w1.heap[w.heap.size + 1]? = some (.cells #[.string ⟨#[107, 101, 101, 112]⟩, .string what] 9) from by rw [hw]; have := heap_alloc_new (w.alloc (.cells #[.bool false, .string ⟨#[]⟩, .int .u64 0, .string ⟨#[]⟩] 46)) (.cells #[.string ⟨#[107, 101, 101, 112]⟩, .string what] 9); rw [World.size_alloc] at this; exact this)
  have HB := Aside0.mk (show Below w.heap.size w w1 from by rw [hw]; exact below_alloc (below_alloc (Below.refl _ _) _) _)
  clear hw
  simp only [World.size_alloc]
  have hcs_0 : w1.cell? ⟨w.heap.size + 1, 0, none⟩ = some (.string ⟨#[107, 101, 101, 112]⟩) := (blk_cell BS.out 0).trans rfl
  have hcs_1 : w1.cell? ⟨w.heap.size + 1, 1, none⟩ = some (.string what) := (blk_cell BS.out 1).trans rfl
  go_wp2_with fail
  go_still_tail 8, (by kernel_rfl)
  change wpList _ _ _ _ _ w1.drew
  have BA2 := Aside0.mk (blk_drew BA.out)
  have BS2 := Aside0.mk (blk_drew BS.out)
  have HB2 := Aside0.mk (below_drew HB.out)
  clear BA BS HB hcs_0 hcs_1
  generalize w1.drew = w2 at BA2 BS2 HB2 ⊢
  have hfz_0 := blk_frozen BA2.out 0
  have hfz_1 := blk_frozen BA2.out 1
  have hfz_2 := blk_frozen BA2.out 2
  have hfz_3 := blk_frozen BA2.out 3
  have hcz_0 : w2.cell? ⟨w.heap.size, 0, none⟩ = some (.bool false) := (blk_cell BA2.out 0).trans rfl
  have hcz_1 : w2.cell? ⟨w.heap.size, 1, none⟩ = some (.string ⟨#[]⟩) := (blk_cell BA2.out 1).trans rfl
  have hcz_2 : w2.cell? ⟨w.heap.size, 2, none⟩ = some (.int .u64 0) := (blk_cell BA2.out 2).trans rfl
  have hcz_3 : w2.cell? ⟨w.heap.size, 3, none⟩ = some (.string ⟨#[]⟩) := (blk_cell BA2.out 3).trans rfl
  go_wp2_with fail
  refine (policy_form.calls 1 what 1 lo hi _ HF.out).mono ?_
  rintro e w3 ⟨rfl, hD⟩
  have hch := blk_set (blk_set (blk_set (blk_set BA2.out 0 (.bool true)) 1 (.string what)) 2 (.int .u64 0)) 3 (.string ⟨#[]⟩)
  simp only [List.setIfInBounds_toArray, List.set_cons_zero, List.set_cons_succ] at hch
  have hb := Drawn0.below hD
  have BA3 := Aside0.mk (blk_below hch hb)
  have BS3 := Aside0.mk (show w3.heap[w.heap.size + 1]? = _ from blk_below (blk_far (blk_far (blk_far (blk_far BS2.out (by simp) _) (by simp) _) (by simp) _) (by simp) _) hb)
  have HB3 := Aside0.mk (show Below w.heap.size w w3 from by
    refine below_step ?_ hb
    (repeat refine below_set ?_ (Nat.le_refl _))
    exact HB2.out)
  clear hb hch hD BA2 BS2 HB2 hfz_0 hfz_1 hfz_2 hfz_3 hcz_0 hcz_1 hcz_2 hcz_3
  have hcz_0 : w3.cell? ⟨w.heap.size, 0, none⟩ = some (.bool true) := (blk_cell BA3.out 0).trans rfl
  have hcz_1 : w3.cell? ⟨w.heap.size, 1, none⟩ = some (.string what) := (blk_cell BA3.out 1).trans rfl
  have hcz_2 : w3.cell? ⟨w.heap.size, 2, none⟩ = some (.int .u64 0) := (blk_cell BA3.out 2).trans rfl
  have hcz_3 : w3.cell? ⟨w.heap.size, 3, none⟩ = some (.string ⟨#[]⟩) := (blk_cell BA3.out 3).trans rfl
  have hfz_0 := blk_frozen BA3.out 0
  have hfz_1 := blk_frozen BA3.out 1
  have hfz_2 := blk_frozen BA3.out 2
  have hfz_3 := blk_frozen BA3.out 3
  go_wp2_with fail
  go_region_with (go_at_call 20; refine (right_calls true what 0 ⟨#[]⟩ _).mono ?_; rintro e w8 ⟨rfl, hb4⟩; have BB := Aside0.mk (blk_below (blk_drew BA3.out) hb4); have HBB := Aside0.mk (below_step (below_drew HB3.out) hb4); clear hb4; have hcy_0 : w8.cell? ⟨w.heap.size, 0, none⟩ = some (.bool true) := (blk_cell BB.out 0).trans rfl; have hfy_0 := blk_frozen BB.out 0; have hcy_1 : w8.cell? ⟨w.heap.size, 1, none⟩ = some (.string what) := (blk_cell BB.out 1).trans rfl; have hfy_1 := blk_frozen BB.out 1; have hcy_2 : w8.cell? ⟨w.heap.size, 2, none⟩ = some (.int .u64 0) := (blk_cell BB.out 2).trans rfl; have hfy_2 := blk_frozen BB.out 2; have hcy_3 : w8.cell? ⟨w.heap.size, 3, none⟩ = some (.string ⟨#[]⟩) := (blk_cell BB.out 3).trans rfl; have hfy_3 := blk_frozen BB.out 3; rw [HR.out])
  all_goals
    have hch := blk_set (blk_set (blk_set (blk_set BB.out 0 (.bool true)) 1 (.string what)) 2 (.int .u64 0)) 3 (.string ⟨#[]⟩)
    simp only [List.setIfInBounds_toArray, List.set_cons_zero, List.set_cons_succ] at hch
    have BF := Aside0.mk hch
    have HBF := Aside0.mk (show Below w.heap.size w ((((w8.setCell ⟨w.heap.size, 0, none⟩ (.bool true)).setCell ⟨w.heap.size, 1, none⟩ (.string what)).setCell ⟨w.heap.size, 2, none⟩ (.int .u64 0)).setCell ⟨w.heap.size, 3, none⟩ (.string ⟨#[]⟩)) from by (repeat refine below_set ?_ (Nat.le_refl _)); exact HBB.out)
    clear hch hcy_0 hcy_1 hcy_2 hcy_3 hfy_0 hfy_1 hfy_2 hfy_3 hcz_0 hcz_1 hcz_2 hcz_3 hfz_0 hfz_1 hfz_2 hfz_3
    generalize ((((w8.setCell ⟨w.heap.size, 0, none⟩ (.bool true)).setCell ⟨w.heap.size, 1, none⟩ (.string what)).setCell ⟨w.heap.size, 2, none⟩ (.int .u64 0)).setCell ⟨w.heap.size, 3, none⟩ (.string ⟨#[]⟩)) = w9 at BF HBF ⊢
    have hcx_0 : w9.cell? ⟨w.heap.size, 0, none⟩ = some (.bool true) := (blk_cell BF.out 0).trans rfl
    have hcx_1 : w9.cell? ⟨w.heap.size, 1, none⟩ = some (.string what) := (blk_cell BF.out 1).trans rfl
    have hcx_2 : w9.cell? ⟨w.heap.size, 2, none⟩ = some (.int .u64 0) := (blk_cell BF.out 2).trans rfl
    have hcx_3 : w9.cell? ⟨w.heap.size, 3, none⟩ = some (.string ⟨#[]⟩) := (blk_cell BF.out 3).trans rfl
    go_wp2
    exact bodyPost_ret (v := .tuple #[.agg #[.bool true, .string what, .int .u64 0, .string ⟨#[]⟩], .bool true]) (by simp [results, Tryz.results24, go_sem, hcx_0, hcx_1, hcx_2, hcx_3]) rfl ⟨rfl, HBF.out⟩
set_option maxHeartbeats 16000000 in
set_option maxRecDepth 100000 in
theorem rule_bare_false (what : ByteArray) (lo hi : Int) (w : World) (line : ByteArray) (hsp : ∀ W, Calls Tryz.prog 41 #[.string line, .string ⟨#[32]⟩] W fun e w' => e = .returned (.slice (some ⟨W.heap.size, 0, none⟩) 2 2) ∧ w' = W.alloc (.cells #[.string ⟨#[100, 114, 111, 112]⟩, .string what] 9)) (hf : policy_form.f 1 what = some (1, lo, hi)) (hr : rightB what 0 ⟨#[]⟩ = true) :
    Calls Tryz.prog 24 #[.string line] w fun e w' => e = .returned (.tuple #[.agg #[.bool false, .string what, .int .u64 0, .string ⟨#[]⟩], .bool true]) ∧ Below w.heap.size w w' := by
  have HS := Aside0.mk hsp
  have HF := Aside0.mk hf
  have HR := Aside0.mk hr
  clear hsp hf hr
  go_enter Tryz.func24, Tryz.ntmps24
  go_wp2_with fail
  refine (HS.out _).mono ?_
  rintro e w1 ⟨rfl, hw⟩
  have BA := Aside0.mk (show w1.heap[w.heap.size]? = some (.cells #[.bool false, .string ⟨#[]⟩, .int .u64 0, .string ⟨#[]⟩] 46) from by rw [hw]; exact blk_alloc (heap_alloc_new w _) _)
  have BS := Aside0.mk (show w1.heap[w.heap.size + 1]? = some (.cells #[.string ⟨#[100, 114, 111, 112]⟩, .string what] 9) from by rw [hw]; have := heap_alloc_new (w.alloc (.cells #[.bool false, .string ⟨#[]⟩, .int .u64 0, .string ⟨#[]⟩] 46)) (.cells #[.string ⟨#[100, 114, 111, 112]⟩, .string what] 9); rw [World.size_alloc] at this; exact this)
  have HB := Aside0.mk (show Below w.heap.size w w1 from by rw [hw]; exact below_alloc (below_alloc (Below.refl _ _) _) _)
  clear hw
  simp only [World.size_alloc]
  have hcs_0 : w1.cell? ⟨w.heap.size + 1, 0, none⟩ = some (.string ⟨#[100, 114, 111, 112]⟩) := (blk_cell BS.out 0).trans rfl
  have hcs_1 : w1.cell? ⟨w.heap.size + 1, 1, none⟩ = some (.string what) := (blk_cell BS.out 1).trans rfl
  go_wp2_with fail
  go_still_tail 8, (by kernel_rfl)
  change wpList _ _ _ _ _ w1.drew
  have BA2 := Aside0.mk (blk_drew BA.out)
  have BS2 := Aside0.mk (blk_drew BS.out)
  have HB2 := Aside0.mk (below_drew HB.out)
  clear BA BS HB hcs_0 hcs_1
  generalize w1.drew = w2 at BA2 BS2 HB2 ⊢
  have hfz_0 := blk_frozen BA2.out 0
  have hfz_1 := blk_frozen BA2.out 1
  have hfz_2 := blk_frozen BA2.out 2
  have hfz_3 := blk_frozen BA2.out 3
  have hcz_0 : w2.cell? ⟨w.heap.size, 0, none⟩ = some (.bool false) := (blk_cell BA2.out 0).trans rfl
  have hcz_1 : w2.cell? ⟨w.heap.size, 1, none⟩ = some (.string ⟨#[]⟩) := (blk_cell BA2.out 1).trans rfl
  have hcz_2 : w2.cell? ⟨w.heap.size, 2, none⟩ = some (.int .u64 0) := (blk_cell BA2.out 2).trans rfl
  have hcz_3 : w2.cell? ⟨w.heap.size, 3, none⟩ = some (.string ⟨#[]⟩) := (blk_cell BA2.out 3).trans rfl
  go_wp2_with fail
  refine (policy_form.calls 1 what 1 lo hi _ HF.out).mono ?_
  rintro e w3 ⟨rfl, hD⟩
  have hch := blk_set (blk_set (blk_set (blk_set BA2.out 0 (.bool false)) 1 (.string what)) 2 (.int .u64 0)) 3 (.string ⟨#[]⟩)
  simp only [List.setIfInBounds_toArray, List.set_cons_zero, List.set_cons_succ] at hch
  have hb := Drawn0.below hD
  have BA3 := Aside0.mk (blk_below hch hb)
  have BS3 := Aside0.mk (show w3.heap[w.heap.size + 1]? = _ from blk_below (blk_far (blk_far (blk_far (blk_far BS2.out (by simp) _) (by simp) _) (by simp) _) (by simp) _) hb)
  have HB3 := Aside0.mk (show Below w.heap.size w w3 from by
    refine below_step ?_ hb
    (repeat refine below_set ?_ (Nat.le_refl _))
    exact HB2.out)
  clear hb hch hD BA2 BS2 HB2 hfz_0 hfz_1 hfz_2 hfz_3 hcz_0 hcz_1 hcz_2 hcz_3
  have hcz_0 : w3.cell? ⟨w.heap.size, 0, none⟩ = some (.bool false) := (blk_cell BA3.out 0).trans rfl
  have hcz_1 : w3.cell? ⟨w.heap.size, 1, none⟩ = some (.string what) := (blk_cell BA3.out 1).trans rfl
  have hcz_2 : w3.cell? ⟨w.heap.size, 2, none⟩ = some (.int .u64 0) := (blk_cell BA3.out 2).trans rfl
  have hcz_3 : w3.cell? ⟨w.heap.size, 3, none⟩ = some (.string ⟨#[]⟩) := (blk_cell BA3.out 3).trans rfl
  have hfz_0 := blk_frozen BA3.out 0
  have hfz_1 := blk_frozen BA3.out 1
  have hfz_2 := blk_frozen BA3.out 2
  have hfz_3 := blk_frozen BA3.out 3
  go_wp2_with fail
  go_region_with (go_at_call 20; refine (right_calls false what 0 ⟨#[]⟩ _).mono ?_; rintro e w8 ⟨rfl, hb4⟩; have BB := Aside0.mk (blk_below (blk_drew BA3.out) hb4); have HBB := Aside0.mk (below_step (below_drew HB3.out) hb4); clear hb4; have hcy_0 : w8.cell? ⟨w.heap.size, 0, none⟩ = some (.bool false) := (blk_cell BB.out 0).trans rfl; have hfy_0 := blk_frozen BB.out 0; have hcy_1 : w8.cell? ⟨w.heap.size, 1, none⟩ = some (.string what) := (blk_cell BB.out 1).trans rfl; have hfy_1 := blk_frozen BB.out 1; have hcy_2 : w8.cell? ⟨w.heap.size, 2, none⟩ = some (.int .u64 0) := (blk_cell BB.out 2).trans rfl; have hfy_2 := blk_frozen BB.out 2; have hcy_3 : w8.cell? ⟨w.heap.size, 3, none⟩ = some (.string ⟨#[]⟩) := (blk_cell BB.out 3).trans rfl; have hfy_3 := blk_frozen BB.out 3; rw [HR.out])
  all_goals
    have hch := blk_set (blk_set (blk_set (blk_set BB.out 0 (.bool false)) 1 (.string what)) 2 (.int .u64 0)) 3 (.string ⟨#[]⟩)
    simp only [List.setIfInBounds_toArray, List.set_cons_zero, List.set_cons_succ] at hch
    have BF := Aside0.mk hch
    have HBF := Aside0.mk (show Below w.heap.size w ((((w8.setCell ⟨w.heap.size, 0, none⟩ (.bool false)).setCell ⟨w.heap.size, 1, none⟩ (.string what)).setCell ⟨w.heap.size, 2, none⟩ (.int .u64 0)).setCell ⟨w.heap.size, 3, none⟩ (.string ⟨#[]⟩)) from by (repeat refine below_set ?_ (Nat.le_refl _)); exact HBB.out)
    clear hch hcy_0 hcy_1 hcy_2 hcy_3 hfy_0 hfy_1 hfy_2 hfy_3 hcz_0 hcz_1 hcz_2 hcz_3 hfz_0 hfz_1 hfz_2 hfz_3
    generalize ((((w8.setCell ⟨w.heap.size, 0, none⟩ (.bool false)).setCell ⟨w.heap.size, 1, none⟩ (.string what)).setCell ⟨w.heap.size, 2, none⟩ (.int .u64 0)).setCell ⟨w.heap.size, 3, none⟩ (.string ⟨#[]⟩)) = w9 at BF HBF ⊢
    have hcx_0 : w9.cell? ⟨w.heap.size, 0, none⟩ = some (.bool false) := (blk_cell BF.out 0).trans rfl
    have hcx_1 : w9.cell? ⟨w.heap.size, 1, none⟩ = some (.string what) := (blk_cell BF.out 1).trans rfl
    have hcx_2 : w9.cell? ⟨w.heap.size, 2, none⟩ = some (.int .u64 0) := (blk_cell BF.out 2).trans rfl
    have hcx_3 : w9.cell? ⟨w.heap.size, 3, none⟩ = some (.string ⟨#[]⟩) := (blk_cell BF.out 3).trans rfl
    go_wp2
    exact bodyPost_ret (v := .tuple #[.agg #[.bool false, .string what, .int .u64 0, .string ⟨#[]⟩], .bool true]) (by simp [results, Tryz.results24, go_sem, hcx_0, hcx_1, hcx_2, hcx_3]) rfl ⟨rfl, HBF.out⟩
set_option maxHeartbeats 16000000 in
set_option maxRecDepth 100000 in
theorem rule_counted_true (what : ByteArray) (lo hi : Int) (w : World) (num : Nat) (hn : num < 1844674407370955162) (htab : Pow10 w) (line : ByteArray) (hsp : ∀ W, Calls Tryz.prog 41 #[.string line, .string ⟨#[32]⟩] W fun e w' => e = .returned (.slice (some ⟨W.heap.size, 0, none⟩) 3 3) ∧ w' = W.alloc (.cells #[.string ⟨#[107, 101, 101, 112]⟩, .string what, .string ⟨(decDigits num).toArray⟩] 9)) (hf : policy_form.f 1 what = some (2, lo, hi)) (hr : rightB what num ⟨#[]⟩ = true) :
    Calls Tryz.prog 24 #[.string line] w fun e w' => e = .returned (.tuple #[.agg #[.bool true, .string what, .int .u64 num, .string ⟨#[]⟩], .bool true]) ∧ Below w.heap.size w w' := by
  have HS := Aside0.mk hsp
  have HF := Aside0.mk hf
  have HR := Aside0.mk hr
  clear hsp hf hr
  have HT := Aside0.mk htab
  have HN := Aside0.mk hn
  clear htab hn
  go_enter Tryz.func24, Tryz.ntmps24
  go_wp2_with fail
  refine (HS.out _).mono ?_
  rintro e w1 ⟨rfl, hw⟩
  have BA := Aside0.mk (show w1.heap[w.heap.size]? = some (.cells #[.bool false, .string ⟨#[]⟩, .int .u64 0, .string ⟨#[]⟩] 46) from by rw [hw]; exact blk_alloc (heap_alloc_new w _) _)
  have BS := Aside0.mk (show w1.heap[w.heap.size + 1]? = some (.cells #[.string ⟨#[107, 101, 101, 112]⟩, .string what, .string ⟨(decDigits num).toArray⟩] 9) from by rw [hw]; have := heap_alloc_new (w.alloc (.cells #[.bool false, .string ⟨#[]⟩, .int .u64 0, .string ⟨#[]⟩] 46)) (.cells #[.string ⟨#[107, 101, 101, 112]⟩, .string what, .string ⟨(decDigits num).toArray⟩] 9); rw [World.size_alloc] at this; exact this)
  have HB := Aside0.mk (show Below w.heap.size w w1 from by rw [hw]; exact below_alloc (below_alloc (Below.refl _ _) _) _)
  clear hw
  simp only [World.size_alloc]
  have hcs_0 : w1.cell? ⟨w.heap.size + 1, 0, none⟩ = some (.string ⟨#[107, 101, 101, 112]⟩) := (blk_cell BS.out 0).trans rfl
  have hcs_1 : w1.cell? ⟨w.heap.size + 1, 1, none⟩ = some (.string what) := (blk_cell BS.out 1).trans rfl
  go_wp2_with fail
  go_still_tail 8, (by kernel_rfl)
  change wpList _ _ _ _ _ w1.drew
  have BA2 := Aside0.mk (blk_drew BA.out)
  have BS2 := Aside0.mk (blk_drew BS.out)
  have HB2 := Aside0.mk (below_drew HB.out)
  clear BA BS HB hcs_0 hcs_1
  generalize w1.drew = w2 at BA2 BS2 HB2 ⊢
  have hfz_0 := blk_frozen BA2.out 0
  have hfz_1 := blk_frozen BA2.out 1
  have hfz_2 := blk_frozen BA2.out 2
  have hfz_3 := blk_frozen BA2.out 3
  have hcz_0 : w2.cell? ⟨w.heap.size, 0, none⟩ = some (.bool false) := (blk_cell BA2.out 0).trans rfl
  have hcz_1 : w2.cell? ⟨w.heap.size, 1, none⟩ = some (.string ⟨#[]⟩) := (blk_cell BA2.out 1).trans rfl
  have hcz_2 : w2.cell? ⟨w.heap.size, 2, none⟩ = some (.int .u64 0) := (blk_cell BA2.out 2).trans rfl
  have hcz_3 : w2.cell? ⟨w.heap.size, 3, none⟩ = some (.string ⟨#[]⟩) := (blk_cell BA2.out 3).trans rfl
  go_wp2_with fail
  refine (policy_form.calls 1 what 2 lo hi _ HF.out).mono ?_
  rintro e w3 ⟨rfl, hD⟩
  have hch := blk_set (blk_set (blk_set (blk_set BA2.out 0 (.bool true)) 1 (.string what)) 2 (.int .u64 0)) 3 (.string ⟨#[]⟩)
  simp only [List.setIfInBounds_toArray, List.set_cons_zero, List.set_cons_succ] at hch
  have hb := Drawn0.below hD
  have BA3 := Aside0.mk (blk_below hch hb)
  have BS3 := Aside0.mk (show w3.heap[w.heap.size + 1]? = _ from blk_below (blk_far (blk_far (blk_far (blk_far BS2.out (by simp) _) (by simp) _) (by simp) _) (by simp) _) hb)
  have HB3 := Aside0.mk (show Below w.heap.size w w3 from by
    refine below_step ?_ hb
    (repeat refine below_set ?_ (Nat.le_refl _))
    exact HB2.out)
  clear hb hch hD BA2 BS2 HB2 hfz_0 hfz_1 hfz_2 hfz_3 hcz_0 hcz_1 hcz_2 hcz_3
  have hcs_2 : w3.cell? ⟨w.heap.size + 1, 2, none⟩ = some (.string ⟨(decDigits num).toArray⟩) := (blk_cell BS3.out 2).trans rfl
  go_wp2_with fail
  refine (parseDigits num HN.out _).mono ?_
  rintro e w4 ⟨rfl, hb⟩
  have BA4 := Aside0.mk (blk_below BA3.out hb)
  have BS4 := Aside0.mk (blk_below BS3.out hb)
  have HB4 := Aside0.mk (below_step HB3.out hb)
  clear hb BA3 BS3 HB3 hcs_2
  have hcs_2 : w4.cell? ⟨w.heap.size + 1, 2, none⟩ = some (.string ⟨(decDigits num).toArray⟩) := (blk_cell BS4.out 2).trans rfl
  have hcz_0 : w4.cell? ⟨w.heap.size, 0, none⟩ = some (.bool true) := (blk_cell BA4.out 0).trans rfl
  have hcz_1 : w4.cell? ⟨w.heap.size, 1, none⟩ = some (.string what) := (blk_cell BA4.out 1).trans rfl
  have hcz_2 : w4.cell? ⟨w.heap.size, 2, none⟩ = some (.int .u64 0) := (blk_cell BA4.out 2).trans rfl
  have hcz_3 : w4.cell? ⟨w.heap.size, 3, none⟩ = some (.string ⟨#[]⟩) := (blk_cell BA4.out 3).trans rfl
  go_wp2_with fail
  go_region_with (go_at_call 15; refine (fmtUint num (by have := HN.out; omega) _ (HT.out.below (below_drew HB4.out))).mono ?_; rintro e w5 ⟨rfl, hb5⟩; have BB := Aside0.mk (blk_below (blk_drew BA4.out) hb5); have BSS := Aside0.mk (blk_below (blk_drew BS4.out) hb5); have HBB := Aside0.mk (below_step (below_drew HB4.out) hb5); clear hb5; have hcy_2 : w5.cell? ⟨w.heap.size + 1, 2, none⟩ = some (.string ⟨(decDigits num).toArray⟩) := (blk_cell BSS.out 2).trans rfl)
  all_goals
    clear hcy_2 hcs_2 hcz_0 hcz_1 hcz_2 hcz_3
    have hcz_2 : w5.cell? ⟨w.heap.size, 2, none⟩ = some (.int .u64 0) := (blk_cell BB.out 2).trans rfl
    have hfz_2 := blk_frozen BB.out 2
    go_wp2_with fail
    have hch := blk_set BB.out 2 (.int .u64 num)
    simp only [List.setIfInBounds_toArray, List.set_cons_zero, List.set_cons_succ] at hch
    have BA6 := Aside0.mk hch
    have HB6 := Aside0.mk (show Below w.heap.size w (w5.setCell ⟨w.heap.size, 2, none⟩ (.int .u64 num)) from below_set HBB.out (Nat.le_refl _))
    clear hch hcz_2 hfz_2 BB BSS HBB
    generalize w5.setCell ⟨w.heap.size, 2, none⟩ (.int .u64 num) = w6 at BA6 HB6 ⊢
    have hcz_0 : w6.cell? ⟨w.heap.size, 0, none⟩ = some (.bool true) := (blk_cell BA6.out 0).trans rfl
    have hcz_1 : w6.cell? ⟨w.heap.size, 1, none⟩ = some (.string what) := (blk_cell BA6.out 1).trans rfl
    have hcz_2 : w6.cell? ⟨w.heap.size, 2, none⟩ = some (.int .u64 num) := (blk_cell BA6.out 2).trans rfl
    have hcz_3 : w6.cell? ⟨w.heap.size, 3, none⟩ = some (.string ⟨#[]⟩) := (blk_cell BA6.out 3).trans rfl
    have hfz_0 := blk_frozen BA6.out 0
    have hfz_1 := blk_frozen BA6.out 1
    have hfz_2 := blk_frozen BA6.out 2
    have hfz_3 := blk_frozen BA6.out 3
    go_wp2_with fail
    go_region_with (go_at_call 20; refine (right_calls true what num ⟨#[]⟩ _).mono ?_; rintro e w8 ⟨rfl, hb4⟩; have BB := Aside0.mk (blk_below (blk_drew BA6.out) hb4); have HBB := Aside0.mk (below_step (below_drew HB6.out) hb4); clear hb4; have hcy_0 : w8.cell? ⟨w.heap.size, 0, none⟩ = some (.bool true) := (blk_cell BB.out 0).trans rfl; have hfy_0 := blk_frozen BB.out 0; have hcy_1 : w8.cell? ⟨w.heap.size, 1, none⟩ = some (.string what) := (blk_cell BB.out 1).trans rfl; have hfy_1 := blk_frozen BB.out 1; have hcy_2 : w8.cell? ⟨w.heap.size, 2, none⟩ = some (.int .u64 num) := (blk_cell BB.out 2).trans rfl; have hfy_2 := blk_frozen BB.out 2; have hcy_3 : w8.cell? ⟨w.heap.size, 3, none⟩ = some (.string ⟨#[]⟩) := (blk_cell BB.out 3).trans rfl; have hfy_3 := blk_frozen BB.out 3; rw [HR.out])
    all_goals
      have hch := blk_set (blk_set (blk_set (blk_set BB.out 0 (.bool true)) 1 (.string what)) 2 (.int .u64 num)) 3 (.string ⟨#[]⟩)
      simp only [List.setIfInBounds_toArray, List.set_cons_zero, List.set_cons_succ] at hch
      have BF := Aside0.mk hch
      have HBF := Aside0.mk (show Below w.heap.size w ((((w8.setCell ⟨w.heap.size, 0, none⟩ (.bool true)).setCell ⟨w.heap.size, 1, none⟩ (.string what)).setCell ⟨w.heap.size, 2, none⟩ (.int .u64 num)).setCell ⟨w.heap.size, 3, none⟩ (.string ⟨#[]⟩)) from by (repeat refine below_set ?_ (Nat.le_refl _)); exact HBB.out)
      clear hch hcy_0 hcy_1 hcy_2 hcy_3 hfy_0 hfy_1 hfy_2 hfy_3 hcz_0 hcz_1 hcz_2 hcz_3 hfz_0 hfz_1 hfz_2 hfz_3
      generalize ((((w8.setCell ⟨w.heap.size, 0, none⟩ (.bool true)).setCell ⟨w.heap.size, 1, none⟩ (.string what)).setCell ⟨w.heap.size, 2, none⟩ (.int .u64 num)).setCell ⟨w.heap.size, 3, none⟩ (.string ⟨#[]⟩)) = w9 at BF HBF ⊢
      have hcx_0 : w9.cell? ⟨w.heap.size, 0, none⟩ = some (.bool true) := (blk_cell BF.out 0).trans rfl
      have hcx_1 : w9.cell? ⟨w.heap.size, 1, none⟩ = some (.string what) := (blk_cell BF.out 1).trans rfl
      have hcx_2 : w9.cell? ⟨w.heap.size, 2, none⟩ = some (.int .u64 num) := (blk_cell BF.out 2).trans rfl
      have hcx_3 : w9.cell? ⟨w.heap.size, 3, none⟩ = some (.string ⟨#[]⟩) := (blk_cell BF.out 3).trans rfl
      go_wp2
      exact bodyPost_ret (v := .tuple #[.agg #[.bool true, .string what, .int .u64 num, .string ⟨#[]⟩], .bool true]) (by simp [results, Tryz.results24, go_sem, hcx_0, hcx_1, hcx_2, hcx_3]) rfl ⟨rfl, HBF.out⟩
set_option maxHeartbeats 16000000 in
set_option maxRecDepth 100000 in
theorem rule_counted_false (what : ByteArray) (lo hi : Int) (w : World) (num : Nat) (hn : num < 1844674407370955162) (htab : Pow10 w) (line : ByteArray) (hsp : ∀ W, Calls Tryz.prog 41 #[.string line, .string ⟨#[32]⟩] W fun e w' => e = .returned (.slice (some ⟨W.heap.size, 0, none⟩) 3 3) ∧ w' = W.alloc (.cells #[.string ⟨#[100, 114, 111, 112]⟩, .string what, .string ⟨(decDigits num).toArray⟩] 9)) (hf : policy_form.f 1 what = some (2, lo, hi)) (hr : rightB what num ⟨#[]⟩ = true) :
    Calls Tryz.prog 24 #[.string line] w fun e w' => e = .returned (.tuple #[.agg #[.bool false, .string what, .int .u64 num, .string ⟨#[]⟩], .bool true]) ∧ Below w.heap.size w w' := by
  have HS := Aside0.mk hsp
  have HF := Aside0.mk hf
  have HR := Aside0.mk hr
  clear hsp hf hr
  have HT := Aside0.mk htab
  have HN := Aside0.mk hn
  clear htab hn
  go_enter Tryz.func24, Tryz.ntmps24
  go_wp2_with fail
  refine (HS.out _).mono ?_
  rintro e w1 ⟨rfl, hw⟩
  have BA := Aside0.mk (show w1.heap[w.heap.size]? = some (.cells #[.bool false, .string ⟨#[]⟩, .int .u64 0, .string ⟨#[]⟩] 46) from by rw [hw]; exact blk_alloc (heap_alloc_new w _) _)
  have BS := Aside0.mk (show w1.heap[w.heap.size + 1]? = some (.cells #[.string ⟨#[100, 114, 111, 112]⟩, .string what, .string ⟨(decDigits num).toArray⟩] 9) from by rw [hw]; have := heap_alloc_new (w.alloc (.cells #[.bool false, .string ⟨#[]⟩, .int .u64 0, .string ⟨#[]⟩] 46)) (.cells #[.string ⟨#[100, 114, 111, 112]⟩, .string what, .string ⟨(decDigits num).toArray⟩] 9); rw [World.size_alloc] at this; exact this)
  have HB := Aside0.mk (show Below w.heap.size w w1 from by rw [hw]; exact below_alloc (below_alloc (Below.refl _ _) _) _)
  clear hw
  simp only [World.size_alloc]
  have hcs_0 : w1.cell? ⟨w.heap.size + 1, 0, none⟩ = some (.string ⟨#[100, 114, 111, 112]⟩) := (blk_cell BS.out 0).trans rfl
  have hcs_1 : w1.cell? ⟨w.heap.size + 1, 1, none⟩ = some (.string what) := (blk_cell BS.out 1).trans rfl
  go_wp2_with fail
  go_still_tail 8, (by kernel_rfl)
  change wpList _ _ _ _ _ w1.drew
  have BA2 := Aside0.mk (blk_drew BA.out)
  have BS2 := Aside0.mk (blk_drew BS.out)
  have HB2 := Aside0.mk (below_drew HB.out)
  clear BA BS HB hcs_0 hcs_1
  generalize w1.drew = w2 at BA2 BS2 HB2 ⊢
  have hfz_0 := blk_frozen BA2.out 0
  have hfz_1 := blk_frozen BA2.out 1
  have hfz_2 := blk_frozen BA2.out 2
  have hfz_3 := blk_frozen BA2.out 3
  have hcz_0 : w2.cell? ⟨w.heap.size, 0, none⟩ = some (.bool false) := (blk_cell BA2.out 0).trans rfl
  have hcz_1 : w2.cell? ⟨w.heap.size, 1, none⟩ = some (.string ⟨#[]⟩) := (blk_cell BA2.out 1).trans rfl
  have hcz_2 : w2.cell? ⟨w.heap.size, 2, none⟩ = some (.int .u64 0) := (blk_cell BA2.out 2).trans rfl
  have hcz_3 : w2.cell? ⟨w.heap.size, 3, none⟩ = some (.string ⟨#[]⟩) := (blk_cell BA2.out 3).trans rfl
  go_wp2_with fail
  refine (policy_form.calls 1 what 2 lo hi _ HF.out).mono ?_
  rintro e w3 ⟨rfl, hD⟩
  have hch := blk_set (blk_set (blk_set (blk_set BA2.out 0 (.bool false)) 1 (.string what)) 2 (.int .u64 0)) 3 (.string ⟨#[]⟩)
  simp only [List.setIfInBounds_toArray, List.set_cons_zero, List.set_cons_succ] at hch
  have hb := Drawn0.below hD
  have BA3 := Aside0.mk (blk_below hch hb)
  have BS3 := Aside0.mk (show w3.heap[w.heap.size + 1]? = _ from blk_below (blk_far (blk_far (blk_far (blk_far BS2.out (by simp) _) (by simp) _) (by simp) _) (by simp) _) hb)
  have HB3 := Aside0.mk (show Below w.heap.size w w3 from by
    refine below_step ?_ hb
    (repeat refine below_set ?_ (Nat.le_refl _))
    exact HB2.out)
  clear hb hch hD BA2 BS2 HB2 hfz_0 hfz_1 hfz_2 hfz_3 hcz_0 hcz_1 hcz_2 hcz_3
  have hcs_2 : w3.cell? ⟨w.heap.size + 1, 2, none⟩ = some (.string ⟨(decDigits num).toArray⟩) := (blk_cell BS3.out 2).trans rfl
  go_wp2_with fail
  refine (parseDigits num HN.out _).mono ?_
  rintro e w4 ⟨rfl, hb⟩
  have BA4 := Aside0.mk (blk_below BA3.out hb)
  have BS4 := Aside0.mk (blk_below BS3.out hb)
  have HB4 := Aside0.mk (below_step HB3.out hb)
  clear hb BA3 BS3 HB3 hcs_2
  have hcs_2 : w4.cell? ⟨w.heap.size + 1, 2, none⟩ = some (.string ⟨(decDigits num).toArray⟩) := (blk_cell BS4.out 2).trans rfl
  have hcz_0 : w4.cell? ⟨w.heap.size, 0, none⟩ = some (.bool false) := (blk_cell BA4.out 0).trans rfl
  have hcz_1 : w4.cell? ⟨w.heap.size, 1, none⟩ = some (.string what) := (blk_cell BA4.out 1).trans rfl
  have hcz_2 : w4.cell? ⟨w.heap.size, 2, none⟩ = some (.int .u64 0) := (blk_cell BA4.out 2).trans rfl
  have hcz_3 : w4.cell? ⟨w.heap.size, 3, none⟩ = some (.string ⟨#[]⟩) := (blk_cell BA4.out 3).trans rfl
  go_wp2_with fail
  go_region_with (go_at_call 15; refine (fmtUint num (by have := HN.out; omega) _ (HT.out.below (below_drew HB4.out))).mono ?_; rintro e w5 ⟨rfl, hb5⟩; have BB := Aside0.mk (blk_below (blk_drew BA4.out) hb5); have BSS := Aside0.mk (blk_below (blk_drew BS4.out) hb5); have HBB := Aside0.mk (below_step (below_drew HB4.out) hb5); clear hb5; have hcy_2 : w5.cell? ⟨w.heap.size + 1, 2, none⟩ = some (.string ⟨(decDigits num).toArray⟩) := (blk_cell BSS.out 2).trans rfl)
  all_goals
    clear hcy_2 hcs_2 hcz_0 hcz_1 hcz_2 hcz_3
    have hcz_2 : w5.cell? ⟨w.heap.size, 2, none⟩ = some (.int .u64 0) := (blk_cell BB.out 2).trans rfl
    have hfz_2 := blk_frozen BB.out 2
    go_wp2_with fail
    have hch := blk_set BB.out 2 (.int .u64 num)
    simp only [List.setIfInBounds_toArray, List.set_cons_zero, List.set_cons_succ] at hch
    have BA6 := Aside0.mk hch
    have HB6 := Aside0.mk (show Below w.heap.size w (w5.setCell ⟨w.heap.size, 2, none⟩ (.int .u64 num)) from below_set HBB.out (Nat.le_refl _))
    clear hch hcz_2 hfz_2 BB BSS HBB
    generalize w5.setCell ⟨w.heap.size, 2, none⟩ (.int .u64 num) = w6 at BA6 HB6 ⊢
    have hcz_0 : w6.cell? ⟨w.heap.size, 0, none⟩ = some (.bool false) := (blk_cell BA6.out 0).trans rfl
    have hcz_1 : w6.cell? ⟨w.heap.size, 1, none⟩ = some (.string what) := (blk_cell BA6.out 1).trans rfl
    have hcz_2 : w6.cell? ⟨w.heap.size, 2, none⟩ = some (.int .u64 num) := (blk_cell BA6.out 2).trans rfl
    have hcz_3 : w6.cell? ⟨w.heap.size, 3, none⟩ = some (.string ⟨#[]⟩) := (blk_cell BA6.out 3).trans rfl
    have hfz_0 := blk_frozen BA6.out 0
    have hfz_1 := blk_frozen BA6.out 1
    have hfz_2 := blk_frozen BA6.out 2
    have hfz_3 := blk_frozen BA6.out 3
    go_wp2_with fail
    go_region_with (go_at_call 20; refine (right_calls false what num ⟨#[]⟩ _).mono ?_; rintro e w8 ⟨rfl, hb4⟩; have BB := Aside0.mk (blk_below (blk_drew BA6.out) hb4); have HBB := Aside0.mk (below_step (below_drew HB6.out) hb4); clear hb4; have hcy_0 : w8.cell? ⟨w.heap.size, 0, none⟩ = some (.bool false) := (blk_cell BB.out 0).trans rfl; have hfy_0 := blk_frozen BB.out 0; have hcy_1 : w8.cell? ⟨w.heap.size, 1, none⟩ = some (.string what) := (blk_cell BB.out 1).trans rfl; have hfy_1 := blk_frozen BB.out 1; have hcy_2 : w8.cell? ⟨w.heap.size, 2, none⟩ = some (.int .u64 num) := (blk_cell BB.out 2).trans rfl; have hfy_2 := blk_frozen BB.out 2; have hcy_3 : w8.cell? ⟨w.heap.size, 3, none⟩ = some (.string ⟨#[]⟩) := (blk_cell BB.out 3).trans rfl; have hfy_3 := blk_frozen BB.out 3; rw [HR.out])
    all_goals
      have hch := blk_set (blk_set (blk_set (blk_set BB.out 0 (.bool false)) 1 (.string what)) 2 (.int .u64 num)) 3 (.string ⟨#[]⟩)
      simp only [List.setIfInBounds_toArray, List.set_cons_zero, List.set_cons_succ] at hch
      have BF := Aside0.mk hch
      have HBF := Aside0.mk (show Below w.heap.size w ((((w8.setCell ⟨w.heap.size, 0, none⟩ (.bool false)).setCell ⟨w.heap.size, 1, none⟩ (.string what)).setCell ⟨w.heap.size, 2, none⟩ (.int .u64 num)).setCell ⟨w.heap.size, 3, none⟩ (.string ⟨#[]⟩)) from by (repeat refine below_set ?_ (Nat.le_refl _)); exact HBB.out)
      clear hch hcy_0 hcy_1 hcy_2 hcy_3 hfy_0 hfy_1 hfy_2 hfy_3 hcz_0 hcz_1 hcz_2 hcz_3 hfz_0 hfz_1 hfz_2 hfz_3
      generalize ((((w8.setCell ⟨w.heap.size, 0, none⟩ (.bool false)).setCell ⟨w.heap.size, 1, none⟩ (.string what)).setCell ⟨w.heap.size, 2, none⟩ (.int .u64 num)).setCell ⟨w.heap.size, 3, none⟩ (.string ⟨#[]⟩)) = w9 at BF HBF ⊢
      have hcx_0 : w9.cell? ⟨w.heap.size, 0, none⟩ = some (.bool false) := (blk_cell BF.out 0).trans rfl
      have hcx_1 : w9.cell? ⟨w.heap.size, 1, none⟩ = some (.string what) := (blk_cell BF.out 1).trans rfl
      have hcx_2 : w9.cell? ⟨w.heap.size, 2, none⟩ = some (.int .u64 num) := (blk_cell BF.out 2).trans rfl
      have hcx_3 : w9.cell? ⟨w.heap.size, 3, none⟩ = some (.string ⟨#[]⟩) := (blk_cell BF.out 3).trans rfl
      go_wp2
      exact bodyPost_ret (v := .tuple #[.agg #[.bool false, .string what, .int .u64 num, .string ⟨#[]⟩], .bool true]) (by simp [results, Tryz.results24, go_sem, hcx_0, hcx_1, hcx_2, hcx_3]) rfl ⟨rfl, HBF.out⟩
set_option maxHeartbeats 16000000 in
set_option maxRecDepth 100000 in
theorem rule_named_true (what : ByteArray) (lo hi : Int) (w : World) (text : ByteArray) (ht : (32 : UInt8) ∉ text.data.toList) (hlt : text.size ≤ 1000) (line : ByteArray) (hsp : ∀ W, Calls Tryz.prog 41 #[.string line, .string ⟨#[32]⟩] W fun e w' => e = .returned (.slice (some ⟨W.heap.size, 0, none⟩) 3 3) ∧ w' = W.alloc (.cells #[.string ⟨#[107, 101, 101, 112]⟩, .string what, .string text] 9)) (hf : policy_form.f 1 what = some (3, lo, hi)) (hr : rightB what 0 text = true) :
    Calls Tryz.prog 24 #[.string line] w fun e w' => e = .returned (.tuple #[.agg #[.bool true, .string what, .int .u64 0, .string text], .bool true]) ∧ Below w.heap.size w w' := by
  have HS := Aside0.mk hsp
  have HF := Aside0.mk hf
  have HR := Aside0.mk hr
  clear hsp hf hr
  clear ht hlt
  go_enter Tryz.func24, Tryz.ntmps24
  go_wp2_with fail
  refine (HS.out _).mono ?_
  rintro e w1 ⟨rfl, hw⟩
  have BA := Aside0.mk (show w1.heap[w.heap.size]? = some (.cells #[.bool false, .string ⟨#[]⟩, .int .u64 0, .string ⟨#[]⟩] 46) from by rw [hw]; exact blk_alloc (heap_alloc_new w _) _)
  have BS := Aside0.mk (show w1.heap[w.heap.size + 1]? = some (.cells #[.string ⟨#[107, 101, 101, 112]⟩, .string what, .string text] 9) from by rw [hw]; have := heap_alloc_new (w.alloc (.cells #[.bool false, .string ⟨#[]⟩, .int .u64 0, .string ⟨#[]⟩] 46)) (.cells #[.string ⟨#[107, 101, 101, 112]⟩, .string what, .string text] 9); rw [World.size_alloc] at this; exact this)
  have HB := Aside0.mk (show Below w.heap.size w w1 from by rw [hw]; exact below_alloc (below_alloc (Below.refl _ _) _) _)
  clear hw
  simp only [World.size_alloc]
  have hcs_0 : w1.cell? ⟨w.heap.size + 1, 0, none⟩ = some (.string ⟨#[107, 101, 101, 112]⟩) := (blk_cell BS.out 0).trans rfl
  have hcs_1 : w1.cell? ⟨w.heap.size + 1, 1, none⟩ = some (.string what) := (blk_cell BS.out 1).trans rfl
  go_wp2_with fail
  go_still_tail 8, (by kernel_rfl)
  change wpList _ _ _ _ _ w1.drew
  have BA2 := Aside0.mk (blk_drew BA.out)
  have BS2 := Aside0.mk (blk_drew BS.out)
  have HB2 := Aside0.mk (below_drew HB.out)
  clear BA BS HB hcs_0 hcs_1
  generalize w1.drew = w2 at BA2 BS2 HB2 ⊢
  have hfz_0 := blk_frozen BA2.out 0
  have hfz_1 := blk_frozen BA2.out 1
  have hfz_2 := blk_frozen BA2.out 2
  have hfz_3 := blk_frozen BA2.out 3
  have hcz_0 : w2.cell? ⟨w.heap.size, 0, none⟩ = some (.bool false) := (blk_cell BA2.out 0).trans rfl
  have hcz_1 : w2.cell? ⟨w.heap.size, 1, none⟩ = some (.string ⟨#[]⟩) := (blk_cell BA2.out 1).trans rfl
  have hcz_2 : w2.cell? ⟨w.heap.size, 2, none⟩ = some (.int .u64 0) := (blk_cell BA2.out 2).trans rfl
  have hcz_3 : w2.cell? ⟨w.heap.size, 3, none⟩ = some (.string ⟨#[]⟩) := (blk_cell BA2.out 3).trans rfl
  go_wp2_with fail
  refine (policy_form.calls 1 what 3 lo hi _ HF.out).mono ?_
  rintro e w3 ⟨rfl, hD⟩
  have hch := blk_set (blk_set (blk_set (blk_set BA2.out 0 (.bool true)) 1 (.string what)) 2 (.int .u64 0)) 3 (.string ⟨#[]⟩)
  simp only [List.setIfInBounds_toArray, List.set_cons_zero, List.set_cons_succ] at hch
  have hb := Drawn0.below hD
  have BA3 := Aside0.mk (blk_below hch hb)
  have BS3 := Aside0.mk (show w3.heap[w.heap.size + 1]? = _ from blk_below (blk_far (blk_far (blk_far (blk_far BS2.out (by simp) _) (by simp) _) (by simp) _) (by simp) _) hb)
  have HB3 := Aside0.mk (show Below w.heap.size w w3 from by
    refine below_step ?_ hb
    (repeat refine below_set ?_ (Nat.le_refl _))
    exact HB2.out)
  clear hb hch hD BA2 BS2 HB2 hfz_0 hfz_1 hfz_2 hfz_3 hcz_0 hcz_1 hcz_2 hcz_3
  have hcs_2 : w3.cell? ⟨w.heap.size + 1, 2, none⟩ = some (.string text) := (blk_cell BS3.out 2).trans rfl
  have hfz_3 := blk_frozen BA3.out 3
  have hcz_3 : w3.cell? ⟨w.heap.size, 3, none⟩ = some (.string ⟨#[]⟩) := (blk_cell BA3.out 3).trans rfl
  go_wp2_with fail
  have hch := blk_set BA3.out 3 (.string text)
  simp only [List.setIfInBounds_toArray, List.set_cons_zero, List.set_cons_succ] at hch
  have BA6 := Aside0.mk hch
  have HB6 := Aside0.mk (show Below w.heap.size w (w3.setCell ⟨w.heap.size, 3, none⟩ (.string text)) from below_set HB3.out (Nat.le_refl _))
  clear hch hcs_2 hcz_3 hfz_3 BA3 BS3 HB3
  generalize w3.setCell ⟨w.heap.size, 3, none⟩ (.string text) = w6 at BA6 HB6 ⊢
  have hcz_0 : w6.cell? ⟨w.heap.size, 0, none⟩ = some (.bool true) := (blk_cell BA6.out 0).trans rfl
  have hcz_1 : w6.cell? ⟨w.heap.size, 1, none⟩ = some (.string what) := (blk_cell BA6.out 1).trans rfl
  have hcz_2 : w6.cell? ⟨w.heap.size, 2, none⟩ = some (.int .u64 0) := (blk_cell BA6.out 2).trans rfl
  have hcz_3 : w6.cell? ⟨w.heap.size, 3, none⟩ = some (.string text) := (blk_cell BA6.out 3).trans rfl
  have hfz_0 := blk_frozen BA6.out 0
  have hfz_1 := blk_frozen BA6.out 1
  have hfz_2 := blk_frozen BA6.out 2
  have hfz_3 := blk_frozen BA6.out 3
  go_wp2_with fail
  go_region_with (go_at_call 20; refine (right_calls true what 0 text _).mono ?_; rintro e w8 ⟨rfl, hb4⟩; have BB := Aside0.mk (blk_below (blk_drew BA6.out) hb4); have HBB := Aside0.mk (below_step (below_drew HB6.out) hb4); clear hb4; have hcy_0 : w8.cell? ⟨w.heap.size, 0, none⟩ = some (.bool true) := (blk_cell BB.out 0).trans rfl; have hfy_0 := blk_frozen BB.out 0; have hcy_1 : w8.cell? ⟨w.heap.size, 1, none⟩ = some (.string what) := (blk_cell BB.out 1).trans rfl; have hfy_1 := blk_frozen BB.out 1; have hcy_2 : w8.cell? ⟨w.heap.size, 2, none⟩ = some (.int .u64 0) := (blk_cell BB.out 2).trans rfl; have hfy_2 := blk_frozen BB.out 2; have hcy_3 : w8.cell? ⟨w.heap.size, 3, none⟩ = some (.string text) := (blk_cell BB.out 3).trans rfl; have hfy_3 := blk_frozen BB.out 3; rw [HR.out])
  all_goals
    have hch := blk_set (blk_set (blk_set (blk_set BB.out 0 (.bool true)) 1 (.string what)) 2 (.int .u64 0)) 3 (.string text)
    simp only [List.setIfInBounds_toArray, List.set_cons_zero, List.set_cons_succ] at hch
    have BF := Aside0.mk hch
    have HBF := Aside0.mk (show Below w.heap.size w ((((w8.setCell ⟨w.heap.size, 0, none⟩ (.bool true)).setCell ⟨w.heap.size, 1, none⟩ (.string what)).setCell ⟨w.heap.size, 2, none⟩ (.int .u64 0)).setCell ⟨w.heap.size, 3, none⟩ (.string text)) from by (repeat refine below_set ?_ (Nat.le_refl _)); exact HBB.out)
    clear hch hcy_0 hcy_1 hcy_2 hcy_3 hfy_0 hfy_1 hfy_2 hfy_3 hcz_0 hcz_1 hcz_2 hcz_3 hfz_0 hfz_1 hfz_2 hfz_3
    generalize ((((w8.setCell ⟨w.heap.size, 0, none⟩ (.bool true)).setCell ⟨w.heap.size, 1, none⟩ (.string what)).setCell ⟨w.heap.size, 2, none⟩ (.int .u64 0)).setCell ⟨w.heap.size, 3, none⟩ (.string text)) = w9 at BF HBF ⊢
    have hcx_0 : w9.cell? ⟨w.heap.size, 0, none⟩ = some (.bool true) := (blk_cell BF.out 0).trans rfl
    have hcx_1 : w9.cell? ⟨w.heap.size, 1, none⟩ = some (.string what) := (blk_cell BF.out 1).trans rfl
    have hcx_2 : w9.cell? ⟨w.heap.size, 2, none⟩ = some (.int .u64 0) := (blk_cell BF.out 2).trans rfl
    have hcx_3 : w9.cell? ⟨w.heap.size, 3, none⟩ = some (.string text) := (blk_cell BF.out 3).trans rfl
    go_wp2
    exact bodyPost_ret (v := .tuple #[.agg #[.bool true, .string what, .int .u64 0, .string text], .bool true]) (by simp [results, Tryz.results24, go_sem, hcx_0, hcx_1, hcx_2, hcx_3]) rfl ⟨rfl, HBF.out⟩
set_option maxHeartbeats 16000000 in
set_option maxRecDepth 100000 in
theorem rule_named_false (what : ByteArray) (lo hi : Int) (w : World) (text : ByteArray) (ht : (32 : UInt8) ∉ text.data.toList) (hlt : text.size ≤ 1000) (line : ByteArray) (hsp : ∀ W, Calls Tryz.prog 41 #[.string line, .string ⟨#[32]⟩] W fun e w' => e = .returned (.slice (some ⟨W.heap.size, 0, none⟩) 3 3) ∧ w' = W.alloc (.cells #[.string ⟨#[100, 114, 111, 112]⟩, .string what, .string text] 9)) (hf : policy_form.f 1 what = some (3, lo, hi)) (hr : rightB what 0 text = true) :
    Calls Tryz.prog 24 #[.string line] w fun e w' => e = .returned (.tuple #[.agg #[.bool false, .string what, .int .u64 0, .string text], .bool true]) ∧ Below w.heap.size w w' := by
  have HS := Aside0.mk hsp
  have HF := Aside0.mk hf
  have HR := Aside0.mk hr
  clear hsp hf hr
  clear ht hlt
  go_enter Tryz.func24, Tryz.ntmps24
  go_wp2_with fail
  refine (HS.out _).mono ?_
  rintro e w1 ⟨rfl, hw⟩
  have BA := Aside0.mk (show w1.heap[w.heap.size]? = some (.cells #[.bool false, .string ⟨#[]⟩, .int .u64 0, .string ⟨#[]⟩] 46) from by rw [hw]; exact blk_alloc (heap_alloc_new w _) _)
  have BS := Aside0.mk (show w1.heap[w.heap.size + 1]? = some (.cells #[.string ⟨#[100, 114, 111, 112]⟩, .string what, .string text] 9) from by rw [hw]; have := heap_alloc_new (w.alloc (.cells #[.bool false, .string ⟨#[]⟩, .int .u64 0, .string ⟨#[]⟩] 46)) (.cells #[.string ⟨#[100, 114, 111, 112]⟩, .string what, .string text] 9); rw [World.size_alloc] at this; exact this)
  have HB := Aside0.mk (show Below w.heap.size w w1 from by rw [hw]; exact below_alloc (below_alloc (Below.refl _ _) _) _)
  clear hw
  simp only [World.size_alloc]
  have hcs_0 : w1.cell? ⟨w.heap.size + 1, 0, none⟩ = some (.string ⟨#[100, 114, 111, 112]⟩) := (blk_cell BS.out 0).trans rfl
  have hcs_1 : w1.cell? ⟨w.heap.size + 1, 1, none⟩ = some (.string what) := (blk_cell BS.out 1).trans rfl
  go_wp2_with fail
  go_still_tail 8, (by kernel_rfl)
  change wpList _ _ _ _ _ w1.drew
  have BA2 := Aside0.mk (blk_drew BA.out)
  have BS2 := Aside0.mk (blk_drew BS.out)
  have HB2 := Aside0.mk (below_drew HB.out)
  clear BA BS HB hcs_0 hcs_1
  generalize w1.drew = w2 at BA2 BS2 HB2 ⊢
  have hfz_0 := blk_frozen BA2.out 0
  have hfz_1 := blk_frozen BA2.out 1
  have hfz_2 := blk_frozen BA2.out 2
  have hfz_3 := blk_frozen BA2.out 3
  have hcz_0 : w2.cell? ⟨w.heap.size, 0, none⟩ = some (.bool false) := (blk_cell BA2.out 0).trans rfl
  have hcz_1 : w2.cell? ⟨w.heap.size, 1, none⟩ = some (.string ⟨#[]⟩) := (blk_cell BA2.out 1).trans rfl
  have hcz_2 : w2.cell? ⟨w.heap.size, 2, none⟩ = some (.int .u64 0) := (blk_cell BA2.out 2).trans rfl
  have hcz_3 : w2.cell? ⟨w.heap.size, 3, none⟩ = some (.string ⟨#[]⟩) := (blk_cell BA2.out 3).trans rfl
  go_wp2_with fail
  refine (policy_form.calls 1 what 3 lo hi _ HF.out).mono ?_
  rintro e w3 ⟨rfl, hD⟩
  have hch := blk_set (blk_set (blk_set (blk_set BA2.out 0 (.bool false)) 1 (.string what)) 2 (.int .u64 0)) 3 (.string ⟨#[]⟩)
  simp only [List.setIfInBounds_toArray, List.set_cons_zero, List.set_cons_succ] at hch
  have hb := Drawn0.below hD
  have BA3 := Aside0.mk (blk_below hch hb)
  have BS3 := Aside0.mk (show w3.heap[w.heap.size + 1]? = _ from blk_below (blk_far (blk_far (blk_far (blk_far BS2.out (by simp) _) (by simp) _) (by simp) _) (by simp) _) hb)
  have HB3 := Aside0.mk (show Below w.heap.size w w3 from by
    refine below_step ?_ hb
    (repeat refine below_set ?_ (Nat.le_refl _))
    exact HB2.out)
  clear hb hch hD BA2 BS2 HB2 hfz_0 hfz_1 hfz_2 hfz_3 hcz_0 hcz_1 hcz_2 hcz_3
  have hcs_2 : w3.cell? ⟨w.heap.size + 1, 2, none⟩ = some (.string text) := (blk_cell BS3.out 2).trans rfl
  have hfz_3 := blk_frozen BA3.out 3
  have hcz_3 : w3.cell? ⟨w.heap.size, 3, none⟩ = some (.string ⟨#[]⟩) := (blk_cell BA3.out 3).trans rfl
  go_wp2_with fail
  have hch := blk_set BA3.out 3 (.string text)
  simp only [List.setIfInBounds_toArray, List.set_cons_zero, List.set_cons_succ] at hch
  have BA6 := Aside0.mk hch
  have HB6 := Aside0.mk (show Below w.heap.size w (w3.setCell ⟨w.heap.size, 3, none⟩ (.string text)) from below_set HB3.out (Nat.le_refl _))
  clear hch hcs_2 hcz_3 hfz_3 BA3 BS3 HB3
  generalize w3.setCell ⟨w.heap.size, 3, none⟩ (.string text) = w6 at BA6 HB6 ⊢
  have hcz_0 : w6.cell? ⟨w.heap.size, 0, none⟩ = some (.bool false) := (blk_cell BA6.out 0).trans rfl
  have hcz_1 : w6.cell? ⟨w.heap.size, 1, none⟩ = some (.string what) := (blk_cell BA6.out 1).trans rfl
  have hcz_2 : w6.cell? ⟨w.heap.size, 2, none⟩ = some (.int .u64 0) := (blk_cell BA6.out 2).trans rfl
  have hcz_3 : w6.cell? ⟨w.heap.size, 3, none⟩ = some (.string text) := (blk_cell BA6.out 3).trans rfl
  have hfz_0 := blk_frozen BA6.out 0
  have hfz_1 := blk_frozen BA6.out 1
  have hfz_2 := blk_frozen BA6.out 2
  have hfz_3 := blk_frozen BA6.out 3
  go_wp2_with fail
  go_region_with (go_at_call 20; refine (right_calls false what 0 text _).mono ?_; rintro e w8 ⟨rfl, hb4⟩; have BB := Aside0.mk (blk_below (blk_drew BA6.out) hb4); have HBB := Aside0.mk (below_step (below_drew HB6.out) hb4); clear hb4; have hcy_0 : w8.cell? ⟨w.heap.size, 0, none⟩ = some (.bool false) := (blk_cell BB.out 0).trans rfl; have hfy_0 := blk_frozen BB.out 0; have hcy_1 : w8.cell? ⟨w.heap.size, 1, none⟩ = some (.string what) := (blk_cell BB.out 1).trans rfl; have hfy_1 := blk_frozen BB.out 1; have hcy_2 : w8.cell? ⟨w.heap.size, 2, none⟩ = some (.int .u64 0) := (blk_cell BB.out 2).trans rfl; have hfy_2 := blk_frozen BB.out 2; have hcy_3 : w8.cell? ⟨w.heap.size, 3, none⟩ = some (.string text) := (blk_cell BB.out 3).trans rfl; have hfy_3 := blk_frozen BB.out 3; rw [HR.out])
  all_goals
    have hch := blk_set (blk_set (blk_set (blk_set BB.out 0 (.bool false)) 1 (.string what)) 2 (.int .u64 0)) 3 (.string text)
    simp only [List.setIfInBounds_toArray, List.set_cons_zero, List.set_cons_succ] at hch
    have BF := Aside0.mk hch
    have HBF := Aside0.mk (show Below w.heap.size w ((((w8.setCell ⟨w.heap.size, 0, none⟩ (.bool false)).setCell ⟨w.heap.size, 1, none⟩ (.string what)).setCell ⟨w.heap.size, 2, none⟩ (.int .u64 0)).setCell ⟨w.heap.size, 3, none⟩ (.string text)) from by (repeat refine below_set ?_ (Nat.le_refl _)); exact HBB.out)
    clear hch hcy_0 hcy_1 hcy_2 hcy_3 hfy_0 hfy_1 hfy_2 hfy_3 hcz_0 hcz_1 hcz_2 hcz_3 hfz_0 hfz_1 hfz_2 hfz_3
    generalize ((((w8.setCell ⟨w.heap.size, 0, none⟩ (.bool false)).setCell ⟨w.heap.size, 1, none⟩ (.string what)).setCell ⟨w.heap.size, 2, none⟩ (.int .u64 0)).setCell ⟨w.heap.size, 3, none⟩ (.string text)) = w9 at BF HBF ⊢
    have hcx_0 : w9.cell? ⟨w.heap.size, 0, none⟩ = some (.bool false) := (blk_cell BF.out 0).trans rfl
    have hcx_1 : w9.cell? ⟨w.heap.size, 1, none⟩ = some (.string what) := (blk_cell BF.out 1).trans rfl
    have hcx_2 : w9.cell? ⟨w.heap.size, 2, none⟩ = some (.int .u64 0) := (blk_cell BF.out 2).trans rfl
    have hcx_3 : w9.cell? ⟨w.heap.size, 3, none⟩ = some (.string text) := (blk_cell BF.out 3).trans rfl
    go_wp2
    exact bodyPost_ret (v := .tuple #[.agg #[.bool false, .string what, .int .u64 0, .string text], .bool true]) (by simp [results, Tryz.results24, go_sem, hcx_0, hcx_1, hcx_2, hcx_3]) rfl ⟨rfl, HBF.out⟩
end Go.Proofs.YtemepnpfhoidhaaGreatDoor.PAll
