/-
  From a row's condition on listed variables to what the walks ask of the world.
  Conditions: none.
-/
import Derived.Test.YtemepnpfhoidhaaGreatDoorRows
import Derived.Test.YtemepnpfhoidhaaGreatDoorPolicyAlive
import Derived.PinnedBridge
import Derived.Lib.LaidU8T
import Derived.LaidMore
import Derived.Stop.Joined
namespace Go.Proofs.YtemepnpfhoidhaaGreatDoor.PAll
open Go Go.RowKit Go.Lib Go.Shelf
set_option linter.unusedVariables false
theorem pow_data : (Rows.laid_internal_strconv_uint64pow10 : DataW Unit) = tabData .u64 pow10Tab := by kernel_rfl
theorem accept_data : (Rows.laid_unicode_utf8_acceptRanges : DataW Unit) = acceptData := by kernel_rfl
theorem u8_extra : U8Extra Tryz.prog Tryz.lValid_ren where
  n3 := by kernel_rfl
  n4 := by kernel_rfl
  y3 := by kernel_rfl
  y4 := by kernel_rfl
  c5 := by kernel_rfl
  c119 := by kernel_rfl
  c138 := by kernel_rfl
theorem tab_reads {P : Program} {w : World} {name : String} {k : IntKind} {zs : List Int} {g : Nat} {t e : TypeId} {n : Nat} (hg : P.globalNamed name = some g) (hty : (P.globals[g]?).map (·.type) = some t) (ht : P.underlying t = some (.array n e)) (he : P.underlying e = some (.int k)) (hce : P.cellsOf e = 1) (hct : P.cellsOf t = n)
    (h : VarReads P w name (tabData k zs)) : TabIs P w name k zs := by
  obtain ⟨g', t', cs, fuel, p, hg', ht', hvar, hd⟩ := h
  obtain rfl := Option.some.inj (hg.symm.trans hg')
  obtain rfl := Option.some.inj (hty.symm.trans ht')
  unfold TabIs
  rw [hvar, ← cells_of_tab ht he hce hct hd]
theorem laid_of {W : World} (h : laidMetH Tryz.prog Rows.policyShowsRow.laid W) : Laid W := by
  rw [MakeChecks.laidMetH_plain _ _ _ (by kernel_rfl)] at h
  have h1 := laidMet.reads h (n := "internal/strconv.uint64pow10") (d := Rows.laid_internal_strconv_uint64pow10) (by simp [Rows.policyShowsRow])
  have h2 := laidMet.reads h (n := "unicode/utf8.acceptRanges") (d := Rows.laid_unicode_utf8_acceptRanges) (by simp [Rows.policyShowsRow])
  have h3 := laidMet.reads h (n := "unicode/utf8.first") (d := Rows.laid_unicode_utf8_first) (by simp [Rows.policyShowsRow])
  rw [pow_data] at h1
  rw [accept_data] at h2
  rw [show Rows.laid_unicode_utf8_first = firstData from Pinned.utf8First_eq] at h3
  exact ⟨tab_reads (g := 1) (t := 104) (e := 35) (n := 20) (by kernel_rfl) (by kernel_rfl) Tryz.underlying104 Tryz.underlying35 (by kernel_rfl) (by kernel_rfl) h1, utf8Tabs_of_readsT (U8Types.of196 Tryz.lValid) u8_extra h3 h2⟩
end Go.Proofs.YtemepnpfhoidhaaGreatDoor.PAll
