/-
  What comes into these laws is held by cells, kind by kind.
  Conditions: none.
-/
import Derived.Test.YtjnhmdmcmmffeaaOpens
import Derived.Test.YtjnhmdmcmmffeaaPAllx0
namespace Go.Proofs.Ytjnhmdmcmmffeaa.PAll
open Go.RowKit Go.Proofs.YtjnhmdmcmmffeaaW.PrintWords Go.Proofs.YtjnhmdmcmmffeaaW.PrintLast
open Go.Proofs.Ytjnhmdmcmmffeaa
set_option linter.unusedVariables false
set_option linter.unusedSimpArgs false
/-! #### struct type 40 -/
structure S40 where
  f0 : S24
  f1 : S24
  f2 : Int
def z40 : S40 := ⟨z24, z24, (0 : Int)⟩
def k40 : Kd S40 := Kd.iso (Kd.pair k24 (Kd.pair k24 (Kd.int .i64))) (fun x : S40 => (x.f0, x.f1, x.f2))
theorem k40_open {w : World} {x : S40} {cs : List Value} (h : k40.K w x cs) : cs = [.int .u64 x.f0.f0, .int .u64 x.f0.f1, .int .u64 x.f1.f0, .int .u64 x.f1.f1, .int .i64 x.f2] := by
  obtain ⟨_, _, rfl, s0, ⟨_, _, rfl, s2, rfl⟩⟩ := h
  obtain rfl := k24_open s0
  obtain rfl := k24_open s2
  exact rfl
theorem k40_openM {w : World} {base : Nat} {ok : Nat → Prop} {x : S40} {cs : List Value} (h : k40.M w base ok x cs) : cs = [.int .u64 x.f0.f0, .int .u64 x.f0.f1, .int .u64 x.f1.f0, .int .u64 x.f1.f1, .int .i64 x.f2] := by
  obtain ⟨_, _, rfl, s0, ⟨_, _, rfl, s2, rfl⟩⟩ := h
  obtain rfl := k24_openM s0
  obtain rfl := k24_openM s2
  exact rfl
theorem k40_mk (w : World) (x : S40)  : k40.K w x [.int .u64 x.f0.f0, .int .u64 x.f0.f1, .int .u64 x.f1.f0, .int .u64 x.f1.f1, .int .i64 x.f2] := ⟨[.int .u64 x.f0.f0, .int .u64 x.f0.f1], [.int .u64 x.f1.f0, .int .u64 x.f1.f1, .int .i64 x.f2], rfl, (k24_mk w x.f0 ), ⟨[.int .u64 x.f1.f0, .int .u64 x.f1.f1], [.int .i64 x.f2], rfl, (k24_mk w x.f1 ), rfl⟩⟩
theorem k40_mkM (w : World) (base : Nat) (ok : Nat → Prop) (x : S40)  : k40.M w base ok x [.int .u64 x.f0.f0, .int .u64 x.f0.f1, .int .u64 x.f1.f0, .int .u64 x.f1.f1, .int .i64 x.f2] := ⟨[.int .u64 x.f0.f0, .int .u64 x.f0.f1], [.int .u64 x.f1.f0, .int .u64 x.f1.f1, .int .i64 x.f2], rfl, (k24_mkM w base ok x.f0 ), ⟨[.int .u64 x.f1.f0, .int .u64 x.f1.f1], [.int .i64 x.f2], rfl, (k24_mkM w base ok x.f1 ), rfl⟩⟩
def rd_T40 (xs : List S40) (i : Int) : S40 := xs.getD i.toNat z40
theorem at_T40 {w : World} {A : Option Addr} {n : Nat} {xs : List S40} (h : Kd.C k40 w A n xs) (i : Int) (h0 : 0 ≤ i) (h1 : i < n) : ∃ ad , A = some ad ∧ w.cell? (ad.add (i.toNat * 5)) = some (.int .u64 (rd_T40 xs i).f0.f0) ∧ w.cell? ⟨(ad.add (i.toNat * 5)).block, (ad.add (i.toNat * 5)).off + 1, none⟩ = some (.int .u64 (rd_T40 xs i).f0.f1) ∧ w.cell? ⟨(ad.add (i.toNat * 5)).block, (ad.add (i.toNat * 5)).off + 2, none⟩ = some (.int .u64 (rd_T40 xs i).f1.f0) ∧ w.cell? ⟨(ad.add (i.toNat * 5)).block, (ad.add (i.toNat * 5)).off + 3, none⟩ = some (.int .u64 (rd_T40 xs i).f1.f1) ∧ w.cell? ⟨(ad.add (i.toNat * 5)).block, (ad.add (i.toNat * 5)).off + 4, none⟩ = some (.int .i64 (rd_T40 xs i).f2) := by
  obtain ⟨ad, c, e, _, hK, hc0⟩ := Kd.C_get h z40 i h0 h1
  have hc : ∀ j u, c[j]? = some u → w.cell? (ad.add (i.toNat * 5 + j)) = some u := hc0
  obtain rfl := k40_open hK
  exact ⟨ad, e, hc 0 _ rfl, by rw [← add_field _ _ 1 (by omega)]; exact hc 1 _ rfl, by rw [← add_field _ _ 2 (by omega)]; exact hc 2 _ rfl, by rw [← add_field _ _ 3 (by omega)]; exact hc 3 _ rfl, by rw [← add_field _ _ 4 (by omega)]; exact hc 4 _ rfl⟩

def rd_L5 (xs : List (List Int)) (i : Int) : (List Int) := xs.getD i.toNat ([] : List Int)
theorem at_L5 {w : World} {A : Option Addr} {n : Nat} {xs : List (List Int)} (h : Kd.C (Kd.slice 3 (Kd.int .i64)) w A n xs) (i : Int) (h0 : 0 ≤ i) (h1 : i < n) : ∃ ad A0 c0, A = some ad ∧ w.cell? (ad.add i.toNat) = some (.slice A0 (rd_L5 xs i).length c0) ∧ (rd_L5 xs i).length ≤ c0 ∧ (Kd.int .i64).C w A0 (rd_L5 xs i).length (rd_L5 xs i) := by
  obtain ⟨ad, c, e, _, hK, hc0⟩ := Kd.C_get h ([] : List Int) i h0 h1
  have hc : ∀ j u, c[j]? = some u → w.cell? (ad.add (i.toNat * 1 + j)) = some u := hc0
  obtain ⟨A0, c0, rfl, l0, g0⟩ := hK
  exact ⟨ad, A0, c0, e, by have hq := hc 0 _ rfl; rwa [Nat.mul_one, Nat.add_zero] at hq, l0, g0⟩


def ok24 (x : S24) : Prop := ((Lit.int .u64 x.f0).wf = true) ∧ ((Lit.int .u64 x.f1).wf = true)
theorem op24 : Opens.Opens Try.prog k24 24 ok24 :=
  Opens.struct Try.underlying24 (by kernel_rfl) (Opens.cons _ (i := 0) rfl rfl (by kernel_rfl) (Opens.int (P := Try.prog) (T := 22) Try.underlying22) (Opens.last _ (i := 1) rfl rfl (by kernel_rfl) (Opens.int (P := Try.prog) (T := 22) Try.underlying22))) _ (fun p => ⟨p.1, p.2⟩) (fun _ => rfl)
def ok40 (x : S40) : Prop := (ok24 x.f0) ∧ (ok24 x.f1) ∧ ((Lit.int .i64 x.f2).wf = true)
theorem op40 : Opens.Opens Try.prog k40 40 ok40 :=
  Opens.struct Try.underlying40 (by kernel_rfl) (Opens.cons _ (i := 0) rfl rfl (by kernel_rfl) op24 (Opens.cons _ (i := 1) rfl rfl (by kernel_rfl) op24 (Opens.last _ (i := 2) rfl rfl (by kernel_rfl) (Opens.int (P := Try.prog) (T := 38) Try.underlying38)))) _ (fun p => ⟨p.1, p.2.1, p.2.2⟩) (fun _ => rfl)
def ok69 (x : S69) : Prop := ((Lit.int .u64 x.f0).wf = true) ∧ ((Lit.int .i64 x.f1).wf = true) ∧ (x.f2.length ≤ maxLen ∧ ∀ y_x_f2 ∈ x.f2, ((Lit.int .i64 y_x_f2).wf = true)) ∧ (x.f3.length ≤ maxLen ∧ ∀ y_x_f3 ∈ x.f3, ((Lit.int .i64 y_x_f3).wf = true)) ∧ ((Lit.int .i64 x.f4).wf = true)
theorem op69 : Opens.Opens Try.prog k69 69 ok69 :=
  Opens.struct Try.underlying69 (by kernel_rfl) (Opens.cons _ (i := 0) rfl rfl (by kernel_rfl) (Opens.int (P := Try.prog) (T := 22) Try.underlying22) (Opens.cons _ (i := 1) rfl rfl (by kernel_rfl) (Opens.int (P := Try.prog) (T := 38) Try.underlying38) (Opens.cons _ (i := 2) rfl rfl (by kernel_rfl) (Opens.slice (P := Try.prog) (T := 67) (e := 3) (d := (Kd.int .i64)) Try.underlying67 (by kernel_rfl) (Opens.int (P := Try.prog) (T := 3) Try.underlying3)) (Opens.cons _ (i := 3) rfl rfl (by kernel_rfl) (Opens.slice (P := Try.prog) (T := 67) (e := 3) (d := (Kd.int .i64)) Try.underlying67 (by kernel_rfl) (Opens.int (P := Try.prog) (T := 3) Try.underlying3)) (Opens.last _ (i := 4) rfl rfl (by kernel_rfl) (Opens.int (P := Try.prog) (T := 3) Try.underlying3)))))) _ (fun p => ⟨p.1, p.2.1, p.2.2.1, p.2.2.2.1, p.2.2.2.2⟩) (fun _ => rfl)
end Go.Proofs.Ytjnhmdmcmmffeaa.PAll
