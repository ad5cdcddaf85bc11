/-
  The law PolicyStars returns true.
  Conditions: the tables that the row lists, as the program lays them.
-/
import Derived.Test.YtemepnpfhoidhaaDoorPolicyAlive
import Derived.Test.YtemepnpfhoidhaaDoorPolicyRunes
import Derived.Test.YtemepnpfhoidhaaDoorOpsAll
namespace Go.Proofs.YtemepnpfhoidhaaDoor.PAll
open Go.RowKit Go.Lib Go.Sort Go.Proofs.YtemepnpfhoidhaaDoorW.PrintWords Go.Proofs.YtemepnpfhoidhaaDoorW.PrintLast Go.Proofs.YtemepnpfhoidhaaDoorW.PrintMore
set_option linter.unusedVariables false
set_option linter.unusedSimpArgs false
def nameI (s : ByteArray) : Int := (span_Name.f s).getD 0
theorem name_calls (s : ByteArray) (w : World) : Calls Tryd.prog 14 #[.string s] w fun e w' => e = .returned (.int .i64 (nameI s)) ∧ Below w.heap.size w w' :=
  winnowref03_Name.calls 100 s (nameI s) w (by rw [name_eq s (Nat.le_refl _)]; rfl)
theorem name_zero {s : ByteArray} (h : nameI s = 0) : span_Name.f s = some 0 := by
  unfold nameI at h
  have : span_Name.f s = some ((span_Name.f s).getD 0) := rfl
  rw [this, h]
theorem name_size {s : ByteArray} (h : nameI s = 0) : s.size ≤ 32 := by
  obtain ⟨rs, _, _, h2, _⟩ := name_rs (name_zero h)
  exact h2
/-- Has a text's head no star and no mark? -/
def plainU (s : ByteArray) (i : Nat) : Bool := (List.range i).all (fun i => s.get! i != 42 && s.get! i != 63)
theorem plainU_succ (s : ByteArray) (i : Nat) : plainU s (i + 1) = (plainU s i && (s.get! i != 42 && s.get! i != 63)) := by
  unfold plainU
  rw [List.range_succ, List.all_append]
  simp
theorem byte_ne (n : ByteArray) (j : Nat) (h : j < n.size) (c : UInt8) (d : Int) (hd : (c.toNat : Int) = d) : (n.get! j != c) = (((n[j]'h).toNat : Int) != d) := by
  have e : n.get! j = n[j]'h := by
    rw [← getD_get!', ByteArray.getElem_eq_getElem_data, List.getD_eq_getElem?_getD, Array.getElem?_toList, Array.getElem?_eq_getElem (by simpa using h)]
    rfl
  subst hd
  rw [e, Bool.eq_iff_iff, bne_iff_ne, bne_iff_ne]
  constructor
  · intro q e2
    exact q (UInt8.toNat_inj.1 (by omega))
  · intro q e2
    exact q (by rw [e2])
set_option maxHeartbeats 16000000 in
set_option maxRecDepth 100000 in
theorem stars_calls (p n h : ByteArray) (w : World) (hw : Laid w) : Calls Tryd.prog 9 #[.string p, .string n, .string h] w fun e w' => e = .returned (.bool true) ∧ Below w.heap.size w w' := by
  have HL0 := Aside0.mk hw
  have HB0 := Aside0.mk (Below.refl w.heap.size w)
  clear hw
  by_cases sp : 100 < p.size
  · have spb : decide (100 < (p.size : Int)) = true := decide_eq_true (by omega)
    go_enter Tryd.func9, Tryd.ntmps9
    go_wp2_with fail
    refine (alive_calls _ (HL0.out.below HB0.out)).mono ?_
    rintro e w1 ⟨rfl, hb⟩
    have HB1 := Aside0.mk (below_step HB0.out hb)
    clear hb
    go_wp2
    go_ret
    exact ⟨rfl, HB1.out⟩
  have spb : decide (100 < (p.size : Int)) = false := decide_eq_false (by omega)
  by_cases sn : 100 < n.size
  · have snb : decide (100 < (n.size : Int)) = true := decide_eq_true (by omega)
    go_enter Tryd.func9, Tryd.ntmps9
    go_wp2_with fail
    refine (alive_calls _ (HL0.out.below HB0.out)).mono ?_
    rintro e w1 ⟨rfl, hb⟩
    have HB1 := Aside0.mk (below_step HB0.out hb)
    clear hb
    go_wp2
    go_ret
    exact ⟨rfl, HB1.out⟩
  have snb : decide (100 < (n.size : Int)) = false := decide_eq_false (by omega)
  by_cases sh : 100 < h.size
  · have shb : decide (100 < (h.size : Int)) = true := decide_eq_true (by omega)
    go_enter Tryd.func9, Tryd.ntmps9
    go_wp2_with fail
    refine (alive_calls _ (HL0.out.below HB0.out)).mono ?_
    rintro e w1 ⟨rfl, hb⟩
    have HB1 := Aside0.mk (below_step HB0.out hb)
    clear hb
    go_wp2
    go_ret
    exact ⟨rfl, HB1.out⟩
  have shb : decide (100 < (h.size : Int)) = false := decide_eq_false (by omega)
  obtain ⟨rp, zp⟩ : ∃ r, nameI p = r := ⟨_, rfl⟩
  by_cases ep : rp = 0
  rotate_left
  · have epb : (rp != 0) = true := by simpa using ep
    have Zp := Aside0.mk zp
    clear zp
    clear ep
    go_enter Tryd.func9, Tryd.ntmps9
    go_wp2_with fail
    refine (name_calls p _).mono ?_
    rw [Zp.out]
    rintro e w1 ⟨rfl, hb⟩
    have HB1 := Aside0.mk (below_step HB0.out hb)
    clear hb
    go_wp2_with fail
    refine (alive_calls _ (HL0.out.below HB1.out)).mono ?_
    rintro e w2 ⟨rfl, hb⟩
    have HB2 := Aside0.mk (below_step HB1.out hb)
    clear hb
    go_wp2
    go_ret
    exact ⟨rfl, HB2.out⟩
  subst ep
  have Zp := Aside0.mk zp
  have epb : ((0 : Int) != 0) = false := rfl
  obtain ⟨rn, zn⟩ : ∃ r, nameI n = r := ⟨_, rfl⟩
  by_cases en : rn = 0
  rotate_left
  · have enb : (rn != 0) = true := by simpa using en
    have Zn := Aside0.mk zn
    clear zn
    clear en
    go_enter Tryd.func9, Tryd.ntmps9
    go_wp2_with fail
    refine (name_calls p _).mono ?_
    rw [Zp.out]
    rintro e w1 ⟨rfl, hb⟩
    have HB1 := Aside0.mk (below_step HB0.out hb)
    clear hb
    go_wp2_with fail
    refine (name_calls n _).mono ?_
    rw [Zn.out]
    rintro e w2 ⟨rfl, hb⟩
    have HB2 := Aside0.mk (below_step HB1.out hb)
    clear hb
    go_wp2_with fail
    refine (alive_calls _ (HL0.out.below HB2.out)).mono ?_
    rintro e w3 ⟨rfl, hb⟩
    have HB3 := Aside0.mk (below_step HB2.out hb)
    clear hb
    go_wp2
    go_ret
    exact ⟨rfl, HB3.out⟩
  subst en
  have Zn := Aside0.mk zn
  skip
  obtain ⟨rh, zh⟩ : ∃ r, nameI h = r := ⟨_, rfl⟩
  by_cases eh : rh = 0
  rotate_left
  · have ehb : (rh != 0) = true := by simpa using eh
    have Zh := Aside0.mk zh
    clear zh
    clear eh
    go_enter Tryd.func9, Tryd.ntmps9
    go_wp2_with fail
    refine (name_calls p _).mono ?_
    rw [Zp.out]
    rintro e w1 ⟨rfl, hb⟩
    have HB1 := Aside0.mk (below_step HB0.out hb)
    clear hb
    go_wp2_with fail
    refine (name_calls n _).mono ?_
    rw [Zn.out]
    rintro e w2 ⟨rfl, hb⟩
    have HB2 := Aside0.mk (below_step HB1.out hb)
    clear hb
    go_wp2_with fail
    refine (name_calls h _).mono ?_
    rw [Zh.out]
    rintro e w3 ⟨rfl, hb⟩
    have HB3 := Aside0.mk (below_step HB2.out hb)
    clear hb
    go_wp2_with fail
    refine (alive_calls _ (HL0.out.below HB3.out)).mono ?_
    rintro e w4 ⟨rfl, hb⟩
    have HB4 := Aside0.mk (below_step HB3.out hb)
    clear hb
    go_wp2
    go_ret
    exact ⟨rfl, HB4.out⟩
  subst eh
  have Zh := Aside0.mk zh
  skip
  have hp32 := name_size zp
  have hn32 := name_size zn
  have hh32 := name_size zh
  have S := Aside0.mk (stars_name (name_zero zp) (name_zero zn) (name_zero zh))
  obtain ⟨x1, hx1⟩ : ∃ x, x = (⟨#[42]⟩ : ByteArray) ++ p := ⟨_, rfl⟩
  obtain ⟨x2, hx2⟩ : ∃ x, x = p ++ (⟨#[42]⟩ : ByteArray) := ⟨_, rfl⟩
  obtain ⟨x3, hx3⟩ : ∃ x, x = h ++ n := ⟨_, rfl⟩
  obtain ⟨x4, hx4⟩ : ∃ x, x = n ++ h := ⟨_, rfl⟩
  have SFront := Aside0.mk (show matchB p n = true → matchB x1 n = true from fun q => by rw [hx1]; exact S.out.front q)
  have SAhead := Aside0.mk (show matchB p n = true → matchB x1 x3 = true from fun q => by rw [hx1, hx3]; exact S.out.ahead q)
  have SBehind := Aside0.mk (show matchB p n = true → matchB x2 x4 = true from fun q => by rw [hx2, hx4]; exact S.out.behind q)
  have SSelf := Aside0.mk S.out.self
  have SOther := Aside0.mk (show plainB n = true → matchB n x3 = false from fun q => by rw [hx3]; exact S.out.other q)
  have SAll := Aside0.mk S.out.all
  have SP := Aside0.mk (show p.size ≤ 1000 by omega)
  have SN := Aside0.mk (show n.size ≤ 1000 by omega)
  have SSP := Aside0.mk (show x1.size ≤ 1000 by rw [hx1, app_size]; have : (⟨#[42]⟩ : ByteArray).size = 1 := rfl; omega)
  have SPS := Aside0.mk (show x2.size ≤ 1000 by rw [hx2, app_size]; have : (⟨#[42]⟩ : ByteArray).size = 1 := rfl; omega)
  have SHN := Aside0.mk (show x3.size ≤ 1000 by rw [hx3, app_size]; omega)
  have SNH := Aside0.mk (show x4.size ≤ 1000 by rw [hx4, app_size]; omega)
  have Hx1 := Aside0.mk hx1
  have Hx2 := Aside0.mk hx2
  have Hx3 := Aside0.mk hx3
  have Hx4 := Aside0.mk hx4
  clear hx1 hx2 hx3 hx4 S
  have hz1 : (⟨#[42]⟩ : ByteArray).size = 1 := rfl
  have hq1 : ¬ ((⟨#[42]⟩ : ByteArray).size + p.size > 9223372036854775807) := by omega
  have hq2 : ¬ (h.size + n.size > 9223372036854775807) := by omega
  have hq3 : ¬ (p.size + (⟨#[42]⟩ : ByteArray).size > 9223372036854775807) := by omega
  have hq4 : ¬ (n.size + h.size > 9223372036854775807) := by omega
  clear hz1
  have S1 := Aside0.mk (show (⟨#[42]⟩ : ByteArray).size ≤ 1000 by decide)
  have SN32 := Aside0.mk hn32
  clear hp32 hn32 hh32 zp zn zh sp sn sh
  cases hm : matchB p n with
  | true =>
    have HM := Aside0.mk hm
    clear hm
    go_enter Tryd.func9, Tryd.ntmps9
    go_wp2_with fail
    refine (name_calls p _).mono ?_
    rw [Zp.out]
    rintro e w1 ⟨rfl, hb⟩
    have HB1 := Aside0.mk (below_step HB0.out hb)
    clear hb
    go_wp2_with fail
    refine (name_calls n _).mono ?_
    rw [Zn.out]
    rintro e w2 ⟨rfl, hb⟩
    have HB2 := Aside0.mk (below_step HB1.out hb)
    clear hb
    go_wp2_with fail
    refine (name_calls h _).mono ?_
    rw [Zh.out]
    rintro e w3 ⟨rfl, hb⟩
    have HB3 := Aside0.mk (below_step HB2.out hb)
    clear hb
    go_wp2_with fail
    refine (match_calls (⟨#[42]⟩) (n) _ S1.out SN.out (HL0.out.below HB3.out).2).mono ?_
    rw [SAll.out]
    rintro e w4 ⟨rfl, hb⟩
    have HB4 := Aside0.mk (below_step HB3.out hb)
    clear hb
    go_wp2_with fail
    rw [← Hx1.out]
    refine (match_calls (x1) (n) _ SSP.out SN.out (HL0.out.below HB4.out).2).mono ?_
    rw [SFront.out HM.out]
    rintro e w5 ⟨rfl, hb⟩
    have HB5 := Aside0.mk (below_step HB4.out hb)
    clear hb
    go_wp2_with fail
    refine (match_calls (p) (n) _ SP.out SN.out (HL0.out.below HB5.out).2).mono ?_
    rw [HM.out]
    rintro e w6 ⟨rfl, hb⟩
    have HB6 := Aside0.mk (below_step HB5.out hb)
    clear hb
    go_wp2_with fail
    rw [← Hx1.out]
    rw [← Hx3.out]
    refine (match_calls (x1) (x3) _ SSP.out SHN.out (HL0.out.below HB6.out).2).mono ?_
    rw [SAhead.out HM.out]
    rintro e w7 ⟨rfl, hb⟩
    have HB7 := Aside0.mk (below_step HB6.out hb)
    clear hb
    go_wp2_with fail
    rw [← Hx2.out]
    rw [← Hx4.out]
    refine (match_calls (x2) (x4) _ SPS.out SNH.out (HL0.out.below HB7.out).2).mono ?_
    rw [SBehind.out HM.out]
    rintro e w8 ⟨rfl, hb⟩
    have HB8 := Aside0.mk (below_step HB7.out hb)
    clear hb
    go_wp2_with fail
    go_loopw [7, 8] (fun s7 s8 wr => ∃ j : Nat, j ≤ n.size ∧ s7 = .bool (plainU n j) ∧ s8 = .int .i64 j ∧ Aside0 (Below w.heap.size w wr)) (fun _ s8 _ => n.size - (intOf s8).toNat)
    case atStart => exact ⟨0, Nat.zero_le _, rfl, rfl, HB8⟩
    case round =>
      obtain ⟨j, hj, rfl, rfl, HBJ⟩ := hrel
      by_cases hlt : j < n.size
      · have hjb : decide ((j : Int) < (n.size : Int)) = true := decide_eq_true (by omega)
        have hbt := plainU_succ n j
        have HBT := Aside0.mk hbt
        clear hbt
        have q0 : (0 : Int) ≤ (j : Int) := by omega
        have q1 : (j : Int) < (n.size : Int) := by omega
        cases hu : plainU n j with
        | false =>
          have hn := HBT.out
          rw [hu, Bool.false_and] at hn
          have HN := Aside0.mk hn
          clear hn HBT
          go_wp2
          go_roundw
          case rel => exact ⟨j + 1, by omega, by rw [HN.out], by go_num, HBJ⟩
          case measure => simp [intOf]; omega
        | true =>
          have hn := HBT.out
          rw [hu, Bool.true_and, byte_ne n j hlt 42 42 rfl, byte_ne n j hlt 63 63 rfl] at hn
          have HN := Aside0.mk hn
          clear hn HBT
          cases hc : (((n[j]'hlt).toNat : Int) != 42) with
          | true =>
            go_wp2
            go_roundw
            case rel => exact ⟨j + 1, by omega, by rw [HN.out, hc, Bool.true_and], by go_num, HBJ⟩
            case measure => simp [intOf]; omega
          | false =>
            go_wp2
            go_roundw
            case rel => exact ⟨j + 1, by omega, by rw [HN.out, hc, Bool.false_and], by go_num, HBJ⟩
            case measure => simp [intOf]; omega
      · obtain rfl : j = n.size := by omega
        have hjb : decide ((n.size : Int) < (n.size : Int)) = false := decide_eq_false (by omega)
        cases hu : plainU n n.size with
        | false =>
          go_wp2_with fail
          refine (alive_calls _ (HL0.out.below HBJ.out)).mono ?_
          rintro e w9 ⟨rfl, hb⟩
          have HB9 := Aside0.mk (below_step HBJ.out hb)
          clear hb
          go_wp2
          go_ret
          exact ⟨rfl, HB9.out⟩
        | true =>
          have HU := Aside0.mk (show plainB n = true from hu)
          have HB8 := HBJ
          go_wp2_with fail
          refine (match_calls (n) (n) _ SN.out SN.out (HL0.out.below HB8.out).2).mono ?_
          rw [SSelf.out HU.out]
          rintro e w9 ⟨rfl, hb⟩
          have HB9 := Aside0.mk (below_step HB8.out hb)
          clear hb
          go_wp2_with fail
          rw [← Hx3.out]
          refine (match_calls (n) (x3) _ SN.out SHN.out (HL0.out.below HB9.out).2).mono ?_
          rw [SOther.out HU.out]
          rintro e w10 ⟨rfl, hb⟩
          have HB10 := Aside0.mk (below_step HB9.out hb)
          clear hb
          go_wp2_with fail
          refine (alive_calls _ (HL0.out.below HB10.out)).mono ?_
          rintro e w11 ⟨rfl, hb⟩
          have HB11 := Aside0.mk (below_step HB10.out hb)
          clear hb
          go_wp2
          go_ret
          exact ⟨rfl, HB11.out⟩
  | false =>
    have HM := Aside0.mk hm
    clear hm
    cases hm1 : matchB x1 n with
    | true =>
      have HM1 := Aside0.mk hm1
      clear hm1
      go_enter Tryd.func9, Tryd.ntmps9
      go_wp2_with fail
      refine (name_calls p _).mono ?_
      rw [Zp.out]
      rintro e w1 ⟨rfl, hb⟩
      have HB1 := Aside0.mk (below_step HB0.out hb)
      clear hb
      go_wp2_with fail
      refine (name_calls n _).mono ?_
      rw [Zn.out]
      rintro e w2 ⟨rfl, hb⟩
      have HB2 := Aside0.mk (below_step HB1.out hb)
      clear hb
      go_wp2_with fail
      refine (name_calls h _).mono ?_
      rw [Zh.out]
      rintro e w3 ⟨rfl, hb⟩
      have HB3 := Aside0.mk (below_step HB2.out hb)
      clear hb
      go_wp2_with fail
      refine (match_calls (⟨#[42]⟩) (n) _ S1.out SN.out (HL0.out.below HB3.out).2).mono ?_
      rw [SAll.out]
      rintro e w4 ⟨rfl, hb⟩
      have HB4 := Aside0.mk (below_step HB3.out hb)
      clear hb
      go_wp2_with fail
      rw [← Hx1.out]
      refine (match_calls (x1) (n) _ SSP.out SN.out (HL0.out.below HB4.out).2).mono ?_
      rw [HM1.out]
      rintro e w5 ⟨rfl, hb⟩
      have HB5 := Aside0.mk (below_step HB4.out hb)
      clear hb
      go_wp2_with fail
      refine (match_calls (p) (n) _ SP.out SN.out (HL0.out.below HB5.out).2).mono ?_
      rw [HM.out]
      rintro e w6 ⟨rfl, hb⟩
      have HB6 := Aside0.mk (below_step HB5.out hb)
      clear hb
      go_wp2_with fail
      go_loopw [7, 8] (fun s7 s8 wr => ∃ j : Nat, j ≤ n.size ∧ s7 = .bool (plainU n j) ∧ s8 = .int .i64 j ∧ Aside0 (Below w.heap.size w wr)) (fun _ s8 _ => n.size - (intOf s8).toNat)
      case atStart => exact ⟨0, Nat.zero_le _, rfl, rfl, HB6⟩
      case round =>
        obtain ⟨j, hj, rfl, rfl, HBJ⟩ := hrel
        by_cases hlt : j < n.size
        · have hjb : decide ((j : Int) < (n.size : Int)) = true := decide_eq_true (by omega)
          have hbt := plainU_succ n j
          have HBT := Aside0.mk hbt
          clear hbt
          have q0 : (0 : Int) ≤ (j : Int) := by omega
          have q1 : (j : Int) < (n.size : Int) := by omega
          cases hu : plainU n j with
          | false =>
            have hn := HBT.out
            rw [hu, Bool.false_and] at hn
            have HN := Aside0.mk hn
            clear hn HBT
            go_wp2
            go_roundw
            case rel => exact ⟨j + 1, by omega, by rw [HN.out], by go_num, HBJ⟩
            case measure => simp [intOf]; omega
          | true =>
            have hn := HBT.out
            rw [hu, Bool.true_and, byte_ne n j hlt 42 42 rfl, byte_ne n j hlt 63 63 rfl] at hn
            have HN := Aside0.mk hn
            clear hn HBT
            cases hc : (((n[j]'hlt).toNat : Int) != 42) with
            | true =>
              go_wp2
              go_roundw
              case rel => exact ⟨j + 1, by omega, by rw [HN.out, hc, Bool.true_and], by go_num, HBJ⟩
              case measure => simp [intOf]; omega
            | false =>
              go_wp2
              go_roundw
              case rel => exact ⟨j + 1, by omega, by rw [HN.out, hc, Bool.false_and], by go_num, HBJ⟩
              case measure => simp [intOf]; omega
        · obtain rfl : j = n.size := by omega
          have hjb : decide ((n.size : Int) < (n.size : Int)) = false := decide_eq_false (by omega)
          cases hu : plainU n n.size with
          | false =>
            go_wp2_with fail
            refine (alive_calls _ (HL0.out.below HBJ.out)).mono ?_
            rintro e w7 ⟨rfl, hb⟩
            have HB7 := Aside0.mk (below_step HBJ.out hb)
            clear hb
            go_wp2
            go_ret
            exact ⟨rfl, HB7.out⟩
          | true =>
            have HU := Aside0.mk (show plainB n = true from hu)
            have HB6 := HBJ
            go_wp2_with fail
            refine (match_calls (n) (n) _ SN.out SN.out (HL0.out.below HB6.out).2).mono ?_
            rw [SSelf.out HU.out]
            rintro e w7 ⟨rfl, hb⟩
            have HB7 := Aside0.mk (below_step HB6.out hb)
            clear hb
            go_wp2_with fail
            rw [← Hx3.out]
            refine (match_calls (n) (x3) _ SN.out SHN.out (HL0.out.below HB7.out).2).mono ?_
            rw [SOther.out HU.out]
            rintro e w8 ⟨rfl, hb⟩
            have HB8 := Aside0.mk (below_step HB7.out hb)
            clear hb
            go_wp2_with fail
            refine (alive_calls _ (HL0.out.below HB8.out)).mono ?_
            rintro e w9 ⟨rfl, hb⟩
            have HB9 := Aside0.mk (below_step HB8.out hb)
            clear hb
            go_wp2
            go_ret
            exact ⟨rfl, HB9.out⟩
    | false =>
      have HM1 := Aside0.mk hm1
      clear hm1
      go_enter Tryd.func9, Tryd.ntmps9
      go_wp2_with fail
      refine (name_calls p _).mono ?_
      rw [Zp.out]
      rintro e w1 ⟨rfl, hb⟩
      have HB1 := Aside0.mk (below_step HB0.out hb)
      clear hb
      go_wp2_with fail
      refine (name_calls n _).mono ?_
      rw [Zn.out]
      rintro e w2 ⟨rfl, hb⟩
      have HB2 := Aside0.mk (below_step HB1.out hb)
      clear hb
      go_wp2_with fail
      refine (name_calls h _).mono ?_
      rw [Zh.out]
      rintro e w3 ⟨rfl, hb⟩
      have HB3 := Aside0.mk (below_step HB2.out hb)
      clear hb
      go_wp2_with fail
      refine (match_calls (⟨#[42]⟩) (n) _ S1.out SN.out (HL0.out.below HB3.out).2).mono ?_
      rw [SAll.out]
      rintro e w4 ⟨rfl, hb⟩
      have HB4 := Aside0.mk (below_step HB3.out hb)
      clear hb
      go_wp2_with fail
      rw [← Hx1.out]
      refine (match_calls (x1) (n) _ SSP.out SN.out (HL0.out.below HB4.out).2).mono ?_
      rw [HM1.out]
      rintro e w5 ⟨rfl, hb⟩
      have HB5 := Aside0.mk (below_step HB4.out hb)
      clear hb
      go_wp2_with fail
      refine (match_calls (p) (n) _ SP.out SN.out (HL0.out.below HB5.out).2).mono ?_
      rw [HM.out]
      rintro e w6 ⟨rfl, hb⟩
      have HB6 := Aside0.mk (below_step HB5.out hb)
      clear hb
      go_wp2_with fail
      refine (match_calls (p) (n) _ SP.out SN.out (HL0.out.below HB6.out).2).mono ?_
      rw [HM.out]
      rintro e w7 ⟨rfl, hb⟩
      have HB7 := Aside0.mk (below_step HB6.out hb)
      clear hb
      go_wp2_with fail
      go_loopw [7, 8] (fun s7 s8 wr => ∃ j : Nat, j ≤ n.size ∧ s7 = .bool (plainU n j) ∧ s8 = .int .i64 j ∧ Aside0 (Below w.heap.size w wr)) (fun _ s8 _ => n.size - (intOf s8).toNat)
      case atStart => exact ⟨0, Nat.zero_le _, rfl, rfl, HB7⟩
      case round =>
        obtain ⟨j, hj, rfl, rfl, HBJ⟩ := hrel
        by_cases hlt : j < n.size
        · have hjb : decide ((j : Int) < (n.size : Int)) = true := decide_eq_true (by omega)
          have hbt := plainU_succ n j
          have HBT := Aside0.mk hbt
          clear hbt
          have q0 : (0 : Int) ≤ (j : Int) := by omega
          have q1 : (j : Int) < (n.size : Int) := by omega
          cases hu : plainU n j with
          | false =>
            have hn := HBT.out
            rw [hu, Bool.false_and] at hn
            have HN := Aside0.mk hn
            clear hn HBT
            go_wp2
            go_roundw
            case rel => exact ⟨j + 1, by omega, by rw [HN.out], by go_num, HBJ⟩
            case measure => simp [intOf]; omega
          | true =>
            have hn := HBT.out
            rw [hu, Bool.true_and, byte_ne n j hlt 42 42 rfl, byte_ne n j hlt 63 63 rfl] at hn
            have HN := Aside0.mk hn
            clear hn HBT
            cases hc : (((n[j]'hlt).toNat : Int) != 42) with
            | true =>
              go_wp2
              go_roundw
              case rel => exact ⟨j + 1, by omega, by rw [HN.out, hc, Bool.true_and], by go_num, HBJ⟩
              case measure => simp [intOf]; omega
            | false =>
              go_wp2
              go_roundw
              case rel => exact ⟨j + 1, by omega, by rw [HN.out, hc, Bool.false_and], by go_num, HBJ⟩
              case measure => simp [intOf]; omega
        · obtain rfl : j = n.size := by omega
          have hjb : decide ((n.size : Int) < (n.size : Int)) = false := decide_eq_false (by omega)
          cases hu : plainU n n.size with
          | false =>
            go_wp2_with fail
            refine (alive_calls _ (HL0.out.below HBJ.out)).mono ?_
            rintro e w8 ⟨rfl, hb⟩
            have HB8 := Aside0.mk (below_step HBJ.out hb)
            clear hb
            go_wp2
            go_ret
            exact ⟨rfl, HB8.out⟩
          | true =>
            have HU := Aside0.mk (show plainB n = true from hu)
            have HB7 := HBJ
            go_wp2_with fail
            refine (match_calls (n) (n) _ SN.out SN.out (HL0.out.below HB7.out).2).mono ?_
            rw [SSelf.out HU.out]
            rintro e w8 ⟨rfl, hb⟩
            have HB8 := Aside0.mk (below_step HB7.out hb)
            clear hb
            go_wp2_with fail
            rw [← Hx3.out]
            refine (match_calls (n) (x3) _ SN.out SHN.out (HL0.out.below HB8.out).2).mono ?_
            rw [SOther.out HU.out]
            rintro e w9 ⟨rfl, hb⟩
            have HB9 := Aside0.mk (below_step HB8.out hb)
            clear hb
            go_wp2_with fail
            refine (alive_calls _ (HL0.out.below HB9.out)).mono ?_
            rintro e w10 ⟨rfl, hb⟩
            have HB10 := Aside0.mk (below_step HB9.out hb)
            clear hb
            go_wp2
            go_ret
            exact ⟨rfl, HB10.out⟩
theorem walk_PolicyStars (W : World) (b0 : ByteArray) (ok_0 : b0.size ≤ maxLen) (b1 : ByteArray) (ok_1 : b1.size ≤ maxLen) (b2 : ByteArray) (ok_2 : b2.size ≤ maxLen) (hL : Laid W) :
    Calls Tryd.prog 9 #[.string b0, .string b1, .string b2] W fun e W' => e = .returned (.bool true) ∧ Below W.heap.size W W' := stars_calls b0 b1 b2 W hL
end Go.Proofs.YtemepnpfhoidhaaDoor.PAll
