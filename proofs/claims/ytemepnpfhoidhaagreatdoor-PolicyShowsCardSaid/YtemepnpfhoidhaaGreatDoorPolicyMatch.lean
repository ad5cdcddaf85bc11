/-
  policy.Match, for any two texts that are not too long.
  Conditions: utf8's two tables as the program lays them; texts of at most 1000 bytes.
-/
import Derived.Test.YtemepnpfhoidhaaGreatDoorPolicyBase
import Derived.Test.YtemepnpfhoidhaaGreatDoorPolicyValid
import Derived.Test.YtemepnpfhoidhaaGreatDoorMatchCore
import Derived.Laws.IdiomStrings
import Derived.Test.YtemepnpfhoidhaaGreatDoorPAllx1m
import Derived.Test.YtemepnpfhoidhaaGreatDoorPAllx3m
namespace Go.Proofs.YtemepnpfhoidhaaGreatDoor.PAll
open Go.RowKit Go.Lib Go.Sort Go.Proofs.YtemepnpfhoidhaaGreatDoorW.PrintWords Go.Proofs.YtemepnpfhoidhaaGreatDoorW.PrintLast Go.Proofs.YtemepnpfhoidhaaGreatDoorW.PrintMore
open MatchCore
set_option linter.unusedVariables false
set_option linter.unusedSimpArgs false
/-- The runes of what is left of a text. -/
def runesL (s : ByteArray) : Nat → Nat → List Int
  | 0, _ => []
  | b + 1, i => if i < s.size then ((Utf8.decode s i).1 : Int) :: runesL s b (i + (Utf8.decode s i).2) else []
theorem runesFrom_eq (s : ByteArray) : ∀ (b i : Nat) (acc : Array Value), Conv.runesFrom s b i acc = acc ++ ((runesL s b i).map (Value.int .i32)).toArray
  | 0, i, acc => by simp [Conv.runesFrom, runesL]
  | b + 1, i, acc => by
    unfold Conv.runesFrom runesL
    split
    · show Conv.runesFrom s b (i + (Utf8.decode s i).2) (acc.push (.int .i32 (Int.ofNat (Utf8.decode s i).1))) = _
      rw [runesFrom_eq s b]
      apply Array.ext'
      simp
    · simp
def runesB (s : ByteArray) : List Int := runesL s s.size 0
theorem runesB_len (s : ByteArray) : (runesB s).length ≤ s.size := by
  have h : ∀ b i, (runesL s b i).length ≤ b := by
    intro b
    induction b with
    | zero => intro i; simp [runesL]
    | succ b ih =>
      intro i
      unfold runesL
      split
      · simp; exact ih _
      · simp
  exact h _ _
theorem runes_from (s : ByteArray) : Conv.runesFrom s s.size 0 #[] = ((runesB s).map (Value.int .i32)).toArray := by
  rw [runesFrom_eq, Array.empty_append]
  rfl
/-- What Match tells. -/
def matchB (p n : ByteArray) : Bool := if validD p.data.toList = true ∧ validD n.data.toList = true then M (runesB p) (runesB n) else false
theorem runes_run (s : ByteArray) (hs : s.size ≤ 1000) (w : World) : ∃ c, (runesB s).length ≤ c ∧ (convert 9 94 (.string s)).run Tryz.prog w = .ok (.slice (some ⟨w.heap.size, 0, none⟩) (runesB s).length c) (w.drew.alloc (.cells (((runesB s).map (Value.int .i32)).toArray ++ Array.replicate (c - (runesB s).length) (.int .i32 0)) 21)) := by
  have hl := runesB_len s
  have h := run_runes_of_string (P := Tryz.prog) w 9 94 21 s Tryz.underlying9 Tryz.underlying94 Tryz.underlying21 (by rw [runes_from]; simp; omega)
  rw [runes_from] at h
  have hz : ((runesB s).map (Value.int .i32)).toArray.size = (runesB s).length := by simp
  rw [hz] at h
  exact ⟨_, grownCap_ge _ _ _ _, h⟩
theorem info_int32 : (Tryz.prog.info? 21).map (fun i => (i.zero, i.size, i.bytes)) = some (some (.int .i32 0), 1, 4) := by kernel_rfl
/-- A row of runes in a block. -/
theorem C_runes {W : World} {g : Nat} {xs : List Int} {pad : Array Value} {t : TypeId} (h : W.heap[g]? = some (.cells ((xs.map (Value.int .i32)).toArray ++ pad) t (0, 0))) (hl : xs.length ≤ 1000) : Kd.C (Kd.int .i32) W (some ⟨g, 0, none⟩) xs.length xs := by
  refine ⟨rfl, by omega, fun _ => ⟨_, rfl, fun j p hp => ⟨[.int .i32 p], rfl, rfl, fun i u hu => ?_⟩⟩⟩
  have hi : i = 0 := by
    rcases Nat.eq_zero_or_pos i with h | h
    · exact h
    · rw [List.getElem?_eq_none (by simp; omega)] at hu; cases hu
  subst hi
  obtain rfl : Value.int .i32 p = u := by simpa using hu
  rw [show j * (Kd.int .i32).sz + 0 = j from by show j * 1 + 0 = j; omega, Go.Lib.add_plain, blk_cell h (0 + j), Nat.zero_add]
  have hj : j < xs.length := (List.getElem?_eq_some_iff.1 hp).1
  rw [Array.getElem?_append_left (by simpa using hj)]
  simp [hp]
theorem rd_some {xs : List Int} {i : Nat} {c : Int} (h : xs[i]? = some c) : rd xs (i : Int) = c := by
  unfold rd
  rw [Int.toNat_natCast, List.getD_eq_getElem?_getD, h]
  rfl
set_option maxHeartbeats 16000000 in
set_option maxRecDepth 100000 in
theorem match_calls (p n : ByteArray) (w : World) (hp : p.size ≤ 1000) (hn : n.size ≤ 1000) (hT : U8 w) :
    Calls Tryz.prog 50 #[.string p, .string n] w fun e w' => e = .returned (.bool (matchB p n)) ∧ Below w.heap.size w w' := by
  obtain ⟨r, hr⟩ : ∃ r, matchB p n = r := ⟨_, rfl⟩
  rw [hr]
  unfold matchB at hr
  have HR := Aside0.mk hr
  have HT := Aside0.mk hT
  have HP := Aside0.mk hp
  have HN := Aside0.mk hn
  clear hr hT hp hn
  cases hv1 : validD p.data.toList with
  | false =>
    have ha := HR.out
    rw [if_neg (by rw [hv1]; simp)] at ha
    subst ha
    have HV := Aside0.mk hv1
    clear hv1
    go_enter Tryz.func50, Tryz.ntmps50
    go_wp2_with fail
    refine (valid_calls p _ HP.out HT.out).mono ?_
    rw [HV.out]
    rintro e w1 ⟨rfl, hb⟩
    have HB := Aside0.mk hb
    clear hb
    go_wp2
    go_ret
    exact ⟨rfl, HB.out⟩
  | true =>
    have HV1 := Aside0.mk hv1
    cases hv2 : validD n.data.toList with
    | false =>
      have ha := HR.out
      rw [if_neg (by rw [hv2]; simp)] at ha
      subst ha
      have HV2 := Aside0.mk hv2
      clear hv1 hv2
      go_enter Tryz.func50, Tryz.ntmps50
      go_wp2_with fail
      refine (valid_calls p _ HP.out HT.out).mono ?_
      rw [HV1.out]
      rintro e w1 ⟨rfl, hb⟩
      have HB := Aside0.mk hb
      clear hb
      go_wp2_with fail
      refine (valid_calls n _ HN.out (HT.out.below HB.out)).mono ?_
      rw [HV2.out]
      rintro e w2 ⟨rfl, hb⟩
      have HB2 := Aside0.mk (below_step HB.out hb)
      clear hb
      go_wp2
      go_ret
      exact ⟨rfl, HB2.out⟩
    | true =>
      have ha := HR.out
      rw [if_pos ⟨hv1, hv2⟩] at ha
      have HM := Aside0.mk ha
      have HV2 := Aside0.mk hv2
      have hpl := Nat.le_trans (runesB_len p) HP.out
      have hnl := Nat.le_trans (runesB_len n) HN.out
      have R1 := Aside0.mk (runes_run p HP.out)
      have R2 := Aside0.mk (runes_run n HN.out)
      generalize runesB p = ps at HM hpl R1
      generalize runesB n = ss at HM hnl R2
      have HPL := Aside0.mk hpl
      have HNL := Aside0.mk hnl
      clear hv1 hv2 ha HR hpl hnl
      go_enter Tryz.func50, Tryz.ntmps50
      go_wp2_with fail
      refine (valid_calls p _ HP.out HT.out).mono ?_
      rw [HV1.out]
      rintro e w1 ⟨rfl, hb⟩
      have HB := Aside0.mk hb
      clear hb
      go_wp2_with fail
      refine (valid_calls n _ HN.out (HT.out.below HB.out)).mono ?_
      rw [HV2.out]
      rintro e w2 ⟨rfl, hb⟩
      have HB2 := Aside0.mk (below_step HB.out hb)
      clear hb
      obtain ⟨c1, hc1, hrun1⟩ := R1.out w2
      obtain ⟨W3, hW3⟩ : ∃ W3, (w2.drew.alloc (.cells ((ps.map (Value.int .i32)).toArray ++ Array.replicate (c1 - ps.length) (.int .i32 0)) 21)) = W3 := ⟨_, rfl⟩
      rw [hW3] at hrun1
      obtain ⟨c2, hc2, hrun2⟩ := R2.out W3
      obtain ⟨W4, hW4⟩ : ∃ W4, (W3.drew.alloc (.cells ((ss.map (Value.int .i32)).toArray ++ Array.replicate (c2 - ss.length) (.int .i32 0)) 21)) = W4 := ⟨_, rfl⟩
      rw [hW4] at hrun2
      have K3 := Aside0.mk (show W3.heap[w2.heap.size]? = some (.cells ((ps.map (Value.int .i32)).toArray ++ Array.replicate (c1 - ps.length) (.int .i32 0)) 21 (0, 0)) from by rw [← hW3]; exact heap_alloc_new w2.drew _)
      have B3 := Aside0.mk (show Below w.heap.size w W3 from by rw [← hW3]; exact below_alloc (below_drew HB2.out) _)
      have K4 := Aside0.mk (show W4.heap[W3.heap.size]? = some (.cells ((ss.map (Value.int .i32)).toArray ++ Array.replicate (c2 - ss.length) (.int .i32 0)) 21 (0, 0)) from by rw [← hW4]; exact heap_alloc_new W3.drew _)
      have K34 := Aside0.mk (show W4.heap[w2.heap.size]? = some (.cells ((ps.map (Value.int .i32)).toArray ++ Array.replicate (c1 - ps.length) (.int .i32 0)) 21 (0, 0)) from by rw [← hW4]; exact blk_alloc (blk_drew K3.out) _)
      have B4 := Aside0.mk (show Below w.heap.size w W4 from by rw [← hW4]; exact below_alloc (below_drew B3.out) _)
      have CP := Aside0.mk (C_runes K34.out HPL.out)
      have CS := Aside0.mk (C_runes K4.out HNL.out)
      clear K3 B3 K4 K34 hW3 hW4 HT HB HB2 R1 R2
      have HC1 := Aside0.mk hc1
      have HC2 := Aside0.mk hc2
      clear hc1 hc2
      go_wp2
      clear hrun1 hrun2
      generalize (⟨w2.heap.size, 0, none⟩ : Addr) = ad1 at CP ⊢
      generalize (⟨W3.heap.size, 0, none⟩ : Addr) = ad2 at CS ⊢
      go_loopw [7, 8, 9, 10] (fun s7 s8 s9 s10 wr => ∃ (i k from_ : Nat) (star : Int), s7 = .int .i64 i ∧ s8 = .int .i64 star ∧ s9 = .int .i64 from_ ∧ s10 = .int .i64 k ∧ Aside0 (St ps ss star from_ i k) ∧ Aside0 (Drawn0 W4 wr)) (fun s7 _ s9 _ _ => (ss.length - (intOf s9).toNat) * (ps.length + 1) + (ps.length - (intOf s7).toNat))
      case atStart => exact ⟨0, 0, 0, -1, rfl, rfl, rfl, rfl, ⟨.none 0 0 (Nat.zero_le _) (Nat.zero_le _) (by simp)⟩, ⟨Drawn0.refl _⟩⟩
      case round =>
        obtain ⟨i, k, from_, star, rfl, rfl, rfl, rfl, HS, HD⟩ := hrel
        obtain ⟨hbi, hbk, hbf, hbs, hbs2⟩ := HS.out.bounds
        have hpl := HPL.out
        have hnl := HNL.out
        by_cases hk : k < ss.length
        · have hkb : decide ((k : Int) < (ss.length : Int)) = true := decide_eq_true (by omega)
          obtain ⟨d, hd⟩ : ∃ d, ss[k]? = some d := ⟨_, List.getElem?_eq_getElem hk⟩
          obtain ⟨a2, ha2, hcd⟩ := Kd.at_int (Kd.C_below CS.out (Drawn0.below HD.out)) (k : Int) (by omega) (by omega)
          obtain rfl := Option.some.inj ha2
          rw [rd_some hd, Int.toNat_natCast] at hcd
          have q0 : (0 : Int) ≤ (k : Int) := by omega
          have q1 : (k : Int) < (ss.length : Int) := by omega
          have HDD := Aside0.mk hd
          clear ha2 hd
          by_cases hi : i < ps.length
          · have hib : decide ((i : Int) < (ps.length : Int)) = true := decide_eq_true (by omega)
            obtain ⟨c, hc⟩ : ∃ c, ps[i]? = some c := ⟨_, List.getElem?_eq_getElem hi⟩
            obtain ⟨a1, ha1, hcc⟩ := Kd.at_int (Kd.C_below CP.out (Drawn0.below HD.out)) (i : Int) (by omega) (by omega)
            obtain rfl := Option.some.inj ha1
            rw [rd_some hc, Int.toNat_natCast] at hcc
            have p0 : (0 : Int) ≤ (i : Int) := by omega
            have p1 : (i : Int) < (ps.length : Int) := by omega
            have HCC := Aside0.mk hc
            clear ha1 hc
            by_cases h42 : c = 42
            · subst h42
              go_wp2
              go_roundw
              case rel => exact ⟨i + 1, k, k, i, by go_num, rfl, rfl, rfl, ⟨HS.out.star HCC.out⟩, HD⟩
              case measure =>
                simp [intOf]
                have e1 : ((i : Int) + 1).toNat = i + 1 := by omega
                have h1 : (ss.length - k) * (ps.length + 1) ≤ (ss.length - from_) * (ps.length + 1) := Nat.mul_le_mul_right _ (by omega)
                omega
            · have h42b : (c == 42) = false := by simpa using h42
              by_cases h63 : c = 63
              · subst h63
                go_wp2_with fail
                go_quiet (fail)
                go_wp2
                go_roundw
                case rel => exact ⟨i + 1, k + 1, from_, star, by go_num, rfl, rfl, by go_num, ⟨HS.out.next HCC.out HDD.out (by decide) (.inl rfl)⟩, ⟨HD.out.step _⟩⟩
                case measure =>
                  simp [intOf]
                  have e1 : ((i : Int) + 1).toNat = i + 1 := by omega
                  omega
              · have h63b : (c == 63) = false := by simpa using h63
                by_cases hcd2 : c = d
                · subst hcd2
                  go_wp2_with fail
                  go_quiet (fail)
                  go_wp2
                  go_roundw
                  case rel => exact ⟨i + 1, k + 1, from_, star, by go_num, rfl, rfl, by go_num, ⟨HS.out.next HCC.out HDD.out h42 (.inr rfl)⟩, ⟨HD.out.step _⟩⟩
                  case measure =>
                    simp [intOf]
                    have e1 : ((i : Int) + 1).toNat = i + 1 := by omega
                    omega
                · have hcdb : (c == d) = false := by simpa using hcd2
                  by_cases hst : 0 ≤ star
                  · have hsb : decide (0 ≤ star) = true := decide_eq_true hst
                    obtain ⟨t1, t2, t3⟩ := HS.out.back hst HDD.out (.inr ⟨c, HCC.out, h42, h63, hcd2⟩)
                    have HT3 := Aside0.mk t3
                    obtain ⟨sn, hsn⟩ := Int.eq_ofNat_of_zero_le hst
                    go_wp2_with fail
                    go_quiet (fail)
                    go_wp2
                    go_roundw
                    case rel => exact ⟨star.toNat + 1, from_ + 1, from_ + 1, star, by rw [hsn]; simp, rfl, by go_num, by go_num, HT3, ⟨HD.out.step _⟩⟩
                    case measure =>
                      simp [intOf]
                      have e2 : ((from_ : Int) + 1).toNat = from_ + 1 := by omega
                      have h1 : (ss.length - (from_ + 1)) * (ps.length + 1) + (ps.length + 1) = (ss.length - from_) * (ps.length + 1) := by
                        rw [show ss.length - from_ = (ss.length - (from_ + 1)) + 1 by omega, Nat.add_mul, Nat.one_mul]
                      omega
                  · have hsb : decide (0 ≤ star) = false := decide_eq_false hst
                    have hf := HS.out.fails (by omega) HDD.out (.inr ⟨c, HCC.out, h42, h63, hcd2⟩)
                    have ha := HM.out
                    rw [hf] at ha
                    subst ha
                    go_wp2_with fail
                    go_quiet (fail)
                    go_wp2
                    go_ret
                    exact ⟨rfl, B4.out.trans ((Drawn0.below (HD.out.step _)).mono B4.out.size)⟩
          · have hib : decide ((i : Int) < (ps.length : Int)) = false := decide_eq_false (by omega)
            by_cases hst : 0 ≤ star
            · have hsb : decide (0 ≤ star) = true := decide_eq_true hst
              obtain ⟨t1, t2, t3⟩ := HS.out.back hst HDD.out (.inl (by omega))
              have HT3 := Aside0.mk t3
              obtain ⟨sn, hsn⟩ := Int.eq_ofNat_of_zero_le hst
              go_wp2_with fail
              go_quiet (fail)
              go_wp2
              go_roundw
              case rel => exact ⟨star.toNat + 1, from_ + 1, from_ + 1, star, by rw [hsn]; simp, rfl, by go_num, by go_num, HT3, ⟨HD.out.step _⟩⟩
              case measure =>
                simp [intOf]
                have e2 : ((from_ : Int) + 1).toNat = from_ + 1 := by omega
                have h1 : (ss.length - (from_ + 1)) * (ps.length + 1) + (ps.length + 1) = (ss.length - from_) * (ps.length + 1) := by
                  rw [show ss.length - from_ = (ss.length - (from_ + 1)) + 1 by omega, Nat.add_mul, Nat.one_mul]
                omega
            · have hsb : decide (0 ≤ star) = false := decide_eq_false hst
              have hf := HS.out.fails (by omega) HDD.out (.inl (by omega))
              have ha := HM.out
              rw [hf] at ha
              subst ha
              go_wp2_with fail
              go_quiet (fail)
              go_wp2
              go_ret
              exact ⟨rfl, B4.out.trans ((Drawn0.below (HD.out.step _)).mono B4.out.size)⟩
        · obtain rfl : k = ss.length := by omega
          have hkb : decide ((ss.length : Int) < (ss.length : Int)) = false := decide_eq_false (by omega)
          have ha := HM.out
          rw [HS.out.over] at ha
          have HA := Aside0.mk ha
          obtain ⟨i0, hi0, hzz⟩ := Option.map_eq_some_iff.1 info_int32
          simp only [Prod.mk.injEq] at hzz
          have hsl : ∀ W, (Instr.slice 94 (.slice (some ad1) ps.length c1) (some (.int .i64 (i : Int))) none none).run Tryz.prog W = .ok (.slice (if c1 = i then some ad1 else (some ad1).map (·.add (i * (Kd.int .i32).sz))) (ps.drop i).length (c1 - i)) W := fun W => by
            have hel : Tryz.prog.elem 94 = 21 := by simp [Program.elem, Tryz.underlying94]
            have hu : Tryz.prog.underlying 94 = some (.slice (Tryz.prog.elem 94)) := by rw [hel]; exact Tryz.underlying94
            rw [run_slice_l W 94 (some ad1) ps.length c1 hu .i64 (i : Int) (Int.natCast_nonneg _) (by omega), hel, List.length_drop]
            have h1 : i * (Kd.int .i32).sz = i := Nat.mul_one i
            simp [sizeOf, typeInfo, hi0, hzz.2.1, sliced, Result.andThen, h1]
          have CD := Aside0.mk (Kd.C_drop (c := c1) CP.out hbi HC1.out)
          have hdl : (ps.drop i).length ≤ 1000 := by rw [List.length_drop]; omega
          generalize (if c1 = i then some ad1 else (some ad1).map (·.add (i * (Kd.int .i32).sz))) = A2 at hsl CD
          generalize ps.drop i = qs at hsl CD HA hdl
          clear ha hbi hbk hbf hbs hbs2 hk hzz hi0
          go_wp2
          go_loopw [84] (fun s84 wr => ∃ j : Nat, j ≤ qs.length ∧ s84 = .int .i64 j ∧ Aside0 ((qs.take j).all (fun c => decide (c = 42)) = true) ∧ Aside0 (Drawn0 W4 wr)) (fun s84 _ => qs.length - (intOf s84).toNat)
          case atStart => exact ⟨0, Nat.zero_le _, rfl, ⟨by simp⟩, HD⟩
          case round =>
            obtain ⟨j, hj, rfl, HL, HDJ⟩ := hrel
            by_cases hlt : j < qs.length
            · have hjb : decide ((j : Int) < (qs.length : Int)) = true := decide_eq_true (by omega)
              obtain ⟨c, hc⟩ : ∃ c, qs[j]? = some c := ⟨_, List.getElem?_eq_getElem hlt⟩
              obtain ⟨a3, rfl, hcc⟩ := Kd.at_int (Kd.C_below CD.out (Drawn0.below HDJ.out)) (j : Int) (by omega) (by omega)
              rw [rd_some hc, Int.toNat_natCast] at hcc
              have p0 : (0 : Int) ≤ (j : Int) := by omega
              have p1 : (j : Int) < (qs.length : Int) := by omega
              have hsp : qs.take (j + 1) = qs.take j ++ [c] := by rw [List.take_add_one, hc]; rfl
              have HSP := Aside0.mk hsp
              have hmem : c ∈ qs := List.mem_of_getElem? hc
              have HME := Aside0.mk hmem
              clear hc hsp hmem
              by_cases h42 : c = 42
              · subst h42
                go_wp2
                go_roundw
                case rel => exact ⟨j + 1, by omega, by go_num, ⟨by rw [HSP.out, List.all_append, HL.out]; rfl⟩, HDJ⟩
                case measure => simp [intOf]; omega
              · have h42b : (c != 42) = true := by simpa using h42
                have hst : stars qs = false := by
                  cases h : stars qs with
                  | false => rfl
                  | true =>
                    unfold stars at h
                    rw [List.all_eq_true] at h
                    have := h c HME.out
                    simp [h42] at this
                have ha := HA.out
                rw [hst] at ha
                subst ha
                clear hst
                go_wp2
                go_ret
                exact ⟨rfl, B4.out.trans ((Drawn0.below HDJ.out).mono B4.out.size)⟩
            · obtain rfl : j = qs.length := by omega
              have hjb : decide ((qs.length : Int) < (qs.length : Int)) = false := decide_eq_false (by omega)
              have ha := HA.out
              have hl := HL.out
              rw [List.take_length] at hl
              unfold stars at ha
              rw [hl] at ha
              subst ha
              clear hl
              go_wp2
              go_ret
              exact ⟨rfl, B4.out.trans ((Drawn0.below HDJ.out).mono B4.out.size)⟩
end Go.Proofs.YtemepnpfhoidhaaGreatDoor.PAll
