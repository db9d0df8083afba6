/- Pieces: which blocks lie within a range: the walk. -/
import Derived.BigQuiet
import Derived.Test.YtgmjpnampjkfeaaPieI
set_option linter.unusedVariables false
set_option linter.unusedSimpArgs false
namespace Go.Proofs.Ytgmjpnampjkfeaa.Pie
open Go Go.RowKit Go.Proofs.YtgmjpnampjkfeaaW.PrintWords Go.Proofs.YtgmjpnampjkfeaaW.PrintLast Go.Proofs.YtgmjpnampjkfeaaW.PrintMore Base

def inB (F T C : Nat) : Bool := decide (F ≤ C ∧ C < T)
theorem in_eq (O N C : Nat) : inB (iF O N) (iT O N) C = decide (O + N ≤ 4294967296 ∧ C < 16777216 ∧ O ≤ C * 256 ∧ (C + 1) * 256 ≤ O + N) := by
  unfold inB iF iT
  refine decide_eq_decide.2 ?_
  split <;> omega
theorem within_true {O N : Nat} (h : O + N ≤ 4294967296) : within O N 4294967296 = true := by rw [within_nat]; exact decide_eq_true h
theorem within_false {O N : Nat} (h : ¬ O + N ≤ 4294967296) : within O N 4294967296 = false := by rw [within_nat]; exact decide_eq_false h
set_option maxRecDepth 100000 in
set_option maxHeartbeats 3200000 in
theorem inner_walk (a : Int) (wa : (Lit.int .u64 a).wf = true) (b : Int) (wb : (Lit.int .u64 b).wf = true) (c : Int) (wc : (Lit.int .u64 c).wf = true) (w : World) :
    Calls Try.prog 6 #[.int .u64 a, .int .u64 b, .int .u64 c] w fun e w' => e = .returned (.bool true) ∧ Below w.heap.size w w' := by
  have ha := le_of_wfu64 wa
  have hb := le_of_wfu64 wb
  have hc := le_of_wfu64 wc
  obtain ⟨O, rfl⟩ := Int.eq_ofNat_of_zero_le ha.1
  obtain ⟨N, rfl⟩ := Int.eq_ofNat_of_zero_le hb.1
  obtain ⟨C, rfl⟩ := Int.eq_ofNat_of_zero_le hc.1
  have hOO : O < 18446744073709551616 := by omega
  have hNN : N < 18446744073709551616 := by omega
  have hCC : C < 18446744073709551616 := by omega
  clear wa wb wc ha hb hc
  obtain ⟨F, hF⟩ : ∃ F, iF O N = F := ⟨_, rfl⟩
  obtain ⟨T, hT⟩ : ∃ T, iT O N = T := ⟨_, rfl⟩
  have HFT := Lib.hid (And.intro hF hT)
  have HB := Lib.hid (And.intro hOO (And.intro hNN hCC))
  obtain ⟨K, hK⟩ : ∃ K, cutK O N = K := ⟨_, rfl⟩
  have HK := Lib.hid hK
  have hcs := inner_cases O N
  rw [hF, hT] at hcs
  have HCS := Lib.hid hcs
  have hle : decide ((T : Int) < (F : Int)) = false := decide_eq_false (by omega)
  have HIN := Lib.hid (show inB F T C = decide (O + N ≤ 4294967296 ∧ C < 16777216 ∧ O ≤ C * 256 ∧ (C + 1) * 256 ≤ O + N) by rw [← hF, ← hT]; exact in_eq O N C)
  have HK0 := Lib.hid (show kI O N 0 = F by rw [← hF]; exact kI_zero O N)
  have HKE := Lib.hid (show 0 < K → kI O N K = T by rw [← hK, ← hT]; exact kI_end O N)
  have HFT' := HFT.out
  clear hF hT hOO hNN hCC hK HFT'
  go_enter Try.func6, Try.ntmps6
  go_wp2_with fail
  refine (inner_at O N _ HB.out.1 HB.out.2.1).mono ?_; rintro e w1 ⟨rfl, rfl⟩
  rw [HFT.out.1, HFT.out.2]
  go_upto_region 2 with fail
  rcases hcs with ⟨rfl, rfl⟩ | hlt
  · skip
    go_upto_region 4 with fail
    go_cut [9] (fun v wx => v = .bool (inB 0 0 C) ∧ wx = w)
    case first =>
      by_cases hw : O + N ≤ 4294967296
      · by_cases h1 : C < 16777216
        · have d1 : decide ((C : Int) < 16777216) = true := decide_eq_true (by omega)
          have m1 : IntKind.u64.wrap ((C : Int) * 256) = (C : Int) * 256 := by rw [wrap_u64]; omega
          by_cases h2 : O ≤ C * 256
          · have d2 : decide ((O : Int) ≤ (C : Int) * 256) = true := decide_eq_true (by omega)
            have m2 : IntKind.u64.wrap ((C : Int) + 1) = (C : Int) + 1 := by rw [wrap_u64]; omega
            have m3 : IntKind.u64.wrap (((C : Int) + 1) * 256) = ((C : Int) + 1) * 256 := by rw [wrap_u64]; omega
            have m4 : IntKind.u64.wrap ((O : Int) + (N : Int)) = (O : Int) + (N : Int) := by rw [wrap_u64]; omega
            by_cases h3 : (C + 1) * 256 ≤ O + N
            · have d3 : decide (((C : Int) + 1) * 256 ≤ (O : Int) + (N : Int)) = true := decide_eq_true (by omega)
              have hb0 : inB 0 0 C = true := by rw [HIN.out]; exact decide_eq_true (by omega)
              go_wp2_with fail
              refine (within_at _ (by have := HB.out; omega) (by have := HB.out; omega) (by omega) (within_true hw)).mono ?_; rintro e w1 ⟨rfl, rfl⟩
              go_wp2_with fail
              go_meet
              exact ⟨congrArg Value.bool hb0.symm, rfl⟩
            · have d3 : decide (((C : Int) + 1) * 256 ≤ (O : Int) + (N : Int)) = false := decide_eq_false (by omega)
              have hb0 : inB 0 0 C = false := by rw [HIN.out]; exact decide_eq_false (by omega)
              go_wp2_with fail
              refine (within_at _ (by have := HB.out; omega) (by have := HB.out; omega) (by omega) (within_true hw)).mono ?_; rintro e w1 ⟨rfl, rfl⟩
              go_wp2_with fail
              go_meet
              exact ⟨congrArg Value.bool hb0.symm, rfl⟩
          · have d2 : decide ((O : Int) ≤ (C : Int) * 256) = false := decide_eq_false (by omega)
            have hb0 : inB 0 0 C = false := by rw [HIN.out]; exact decide_eq_false (by omega)
            go_wp2_with fail
            refine (within_at _ (by have := HB.out; omega) (by have := HB.out; omega) (by omega) (within_true hw)).mono ?_; rintro e w1 ⟨rfl, rfl⟩
            go_wp2_with fail
            go_meet
            exact ⟨congrArg Value.bool hb0.symm, rfl⟩
        · have d1 : decide ((C : Int) < 16777216) = false := decide_eq_false (by omega)
          have hb0 : inB 0 0 C = false := by rw [HIN.out]; exact decide_eq_false (by omega)
          go_wp2_with fail
          refine (within_at _ (by have := HB.out; omega) (by have := HB.out; omega) (by omega) (within_true hw)).mono ?_; rintro e w1 ⟨rfl, rfl⟩
          go_wp2_with fail
          go_meet
          exact ⟨congrArg Value.bool hb0.symm, rfl⟩
      · have hb0 : inB 0 0 C = false := by rw [HIN.out]; exact decide_eq_false (by omega)
        go_wp2_with fail
        refine (within_at _ (by have := HB.out; omega) (by have := HB.out; omega) (by omega) (within_false hw)).mono ?_; rintro e w1 ⟨rfl, rfl⟩
        go_wp2_with fail
        go_meet
        exact ⟨congrArg Value.bool hb0.symm, rfl⟩
    case rest =>
      obtain ⟨rfl, rfl⟩ := hcut
      have hb0 : inB 0 0 C = false := decide_eq_false (by omega)
      rw [hb0]
      have dF : decide ((0 : Int) ≤ (C : Int)) = true := decide_eq_true (by omega)
      have dT : decide ((C : Int) < 0) = false := decide_eq_false (by omega)
      clear hle
      go_wp2_with fail
      refine (cut_at wc HB.out.1 HB.out.2.1 HK.out).mono ?_; rintro e w1 ⟨A, cc, rfl, ho, hbl⟩
      have HO := Lib.hid ho
      have HBL := Lib.hid hbl
      clear ho hbl
      go_wp2_with fail
      go_loopw [11, 12] (fun kv i wr => ∃ j : Nat, j ≤ K ∧ kv = .int .u64 (kI O N j : Int) ∧ i = .int .i64 (j : Int) ∧ Below w1.heap.size w1 wr) (fun _ i _ => K - (intOf i).toNat)
      case atStart => exact ⟨0, by omega, by rw [HK0.out] <;> rfl, rfl, Below.refl _ _⟩
      case round =>
        obtain ⟨j, hj, rfl, rfl, hb⟩ := hrel
        have HR := Lib.hid hb
        by_cases hlj : j < K
        · obtain ⟨g, rfl, x0, x1, x2, x3⟩ := pl_at (pw_own_below HO.out hb) hlj
          have hwh := fun h => kI_whole (O := O) (N := N) (j := j) (by rw [HK.out]; exact hlj) h
          have hpt := fun h => kI_part (O := O) (N := N) (j := j) (by rw [HK.out]; exact hlj) h
          have hf : pF O N j < 256 := Nat.mod_lt _ (by omega)
          have htf : pT O N j ≤ 256 ∧ pF O N j ≤ pT O N j := pT_le (by have h1 := cutK_pos (O := O) (N := N) (by rw [HK.out]; omega); rw [HK.out] at h1; omega)
          obtain ⟨k, hk⟩ : ∃ k, kI O N j = k := ⟨_, rfl⟩
          rw [hk]
          have HKJ := Lib.hid hk
          have HLJ := Lib.hid hlj
          have hjK : j < 65537 := by have h1 := cutK_pos (O := O) (N := N) (by rw [HK.out]; omega); have h2 := cutK_le O N; rw [HK.out] at h2; omega
          by_cases hw : pT O N j = pF O N j + 256
          · obtain ⟨e1, e2, e3⟩ := hwh hw
            rw [hk] at e1 e2 e3
            rw [e1] at x0
            have hd : wrap64 ((pT O N j : Int) - (pF O N j : Int)) = 256 := by unfold wrap64; omega
            have hk1 : IntKind.u64.wrap ((k : Int) + 1) = (k : Int) + 1 := by rw [wrap_u64]; omega
            have E2 := Lib.hid e2
            have HJ1 := Lib.hid hjK
            clear hwh hpt hf htf hk hw e1 e2 e3 hb hj
            generalize pT O N j = t at *
            generalize pF O N j = f at *
            go_wp2_with fail
            go_quiet (fail)
            go_wp2_with fail
            go_roundw
            case rel => exact ⟨j + 1, by have := HLJ.out; omega, by rw [E2.out]; push_cast; rfl, by push_cast; rfl, below_dn HR.out _⟩
            case measure => simp [intOf]; have := HLJ.out; omega
          · have e2 := hpt hw
            rw [hk] at e2
            have hne0 : wrap64 ((pT O N j : Int) - (pF O N j : Int)) = ((pT O N j - pF O N j : Nat) : Int) := by unfold wrap64; omega
            have hd256 : pT O N j - pF O N j ≠ 256 := by omega
            have E2 := Lib.hid e2
            clear hwh hpt hf htf hk hw e2 hb hj
            generalize pT O N j = t at *
            generalize pF O N j = f at *
            obtain ⟨d, hd⟩ : ∃ d, t - f = d := ⟨_, rfl⟩
            rw [hd] at hne0 hd256
            have hdd : ((d : Int) == 256) = false := by simp; omega
            clear hd
            go_wp2_with fail
            go_quiet (fail)
            go_wp2_with fail
            go_roundw
            case rel => exact ⟨j + 1, by have := HLJ.out; omega, by rw [E2.out], by push_cast; rfl, below_dn HR.out _⟩
            case measure => simp [intOf]; have := HLJ.out; omega
        · obtain rfl : j = K := by omega
          clear hj hlj hb
          by_cases hk0 : 0 < j
          · have hE := HKE.out hk0
            rw [hE]
            have hz : ((j : Int) == 0) = false := by simp; omega
            clear hE
            go_wp2_with fail
            refine (wakes_any _).mono ?_; rintro e w2 ⟨rfl, hb2⟩
            have B2 := Lib.hid (below_then (below_then HBL.out HBL.out.size HR.out) (Nat.le_trans HBL.out.size HR.out.size) hb2)
            clear hb2
            go_wp2_with fail
            go_ret
            exact ⟨rfl, B2.out⟩
          · obtain rfl : j = 0 := by omega
            go_wp2_with fail
            refine (wakes_any _).mono ?_; rintro e w2 ⟨rfl, hb2⟩
            have B2 := Lib.hid (below_then (below_then HBL.out HBL.out.size HR.out) (Nat.le_trans HBL.out.size HR.out.size) hb2)
            clear hb2
            go_wp2_with fail
            go_ret
            exact ⟨rfl, B2.out⟩
  · have hne : ((F : Int) == (T : Int)) = false := by simp; omega
    go_upto_region 4 with fail
    go_cut [9] (fun v wx => v = .bool (inB F T C) ∧ wx = w)
    case first =>
      by_cases hw : O + N ≤ 4294967296
      · by_cases h1 : C < 16777216
        · have d1 : decide ((C : Int) < 16777216) = true := decide_eq_true (by omega)
          have m1 : IntKind.u64.wrap ((C : Int) * 256) = (C : Int) * 256 := by rw [wrap_u64]; omega
          by_cases h2 : O ≤ C * 256
          · have d2 : decide ((O : Int) ≤ (C : Int) * 256) = true := decide_eq_true (by omega)
            have m2 : IntKind.u64.wrap ((C : Int) + 1) = (C : Int) + 1 := by rw [wrap_u64]; omega
            have m3 : IntKind.u64.wrap (((C : Int) + 1) * 256) = ((C : Int) + 1) * 256 := by rw [wrap_u64]; omega
            have m4 : IntKind.u64.wrap ((O : Int) + (N : Int)) = (O : Int) + (N : Int) := by rw [wrap_u64]; omega
            by_cases h3 : (C + 1) * 256 ≤ O + N
            · have d3 : decide (((C : Int) + 1) * 256 ≤ (O : Int) + (N : Int)) = true := decide_eq_true (by omega)
              have hb0 : inB F T C = true := by rw [HIN.out]; exact decide_eq_true (by omega)
              go_wp2_with fail
              refine (within_at _ (by have := HB.out; omega) (by have := HB.out; omega) (by omega) (within_true hw)).mono ?_; rintro e w1 ⟨rfl, rfl⟩
              go_wp2_with fail
              go_meet
              exact ⟨congrArg Value.bool hb0.symm, rfl⟩
            · have d3 : decide (((C : Int) + 1) * 256 ≤ (O : Int) + (N : Int)) = false := decide_eq_false (by omega)
              have hb0 : inB F T C = false := by rw [HIN.out]; exact decide_eq_false (by omega)
              go_wp2_with fail
              refine (within_at _ (by have := HB.out; omega) (by have := HB.out; omega) (by omega) (within_true hw)).mono ?_; rintro e w1 ⟨rfl, rfl⟩
              go_wp2_with fail
              go_meet
              exact ⟨congrArg Value.bool hb0.symm, rfl⟩
          · have d2 : decide ((O : Int) ≤ (C : Int) * 256) = false := decide_eq_false (by omega)
            have hb0 : inB F T C = false := by rw [HIN.out]; exact decide_eq_false (by omega)
            go_wp2_with fail
            refine (within_at _ (by have := HB.out; omega) (by have := HB.out; omega) (by omega) (within_true hw)).mono ?_; rintro e w1 ⟨rfl, rfl⟩
            go_wp2_with fail
            go_meet
            exact ⟨congrArg Value.bool hb0.symm, rfl⟩
        · have d1 : decide ((C : Int) < 16777216) = false := decide_eq_false (by omega)
          have hb0 : inB F T C = false := by rw [HIN.out]; exact decide_eq_false (by omega)
          go_wp2_with fail
          refine (within_at _ (by have := HB.out; omega) (by have := HB.out; omega) (by omega) (within_true hw)).mono ?_; rintro e w1 ⟨rfl, rfl⟩
          go_wp2_with fail
          go_meet
          exact ⟨congrArg Value.bool hb0.symm, rfl⟩
      · have hb0 : inB F T C = false := by rw [HIN.out]; exact decide_eq_false (by omega)
        go_wp2_with fail
        refine (within_at _ (by have := HB.out; omega) (by have := HB.out; omega) (by omega) (within_false hw)).mono ?_; rintro e w1 ⟨rfl, rfl⟩
        go_wp2_with fail
        go_meet
        exact ⟨congrArg Value.bool hb0.symm, rfl⟩
    case rest =>
      obtain ⟨rfl, rfl⟩ := hcut
      rcases (show (F ≤ C ∧ C < T) ∨ (F ≤ C ∧ ¬ C < T) ∨ ¬ F ≤ C by omega) with ⟨h1, h2⟩ | ⟨h1, h2⟩ | h1
      · have hb0 : inB F T C = true := decide_eq_true (by omega)
        rw [hb0]
        have dF : decide ((F : Int) ≤ (C : Int)) = true := decide_eq_true (by omega)
        have dT : decide ((C : Int) < (T : Int)) = true := decide_eq_true (by omega)
        clear hle hne
        go_wp2_with fail
        refine (cut_at wc HB.out.1 HB.out.2.1 HK.out).mono ?_; rintro e w1 ⟨A, cc, rfl, ho, hbl⟩
        have HO := Lib.hid ho
        have HBL := Lib.hid hbl
        clear ho hbl
        go_wp2_with fail
        go_loopw [11, 12] (fun kv i wr => ∃ j : Nat, j ≤ K ∧ kv = .int .u64 (kI O N j : Int) ∧ i = .int .i64 (j : Int) ∧ Below w1.heap.size w1 wr) (fun _ i _ => K - (intOf i).toNat)
        case atStart => exact ⟨0, by omega, by rw [HK0.out] <;> rfl, rfl, Below.refl _ _⟩
        case round =>
          obtain ⟨j, hj, rfl, rfl, hb⟩ := hrel
          have HR := Lib.hid hb
          by_cases hlj : j < K
          · obtain ⟨g, rfl, x0, x1, x2, x3⟩ := pl_at (pw_own_below HO.out hb) hlj
            have hwh := fun h => kI_whole (O := O) (N := N) (j := j) (by rw [HK.out]; exact hlj) h
            have hpt := fun h => kI_part (O := O) (N := N) (j := j) (by rw [HK.out]; exact hlj) h
            have hf : pF O N j < 256 := Nat.mod_lt _ (by omega)
            have htf : pT O N j ≤ 256 ∧ pF O N j ≤ pT O N j := pT_le (by have h1 := cutK_pos (O := O) (N := N) (by rw [HK.out]; omega); rw [HK.out] at h1; omega)
            obtain ⟨k, hk⟩ : ∃ k, kI O N j = k := ⟨_, rfl⟩
            rw [hk]
            have HKJ := Lib.hid hk
            have HLJ := Lib.hid hlj
            have hjK : j < 65537 := by have h1 := cutK_pos (O := O) (N := N) (by rw [HK.out]; omega); have h2 := cutK_le O N; rw [HK.out] at h2; omega
            by_cases hw : pT O N j = pF O N j + 256
            · obtain ⟨e1, e2, e3⟩ := hwh hw
              rw [hk] at e1 e2 e3
              rw [e1] at x0
              have hd : wrap64 ((pT O N j : Int) - (pF O N j : Int)) = 256 := by unfold wrap64; omega
              have hk1 : IntKind.u64.wrap ((k : Int) + 1) = (k : Int) + 1 := by rw [wrap_u64]; omega
              have E2 := Lib.hid e2
              have HJ1 := Lib.hid hjK
              clear hwh hpt hf htf hk hw e1 e2 e3 hb hj
              generalize pT O N j = t at *
              generalize pF O N j = f at *
              go_wp2_with fail
              go_quiet (fail)
              go_wp2_with fail
              go_roundw
              case rel => exact ⟨j + 1, by have := HLJ.out; omega, by rw [E2.out]; push_cast; rfl, by push_cast; rfl, below_dn HR.out _⟩
              case measure => simp [intOf]; have := HLJ.out; omega
            · have e2 := hpt hw
              rw [hk] at e2
              have hne0 : wrap64 ((pT O N j : Int) - (pF O N j : Int)) = ((pT O N j - pF O N j : Nat) : Int) := by unfold wrap64; omega
              have hd256 : pT O N j - pF O N j ≠ 256 := by omega
              have E2 := Lib.hid e2
              clear hwh hpt hf htf hk hw e2 hb hj
              generalize pT O N j = t at *
              generalize pF O N j = f at *
              obtain ⟨d, hd⟩ : ∃ d, t - f = d := ⟨_, rfl⟩
              rw [hd] at hne0 hd256
              have hdd : ((d : Int) == 256) = false := by simp; omega
              clear hd
              go_wp2_with fail
              go_quiet (fail)
              go_wp2_with fail
              go_roundw
              case rel => exact ⟨j + 1, by have := HLJ.out; omega, by rw [E2.out], by push_cast; rfl, below_dn HR.out _⟩
              case measure => simp [intOf]; have := HLJ.out; omega
          · obtain rfl : j = K := by omega
            clear hj hlj hb
            by_cases hk0 : 0 < j
            · have hE := HKE.out hk0
              rw [hE]
              have hz : ((j : Int) == 0) = false := by simp; omega
              clear hE
              go_wp2_with fail
              refine (wakes_any _).mono ?_; rintro e w2 ⟨rfl, hb2⟩
              have B2 := Lib.hid (below_then (below_then HBL.out HBL.out.size HR.out) (Nat.le_trans HBL.out.size HR.out.size) hb2)
              clear hb2
              go_wp2_with fail
              go_ret
              exact ⟨rfl, B2.out⟩
            · obtain rfl : j = 0 := by omega
              go_wp2_with fail
              refine (wakes_any _).mono ?_; rintro e w2 ⟨rfl, hb2⟩
              have B2 := Lib.hid (below_then (below_then HBL.out HBL.out.size HR.out) (Nat.le_trans HBL.out.size HR.out.size) hb2)
              clear hb2
              go_wp2_with fail
              go_ret
              exact ⟨rfl, B2.out⟩
      · have hb0 : inB F T C = false := decide_eq_false (by omega)
        rw [hb0]
        have dF : decide ((F : Int) ≤ (C : Int)) = true := decide_eq_true (by omega)
        have dT : decide ((C : Int) < (T : Int)) = false := decide_eq_false (by omega)
        clear hle hne
        go_wp2_with fail
        refine (cut_at wc HB.out.1 HB.out.2.1 HK.out).mono ?_; rintro e w1 ⟨A, cc, rfl, ho, hbl⟩
        have HO := Lib.hid ho
        have HBL := Lib.hid hbl
        clear ho hbl
        go_wp2_with fail
        go_loopw [11, 12] (fun kv i wr => ∃ j : Nat, j ≤ K ∧ kv = .int .u64 (kI O N j : Int) ∧ i = .int .i64 (j : Int) ∧ Below w1.heap.size w1 wr) (fun _ i _ => K - (intOf i).toNat)
        case atStart => exact ⟨0, by omega, by rw [HK0.out] <;> rfl, rfl, Below.refl _ _⟩
        case round =>
          obtain ⟨j, hj, rfl, rfl, hb⟩ := hrel
          have HR := Lib.hid hb
          by_cases hlj : j < K
          · obtain ⟨g, rfl, x0, x1, x2, x3⟩ := pl_at (pw_own_below HO.out hb) hlj
            have hwh := fun h => kI_whole (O := O) (N := N) (j := j) (by rw [HK.out]; exact hlj) h
            have hpt := fun h => kI_part (O := O) (N := N) (j := j) (by rw [HK.out]; exact hlj) h
            have hf : pF O N j < 256 := Nat.mod_lt _ (by omega)
            have htf : pT O N j ≤ 256 ∧ pF O N j ≤ pT O N j := pT_le (by have h1 := cutK_pos (O := O) (N := N) (by rw [HK.out]; omega); rw [HK.out] at h1; omega)
            obtain ⟨k, hk⟩ : ∃ k, kI O N j = k := ⟨_, rfl⟩
            rw [hk]
            have HKJ := Lib.hid hk
            have HLJ := Lib.hid hlj
            have hjK : j < 65537 := by have h1 := cutK_pos (O := O) (N := N) (by rw [HK.out]; omega); have h2 := cutK_le O N; rw [HK.out] at h2; omega
            by_cases hw : pT O N j = pF O N j + 256
            · obtain ⟨e1, e2, e3⟩ := hwh hw
              rw [hk] at e1 e2 e3
              rw [e1] at x0
              have hd : wrap64 ((pT O N j : Int) - (pF O N j : Int)) = 256 := by unfold wrap64; omega
              have hk1 : IntKind.u64.wrap ((k : Int) + 1) = (k : Int) + 1 := by rw [wrap_u64]; omega
              have E2 := Lib.hid e2
              have HJ1 := Lib.hid hjK
              clear hwh hpt hf htf hk hw e1 e2 e3 hb hj
              generalize pT O N j = t at *
              generalize pF O N j = f at *
              go_wp2_with fail
              go_quiet (fail)
              go_wp2_with fail
              go_roundw
              case rel => exact ⟨j + 1, by have := HLJ.out; omega, by rw [E2.out]; push_cast; rfl, by push_cast; rfl, below_dn HR.out _⟩
              case measure => simp [intOf]; have := HLJ.out; omega
            · have e2 := hpt hw
              rw [hk] at e2
              have hne0 : wrap64 ((pT O N j : Int) - (pF O N j : Int)) = ((pT O N j - pF O N j : Nat) : Int) := by unfold wrap64; omega
              have hd256 : pT O N j - pF O N j ≠ 256 := by omega
              have E2 := Lib.hid e2
              clear hwh hpt hf htf hk hw e2 hb hj
              generalize pT O N j = t at *
              generalize pF O N j = f at *
              obtain ⟨d, hd⟩ : ∃ d, t - f = d := ⟨_, rfl⟩
              rw [hd] at hne0 hd256
              have hdd : ((d : Int) == 256) = false := by simp; omega
              clear hd
              go_wp2_with fail
              go_quiet (fail)
              go_wp2_with fail
              go_roundw
              case rel => exact ⟨j + 1, by have := HLJ.out; omega, by rw [E2.out], by push_cast; rfl, below_dn HR.out _⟩
              case measure => simp [intOf]; have := HLJ.out; omega
          · obtain rfl : j = K := by omega
            clear hj hlj hb
            by_cases hk0 : 0 < j
            · have hE := HKE.out hk0
              rw [hE]
              have hz : ((j : Int) == 0) = false := by simp; omega
              clear hE
              go_wp2_with fail
              refine (wakes_any _).mono ?_; rintro e w2 ⟨rfl, hb2⟩
              have B2 := Lib.hid (below_then (below_then HBL.out HBL.out.size HR.out) (Nat.le_trans HBL.out.size HR.out.size) hb2)
              clear hb2
              go_wp2_with fail
              go_ret
              exact ⟨rfl, B2.out⟩
            · obtain rfl : j = 0 := by omega
              go_wp2_with fail
              refine (wakes_any _).mono ?_; rintro e w2 ⟨rfl, hb2⟩
              have B2 := Lib.hid (below_then (below_then HBL.out HBL.out.size HR.out) (Nat.le_trans HBL.out.size HR.out.size) hb2)
              clear hb2
              go_wp2_with fail
              go_ret
              exact ⟨rfl, B2.out⟩
      · have hb0 : inB F T C = false := decide_eq_false (by omega)
        rw [hb0]
        have dF : decide ((F : Int) ≤ (C : Int)) = false := decide_eq_false (by omega)
        clear hle hne
        go_wp2_with fail
        refine (cut_at wc HB.out.1 HB.out.2.1 HK.out).mono ?_; rintro e w1 ⟨A, cc, rfl, ho, hbl⟩
        have HO := Lib.hid ho
        have HBL := Lib.hid hbl
        clear ho hbl
        go_wp2_with fail
        go_loopw [11, 12] (fun kv i wr => ∃ j : Nat, j ≤ K ∧ kv = .int .u64 (kI O N j : Int) ∧ i = .int .i64 (j : Int) ∧ Below w1.heap.size w1 wr) (fun _ i _ => K - (intOf i).toNat)
        case atStart => exact ⟨0, by omega, by rw [HK0.out] <;> rfl, rfl, Below.refl _ _⟩
        case round =>
          obtain ⟨j, hj, rfl, rfl, hb⟩ := hrel
          have HR := Lib.hid hb
          by_cases hlj : j < K
          · obtain ⟨g, rfl, x0, x1, x2, x3⟩ := pl_at (pw_own_below HO.out hb) hlj
            have hwh := fun h => kI_whole (O := O) (N := N) (j := j) (by rw [HK.out]; exact hlj) h
            have hpt := fun h => kI_part (O := O) (N := N) (j := j) (by rw [HK.out]; exact hlj) h
            have hf : pF O N j < 256 := Nat.mod_lt _ (by omega)
            have htf : pT O N j ≤ 256 ∧ pF O N j ≤ pT O N j := pT_le (by have h1 := cutK_pos (O := O) (N := N) (by rw [HK.out]; omega); rw [HK.out] at h1; omega)
            obtain ⟨k, hk⟩ : ∃ k, kI O N j = k := ⟨_, rfl⟩
            rw [hk]
            have HKJ := Lib.hid hk
            have HLJ := Lib.hid hlj
            have hjK : j < 65537 := by have h1 := cutK_pos (O := O) (N := N) (by rw [HK.out]; omega); have h2 := cutK_le O N; rw [HK.out] at h2; omega
            by_cases hw : pT O N j = pF O N j + 256
            · obtain ⟨e1, e2, e3⟩ := hwh hw
              rw [hk] at e1 e2 e3
              rw [e1] at x0
              have hd : wrap64 ((pT O N j : Int) - (pF O N j : Int)) = 256 := by unfold wrap64; omega
              have hk1 : IntKind.u64.wrap ((k : Int) + 1) = (k : Int) + 1 := by rw [wrap_u64]; omega
              have E2 := Lib.hid e2
              have HJ1 := Lib.hid hjK
              clear hwh hpt hf htf hk hw e1 e2 e3 hb hj
              generalize pT O N j = t at *
              generalize pF O N j = f at *
              go_wp2_with fail
              go_quiet (fail)
              go_wp2_with fail
              go_roundw
              case rel => exact ⟨j + 1, by have := HLJ.out; omega, by rw [E2.out]; push_cast; rfl, by push_cast; rfl, below_dn HR.out _⟩
              case measure => simp [intOf]; have := HLJ.out; omega
            · have e2 := hpt hw
              rw [hk] at e2
              have hne0 : wrap64 ((pT O N j : Int) - (pF O N j : Int)) = ((pT O N j - pF O N j : Nat) : Int) := by unfold wrap64; omega
              have hd256 : pT O N j - pF O N j ≠ 256 := by omega
              have E2 := Lib.hid e2
              clear hwh hpt hf htf hk hw e2 hb hj
              generalize pT O N j = t at *
              generalize pF O N j = f at *
              obtain ⟨d, hd⟩ : ∃ d, t - f = d := ⟨_, rfl⟩
              rw [hd] at hne0 hd256
              have hdd : ((d : Int) == 256) = false := by simp; omega
              clear hd
              go_wp2_with fail
              go_quiet (fail)
              go_wp2_with fail
              go_roundw
              case rel => exact ⟨j + 1, by have := HLJ.out; omega, by rw [E2.out], by push_cast; rfl, below_dn HR.out _⟩
              case measure => simp [intOf]; have := HLJ.out; omega
          · obtain rfl : j = K := by omega
            clear hj hlj hb
            by_cases hk0 : 0 < j
            · have hE := HKE.out hk0
              rw [hE]
              have hz : ((j : Int) == 0) = false := by simp; omega
              clear hE
              go_wp2_with fail
              refine (wakes_any _).mono ?_; rintro e w2 ⟨rfl, hb2⟩
              have B2 := Lib.hid (below_then (below_then HBL.out HBL.out.size HR.out) (Nat.le_trans HBL.out.size HR.out.size) hb2)
              clear hb2
              go_wp2_with fail
              go_ret
              exact ⟨rfl, B2.out⟩
            · obtain rfl : j = 0 := by omega
              go_wp2_with fail
              refine (wakes_any _).mono ?_; rintro e w2 ⟨rfl, hb2⟩
              have B2 := Lib.hid (below_then (below_then HBL.out HBL.out.size HR.out) (Nat.le_trans HBL.out.size HR.out.size) hb2)
              clear hb2
              go_wp2_with fail
              go_ret
              exact ⟨rfl, B2.out⟩
end Go.Proofs.Ytgmjpnampjkfeaa.Pie
