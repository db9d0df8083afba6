/- Pieces: the pieces of a range have all its bytes: the walk. -/
import Derived.BigQuiet
import Derived.Test.YtgmjpnampjkfeaaPieK
set_option linter.unusedVariables false
set_option linter.unusedSimpArgs false
namespace Go.Proofs.Ytgmjpnampjkfeaa.Pie
open Go Go.RowKit Go.Proofs.YtgmjpnampjkfeaaW.PrintWords Go.Proofs.YtgmjpnampjkfeaaW.PrintLast Go.Proofs.YtgmjpnampjkfeaaW.PrintMore Base

theorem w64i {i : Nat} (h : i < 65538) : IntKind.i64.wrap (i : Int) = (i : Int) ∧ wrap64 (i : Int) = (i : Int) := ⟨by rw [IntKind.wrap_i64]; omega, w64 (by omega) (by omega)⟩
theorem step_num {j K : Nat} (h : j < K) (h1 : K < 65538) : wrap64 ((j : Int) + 1) = ((j + 1 : Nat) : Int) := w64_eq (by omega) (by omega) (by omega)
theorem i64_pred {K m : Nat} (h : K = m + 1) (h1 : K < 65538) : IntKind.i64.wrap ((K : Int) - 1) = (m : Int) := by rw [IntKind.wrap_i64]; omega
theorem within_true' {O N : Nat} (h : O + N ≤ 4294967296) : within O N 4294967296 = true := by rw [within_nat]; exact decide_eq_true h
theorem within_false' {O N : Nat} (h : ¬ O + N ≤ 4294967296) : within O N 4294967296 = false := by rw [within_nat]; exact decide_eq_false h
set_option maxRecDepth 100000 in
set_option maxHeartbeats 6400000 in
theorem whole_walk (a : Int) (wa : (Lit.int .u64 a).wf = true) (b : Int) (wb : (Lit.int .u64 b).wf = true) (w : World) :
    Calls Try.prog 4 #[.int .u64 a, .int .u64 b] w fun e w' => e = .returned (.bool true) ∧ Below w.heap.size w w' := by
  have ha := le_of_wfu64 wa
  have hb := le_of_wfu64 wb
  obtain ⟨O, rfl⟩ := Int.eq_ofNat_of_zero_le ha.1
  obtain ⟨N, rfl⟩ := Int.eq_ofNat_of_zero_le hb.1
  have hOO : O < 18446744073709551616 := by omega
  have hNN : N < 18446744073709551616 := by omega
  have HB := Lib.hid (And.intro hOO hNN)
  clear wa wb ha hb hOO hNN
  by_cases hw : O + N ≤ 4294967296
  · by_cases hm : N ≤ 65536
    · by_cases h0 : 0 < N
      · have hc : cutK O N = cntP O N := if_pos ⟨hm, hw⟩
        obtain ⟨K, hK⟩ : ∃ K, cntP O N = K := ⟨_, rfl⟩
        rw [hK] at hc
        have HK := Lib.hid hc
        have HC := Lib.hid hK
        have hz : ((N : Int) == 0) = false := by simp; omega
        have dm : decide ((65536 : Int) < (N : Int)) = false := decide_eq_false (by omega)
        have hnm : ¬ 65536 < N := by omega
        have HN := Lib.hid (And.intro h0 (And.intro hm hw))
        have HA := Lib.hid (show pA O N K = N by rw [← hK]; exact pA_end)
        clear hc hK hm h0
        go_enter Try.func4, Try.ntmps4
        go_wp2_with fail
        refine (cut_at _ HB.out.1 HB.out.2 HK.out).mono ?_; rintro e w1 ⟨A, cc, rfl, ho, hbl⟩
        have HO := Lib.hid ho
        have HBL := Lib.hid hbl
        clear ho hbl
        go_wp2_with fail
        refine (within_at _ (by have := HB.out; omega) (by have := HB.out; omega) (by omega) (within_true' HN.out.2.2)).mono ?_; rintro e w1 ⟨rfl, rfl⟩
        clear hz dm hnm hw
        go_wp2_with fail
        go_loopw [6, 7] (fun av i wr => ∃ j : Nat, j ≤ K ∧ av = .int .i64 (pA O N j : Int) ∧ i = .int .i64 (j : Int) ∧ Below w1.heap.size w1 wr) (fun _ i _ => K - (intOf i).toNat)
        case atStart => exact ⟨0, by omega, by rw [pA_zero] <;> rfl, rfl, Below.refl _ _⟩
        case round =>
          obtain ⟨j, hj, rfl, rfl, hb⟩ := hrel
          have HR := Lib.hid hb
          by_cases hlj : j < K
          · obtain ⟨g, rfl, x0, x1, x2, x3⟩ := pl_at (pw_own_below HO.out hb) hlj
            have FN := Lib.hid (fine (O := O) (N := N) (j := j) (by rw [HC.out]; exact hlj))
            have XJ := Lib.hid (fun i (hi : i < K) => pl_at (pw_own_below HO.out hb) hi)
            obtain ⟨b, hb0⟩ : ∃ b, pB O N j = b := ⟨_, rfl⟩
            obtain ⟨f, hf0⟩ : ∃ f, pF O N j = f := ⟨_, rfl⟩
            obtain ⟨t, ht0⟩ : ∃ t, pT O N j = t := ⟨_, rfl⟩
            obtain ⟨q, hq0⟩ : ∃ q, pA O N j = q := ⟨_, rfl⟩
            obtain ⟨q1, hq1⟩ : ∃ q1, pA O N (j + 1) = q1 := ⟨_, rfl⟩
            have F0 := FN.out
            rw [hb0, hf0, ht0, hq0, hq1] at F0
            rw [hb0] at x0; rw [hf0] at x1; rw [ht0] at x2; rw [hq0] at x3
            rw [hq0]
            have Q1 := Lib.hid hq1
            obtain ⟨w2, hw2, b2, f2, s2⟩ := made wr #[.int .u64 0, .int .i64 0, .int .i64 0, .int .i64 0] 31
            obtain ⟨w3, hw3⟩ : ∃ w3, w2.setRow wr.heap.size #[.int .u64 (b : Int), .int .i64 (f : Int), .int .i64 (t : Int), .int .i64 (q : Int)] = w3 := ⟨_, rfl⟩
            have R2 := Lib.hid f2
            have p3 : w3.heap[wr.heap.size]? = some (.cells #[.int .u64 (b : Int), .int .i64 (f : Int), .int .i64 (t : Int), .int .i64 (q : Int)] 31) := by rw [← hw3]; exact setRow_heap _ _ _ _ _ _ f2
            have B3 := Lib.hid (show Below wr.heap.size wr w3 by rw [← hw3]; exact below_setRow b2 (Nat.le_refl _) _)
            have c0 := cell_row p3 (i := 0) rfl
            have c1 := cell_row p3 (i := 1) rfl
            have c2 := cell_row p3 (i := 2) rfl
            have c3 := cell_row p3 (i := 3) rfl
            have HLJ := Lib.hid hlj
            have hbd : f < 257 ∧ t ≤ 256 ∧ f < t ∧ q + t = q1 + f ∧ q1 ≤ 65536 ∧ b * 256 + f = O + q ∧ O + q1 ≤ 4294967296 := by have h1 := F0.ft; have h2 := F0.t256; have h3 := F0.next; have h4 := F0.small; have h5 := HN.out; have h6 := F0.at_; omega
            obtain ⟨b1, b2', b3, b4, b5, b6, b7⟩ := hbd
            obtain ⟨z, hz⟩ : ∃ z, O + q = z := ⟨_, rfl⟩
            have n1 : ¬ t ≤ f := by omega
            have n2 : ¬ 256 < t := by omega
            have n3 : decide ((256 : Int) < (t : Int)) = false := decide_eq_false (by omega)
            have n4 : (t : Int) ≤ 256 := by omega
            obtain ⟨m, hm⟩ : ∃ m, K = m + 1 := ⟨K - 1, by omega⟩
            have HM := Lib.hid hm
            have hKs : K < 65538 := by have h1 := cutK_le O N; rw [HK.out] at h1; omega
            have HM9 := Lib.hid (i64_pred hm hKs)
            have FF := Lib.hid F0
            have HNUM := Lib.hid (whole_nums b1 b2' b3 b4 b5 b6 b7 hz hm hKs)
            have F1 := Lib.hid FN.out.first
            clear b1 b2' b3 b4 b5 b6 b7 f2 b2 s2 p3 F0 hb hj hlj hz hm hb0 hf0 ht0 hq0 hq1
            obtain ⟨m1, m2, m3, m4, m5, -, -, -⟩ := HNUM.out
            go_wp2_with ((with_reducible refine wpList_store_row rfl 31 (.tmp 8) (.tmp 39) rfl wr.heap.size #[.int .u64 (b : Int), .int .i64 (f : Int), .int .i64 (t : Int), .int .i64 (q : Int)] ?_ ?_ 31 _ R2.out (sizeP _ _ _ _) ?_ (oneP _ _ _ _) ?_); rfl; rfl; rfl; rw [hw3])
            clear m1 m2 m3 m4 m5
            by_cases hj0 : 0 < j
            · obtain ⟨i, hi⟩ : ∃ i, j = i + 1 := ⟨j - 1, by omega⟩
              obtain ⟨g', he, y0, -, -, -⟩ := XJ.out i (by have := HLJ.out; omega)
              injection he with he1
              injection he1 with he2
              subst he2
              obtain ⟨b', hb'⟩ : ∃ b', pB O N i = b' := ⟨_, rfl⟩
              rw [hb'] at y0
              have Y0 := pw_cell_below B3.out y0
              have hfb := FF.out.first hj0
              have hff : ((f : Int) != 0) = false := by rw [hfb.1]; rfl
              have hbb : IntKind.u64.wrap ((b' : Int) + 1) = (b : Int) := by
                have h2 := hfb.2
                rw [hi, Nat.add_sub_cancel, hb'] at h2
                exact succ_num h2 FF.out.at_ (by have h1 := FF.out.ft; have h2 := FF.out.t256; have h3 := FF.out.next; have h4 := FF.out.small; have h5 := HN.out; omega)
              have HBBJ := Lib.hid (And.intro hbb (And.intro (pred_num hi HLJ.out hKs) (And.intro (show (j : Int) - 1 = (i : Int) by omega) (w64i (show i < 65538 by omega)))))
              clear hbb
              have hiK : (i : Int) < (K : Int) ∧ i < K := by have := HLJ.out; omega
              obtain ⟨hiK1, hiK2⟩ := hiK
              have dj : decide ((0 : Int) < (j : Int)) = true := decide_eq_true (by omega)
              have dj' : decide (0 < j) = true := decide_eq_true hj0
              have HJI := Lib.hid hi
              clear hi hb' y0 x0 x1 x2 x3 hfb
              by_cases hjm : j < m
              · have hl : decide ((j : Int) < (m : Int)) = true := decide_eq_true (by omega)
                have ht : ((t : Int) != 256) = false := by have h1 := FF.out.last (by have := HM.out; rw [HC.out]; omega); rw [h1]; rfl
                obtain ⟨hbb, hji, hji2, hji3, hji4⟩ := HBBJ.out
                obtain ⟨-, -, -, -, -, m6, m7, m8⟩ := HNUM.out
                have m9 := HM9.out
                go_quiet (fail)
                clear m6 m7 m8 m9 hbb hji hji2 hji3 hji4
                go_wp2_with fail
                go_roundw
                case rel => exact ⟨j + 1, HLJ.out, by rw [Q1.out, HNUM.out.2.2.2.2.2.1, HNUM.out.2.2.2.2.2.2.1], by push_cast; rfl, below_dn (below_then HR.out HR.out.size B3.out) _⟩
                case measure => simp [intOf]; have := HLJ.out; omega
              · have hl : decide ((j : Int) < (m : Int)) = false := decide_eq_false (by omega)
                obtain ⟨hbb, hji, hji2, hji3, hji4⟩ := HBBJ.out
                obtain ⟨-, -, -, -, -, m6, m7, m8⟩ := HNUM.out
                have m9 := HM9.out
                go_quiet (fail)
                clear m6 m7 m8 m9 hbb hji hji2 hji3 hji4
                go_wp2_with fail
                go_roundw
                case rel => exact ⟨j + 1, HLJ.out, by rw [Q1.out, HNUM.out.2.2.2.2.2.1, HNUM.out.2.2.2.2.2.2.1], by push_cast; rfl, below_dn (below_then HR.out HR.out.size B3.out) _⟩
                case measure => simp [intOf]; have := HLJ.out; omega
            · have dj : decide ((0 : Int) < (j : Int)) = false := decide_eq_false (by omega)
              have dj' : decide (0 < j) = false := decide_eq_false hj0
              clear x0 x1 x2 x3
              by_cases hjm : j < m
              · have hl : decide ((j : Int) < (m : Int)) = true := decide_eq_true (by omega)
                have ht : ((t : Int) != 256) = false := by have h1 := FF.out.last (by have := HM.out; rw [HC.out]; omega); rw [h1]; rfl
                obtain ⟨-, -, -, -, -, m6, m7, m8⟩ := HNUM.out
                have m9 := HM9.out
                go_quiet (fail)
                clear m6 m7 m8 m9
                go_wp2_with fail
                go_roundw
                case rel => exact ⟨j + 1, HLJ.out, by rw [Q1.out, HNUM.out.2.2.2.2.2.1, HNUM.out.2.2.2.2.2.2.1], by push_cast; rfl, below_dn (below_then HR.out HR.out.size B3.out) _⟩
                case measure => simp [intOf]; have := HLJ.out; omega
              · have hl : decide ((j : Int) < (m : Int)) = false := decide_eq_false (by omega)
                obtain ⟨-, -, -, -, -, m6, m7, m8⟩ := HNUM.out
                have m9 := HM9.out
                go_quiet (fail)
                clear m6 m7 m8 m9
                go_wp2_with fail
                go_roundw
                case rel => exact ⟨j + 1, HLJ.out, by rw [Q1.out, HNUM.out.2.2.2.2.2.1, HNUM.out.2.2.2.2.2.2.1], by push_cast; rfl, below_dn (below_then HR.out HR.out.size B3.out) _⟩
                case measure => simp [intOf]; have := HLJ.out; omega
          · obtain rfl : j = K := by omega
            clear hj hlj hb
            have hE := HA.out
            rw [hE]
            have hu : IntKind.u64.wrap (N : Int) = (N : Int) := wu (by omega) (by have := HB.out; omega)
            clear hE
            go_wp2_with fail
            refine (wakes_any _).mono ?_; rintro e w2 ⟨rfl, hb2⟩
            have B2 := Lib.hid (below_then (below_then HBL.out HBL.out.size HR.out) (Nat.le_trans HBL.out.size HR.out.size) hb2)
            clear hb2
            go_wp2_with fail
            go_ret
            exact ⟨rfl, B2.out⟩
      · obtain rfl : N = 0 := by omega
        have hk : cutK O 0 = 0 := by unfold cutK cntP; simp
        have HK := Lib.hid hk
        clear hk
        go_enter Try.func4, Try.ntmps4
        go_wp2_with fail
        refine (cut_at _ HB.out.1 HB.out.2 HK.out).mono ?_; rintro e w1 ⟨A, cc, rfl, ho, hbl⟩
        have HBL := Lib.hid hbl
        clear ho hbl
        go_wp2_with fail
        refine (wakes_any _).mono ?_; rintro e w2 ⟨rfl, hb2⟩
        have B2 := Lib.hid (below_then HBL.out HBL.out.size hb2)
        clear hb2
        go_wp2_with fail
        go_ret
        exact ⟨rfl, B2.out⟩
    · have hz : ((N : Int) == 0) = false := by simp; omega
      have dm : decide ((65536 : Int) < (N : Int)) = true := decide_eq_true (by omega)
      have hk : cutK O N = 0 := if_neg (fun h => hm h.1)
      have HK := Lib.hid hk
      clear hk
      go_enter Try.func4, Try.ntmps4
      go_wp2_with fail
      refine (cut_at _ HB.out.1 HB.out.2 HK.out).mono ?_; rintro e w1 ⟨A, cc, rfl, ho, hbl⟩
      have HBL := Lib.hid hbl
      clear ho hbl
      go_wp2_with fail
      refine (wakes_any _).mono ?_; rintro e w2 ⟨rfl, hb2⟩
      have B2 := Lib.hid (below_then HBL.out HBL.out.size hb2)
      clear hb2
      go_wp2_with fail
      go_ret
      exact ⟨rfl, B2.out⟩
  · have hk : cutK O N = 0 := if_neg (fun h => hw h.2)
    by_cases hm : N ≤ 65536
    · by_cases h0 : 0 < N
      · have hz : ((N : Int) == 0) = false := by simp; omega
        have dm : decide ((65536 : Int) < (N : Int)) = false := decide_eq_false (by omega)
        have hnm : ¬ 65536 < N := by omega
        have HK := Lib.hid hk
        clear hk
        go_enter Try.func4, Try.ntmps4
        go_wp2_with fail
        refine (cut_at _ HB.out.1 HB.out.2 HK.out).mono ?_; rintro e w1 ⟨A, cc, rfl, ho, hbl⟩
        have HBL := Lib.hid hbl
        clear ho hbl
        go_wp2_with fail
        refine (within_at _ (by have := HB.out; omega) (by have := HB.out; omega) (by omega) (within_false' hw)).mono ?_; rintro e w2 ⟨rfl, rfl⟩
        go_wp2_with fail
        refine (wakes_any _).mono ?_; rintro e w2 ⟨rfl, hb2⟩
        have B2 := Lib.hid (below_then HBL.out HBL.out.size hb2)
        clear hb2
        go_wp2_with fail
        go_ret
        exact ⟨rfl, B2.out⟩
      · obtain rfl : N = 0 := by omega
        have HK := Lib.hid hk
        clear hk
        go_enter Try.func4, Try.ntmps4
        go_wp2_with fail
        refine (cut_at _ HB.out.1 HB.out.2 HK.out).mono ?_; rintro e w1 ⟨A, cc, rfl, ho, hbl⟩
        have HBL := Lib.hid hbl
        clear ho hbl
        go_wp2_with fail
        refine (wakes_any _).mono ?_; rintro e w2 ⟨rfl, hb2⟩
        have B2 := Lib.hid (below_then HBL.out HBL.out.size hb2)
        clear hb2
        go_wp2_with fail
        go_ret
        exact ⟨rfl, B2.out⟩
    · have hz : ((N : Int) == 0) = false := by simp; omega
      have dm : decide ((65536 : Int) < (N : Int)) = true := decide_eq_true (by omega)
      have HK := Lib.hid hk
      clear hk
      go_enter Try.func4, Try.ntmps4
      go_wp2_with fail
      refine (cut_at _ HB.out.1 HB.out.2 HK.out).mono ?_; rintro e w1 ⟨A, cc, rfl, ho, hbl⟩
      have HBL := Lib.hid hbl
      clear ho hbl
      go_wp2_with fail
      refine (wakes_any _).mono ?_; rintro e w2 ⟨rfl, hb2⟩
      have B2 := Lib.hid (below_then HBL.out HBL.out.size hb2)
      clear hb2
      go_wp2_with fail
      go_ret
      exact ⟨rfl, B2.out⟩
end Go.Proofs.Ytgmjpnampjkfeaa.Pie
