/- Pieces: what is laid is lifted as it was: the walk. -/
import Derived.BigQuiet
import Derived.Test.YtgmjpnampjkfeaaPieW
set_option linter.unusedVariables false
set_option linter.unusedSimpArgs false
namespace Go.Proofs.Ytgmjpnampjkfeaa.Pie
open Go Go.RowKit Go.Proofs.YtgmjpnampjkfeaaW.PrintWords Go.Proofs.YtgmjpnampjkfeaaW.PrintLast Go.Proofs.YtgmjpnampjkfeaaW.PrintMore Base

theorem may_nat {F T a : Nat} (h1 : F ≤ T) (h2 : T ≤ 256) : mayP F T a = true := by
  simp only [mayP, Bool.and_eq_true, decide_eq_true_eq]; omega
/-- What is laid is lifted. -/
theorem lift_lay {F T a : Nat} {xs ys : List Int} (h1 : F ≤ T) (h2 : T ≤ 256) (h3 : a + (T - F) ≤ ys.length) : liftL F T a (layL F T a xs ys) = (ys.drop a).take (T - F) := by
  have hm := may_nat (a := a) h1 h2
  unfold liftL layL
  rw [if_pos hm, if_pos hm, Int.toNat_natCast, Int.toNat_natCast, Int.toNat_natCast, Nat.min_eq_left (by omega)]
  have hz : ((ys.drop a).take (T - F)).length = T - F := by rw [List.length_take, List.length_drop]; omega
  have hb := layB_len xs
  unfold spl
  rw [List.take_append_of_le_length (by rw [List.length_append, List.length_take]; omega), List.take_of_length_le (by rw [List.length_append, List.length_take]; omega), List.drop_append_of_le_length (by rw [List.length_take]; omega), List.drop_eq_nil_of_le (by rw [List.length_take]; omega)]
  rfl
theorem lay_out {F T a k : Nat} {u : Int} {ys : List Int} (h1 : F ≤ T) (h2 : T ≤ 256) (hk : k < 256) (ho : k < F ∨ T ≤ k) : (layL F T a (List.replicate 256 u) ys).getD k 0 = u := by
  rw [layL_at (may_nat h1 h2) hk]
  unfold layV
  rw [if_neg (by omega), List.getD_eq_getElem?_getD, List.getElem?_replicate, if_pos hk]
  rfl
theorem seg_take {ys : List Int} {q q1 d : Nat} (h : q + d = q1) : ys.take q ++ (ys.drop q).take d = ys.take q1 := by
  subst h
  rw [List.take_add]
def fillL (u : Int) (i : Nat) : List Int := List.replicate i u ++ List.replicate (256 - i) 0
theorem fill_len {u : Int} {i : Nat} (h : i ≤ 256) : (fillL u i).length = 256 := by unfold fillL; rw [List.length_append, List.length_replicate, List.length_replicate]; omega
theorem fill_set {u : Int} {i : Nat} (h : i < 256) : (fillL u i).set i u = fillL u (i + 1) := by
  unfold fillL
  rw [List.set_append_right _ _ (by rw [List.length_replicate]; exact Nat.le_refl _), List.length_replicate, Nat.sub_self, show 256 - i = (256 - (i + 1)) + 1 by omega, List.replicate_succ, List.replicate_succ', List.append_assoc]
  rfl
theorem fill_end (u : Int) : fillL u 256 = List.replicate 256 u := by unfold fillL; rw [Nat.sub_self, List.replicate_zero, List.append_nil]
set_option maxRecDepth 100000 in
set_option maxHeartbeats 6400000 in
theorem back_walk (o : Int) (wo : (Lit.int .u64 o).wf = true) (A1 : Option Addr) (c1 : Nat) (ys : List Int) (w : World) (hr1 : ReadsInt w .u8 A1 ys.length ys) (y1 : ys.length * 1 ≤ 140737488351232) (hw1 : ∀ x ∈ ys, (Lit.int .u8 x).wf = true) (hc1 : ys.length ≤ c1) (u : Int) (wu_ : (Lit.int .u8 u).wf = true) :
    Calls Try.prog 10 #[.int .u64 o, .slice A1 ys.length c1, .int .u8 u] w fun e w' => e = .returned (.bool true) ∧ Below w.heap.size w w' := by
  have ha := le_of_wfu64 wo
  obtain ⟨O, rfl⟩ := Int.eq_ofNat_of_zero_le ha.1
  have hOO : O < 18446744073709551616 := by omega
  obtain ⟨n, hn⟩ : ∃ n, ys.length = n := ⟨_, rfl⟩
  rw [hn] at hr1 y1 hc1 ⊢
  obtain ⟨K, hK⟩ : ∃ K, cutK O n = K := ⟨_, rfl⟩
  have HB := Lib.hid (And.intro hOO (show n < 18446744073709551616 by omega))
  have HK := Lib.hid hK
  have HN := Lib.hid hn
  have HC := Lib.hid hc1
  have HR := Lib.hid hr1
  have hn47 : n ≤ 140737488351232 := by omega
  have hKs : K < 65538 := by rw [← hK]; have := cutK_le O n; omega
  clear ha wo hOO hn hK y1 hw1 hc1 wu_ hr1
  go_enter Try.func10, Try.ntmps10
  go_wp2_with fail
  refine (cut_at _ HB.out.1 HB.out.2 HK.out).mono ?_; rintro e w1 ⟨A, cc, rfl, ho, hb⟩
  have OL := Lib.hid ho
  have B1 := Lib.hid hb
  have R1 := Lib.hid (HR.out.below hb)
  clear ho hb
  obtain ⟨w2, hw2, b2, f2, s2⟩ := made w1 (madeCells #[.int .u8 0] 256) 5
  have hmk : ∀ W : World, (Instr.makeSlice 40 (.int .i64 256) (.int .i64 256)).run Try.prog W = .ok (.slice (some ⟨W.heap.size, 0, none⟩) 256 256) (W.alloc (.cells (madeCells #[.int .u8 0] 256) 5)) := made8 256 (by omega)
  have hz : madeCells #[Value.int .u8 0] 256 = (nums .u8 (List.replicate 256 (0 : Int))).toArray := by kernel_rfl
  rw [hz] at f2
  have F2 := Lib.hid (show w2.heap[w1.heap.size]? = some (.cells (nums .u8 (fillL u 0)).toArray 5 (0, 0)) from f2)
  have B2 := Lib.hid b2
  clear f2 b2 s2 hz
  go_wp2_with fail
  clear hmk hw2
  go_loopw [9] (fun iv wr => ∃ i : Nat, i ≤ 256 ∧ iv = .int .i64 (i : Int) ∧ wr.heap[w1.heap.size]? = some (.cells (nums .u8 (fillL u i)).toArray 5 (0, 0)) ∧ Below w1.heap.size w1 wr) (fun iv _ => 256 - (intOf iv).toNat)
  case atStart => exact ⟨0, by omega, rfl, F2.out, B2.out⟩
  case round =>
    obtain ⟨i, hi, rfl, hrow, hb⟩ := hrel
    have ROW := Lib.hid hrow
    have HBR := Lib.hid hb
    clear hrow hb
    by_cases hlt : i < 256
    · have zc := row_at ROW.out (i := i) (by rw [fill_len hi]; exact hlt)
      have zf := blk_frozen ROW.out i
      have HLT := Lib.hid hlt
      clear hi
      go_wp2_with fail
      go_roundw
      case rel => exact ⟨i + 1, HLT.out, by push_cast; rfl, row_put ROW.out u (fill_set HLT.out), HBR.out.setCell (Nat.le_refl _) _⟩
      case measure => simp [intOf]; have := HLT.out; omega
    · obtain rfl : i = 256 := by omega
      have hrow := ROW.out
      rw [fill_end] at hrow
      have BLK := Lib.hid hrow
      have OL3 := Lib.hid (pw_own_below OL.out HBR.out)
      have R3 := Lib.hid (R1.out.below HBR.out)
      have B3 := Lib.hid (below_then B1.out B1.out.size HBR.out)
      have RBLK := Lib.hid (row256 BLK.out (List.length_replicate))
      clear hi hlt hrow ROW HBR
      obtain ⟨wb, rfl⟩ : ∃ x, x = wr := ⟨wr, rfl⟩
      go_wp2_with fail
      go_loopw [10, 11] (fun gv iv wq => ∃ (j k cap : Nat) (A5 : Option Addr), j ≤ K ∧ gv = .slice A5 k cap ∧ iv = .int .i64 (j : Int) ∧ (ys.take (pA O n j)).length = k ∧ wq.ownsRow wb.heap.size 5 1 (.slice A5 k cap) k (nums .u8 (ys.take (pA O n j))) ∧ Below wb.heap.size wb wq) (fun _ iv _ => K - (intOf iv).toNat)
      case atStart => exact ⟨0, 0, 0, none, by omega, rfl, rfl, by rw [pA_zero]; rfl, by rw [pA_zero]; exact own_nil _ _ _ _, Below.refl _ _⟩
      case round =>
        obtain ⟨j, k, cap, A5, hj, rfl, rfl, hk, ho, hb⟩ := hrel
        have HO := Lib.hid ho
        have HKK := Lib.hid hk
        have HBQ := Lib.hid hb
        clear ho hk hb
        by_cases hlj : j < K
        · have hpos := cutK_pos (O := O) (N := n) (by rw [HK.out]; omega)
          have hcnt : cntP O n = K := by rw [← hpos.1, HK.out]
          have hfine := fine (O := O) (N := n) (j := j) (by rw [hcnt]; exact hlj)
          obtain ⟨gl, rfl, x0, x1, x2, x3⟩ := pl_at (pw_own_below OL3.out HBQ.out) hlj
          obtain ⟨b, hb0⟩ : ∃ b, pB O n j = b := ⟨_, rfl⟩
          obtain ⟨f, hf0⟩ : ∃ f, pF O n j = f := ⟨_, rfl⟩
          obtain ⟨t, ht0⟩ : ∃ t, pT O n j = t := ⟨_, rfl⟩
          obtain ⟨q, hq0⟩ : ∃ q, pA O n j = q := ⟨_, rfl⟩
          obtain ⟨q1, hq1⟩ : ∃ q1, pA O n (j + 1) = q1 := ⟨_, rfl⟩
          obtain ⟨d, hd⟩ : ∃ d, t - f = d := ⟨_, rfl⟩
          rw [hb0, hf0, ht0, hq0, hq1] at hfine
          rw [hb0] at x0; rw [hf0] at x1; rw [ht0] at x2; rw [hq0] at x3
          obtain ⟨gl', he, v0, v1, v2, v3⟩ := pl_at OL3.out hlj
          injection he with he1
          injection he1 with he2
          subst he2
          rw [hf0] at v1; rw [ht0] at v2
          have XW := Lib.hid (And.intro v1 v2)
          clear v0 v1 v2 v3
          have hft := hfine.ft
          have ht256 := hfine.t256
          have hnext : q + d = q1 := by have := hfine.next; omega
          have hq1n : q1 ≤ n := hfine.small
          obtain ⟨YQ, hYQ⟩ : ∃ YQ, ys.take q = YQ := ⟨_, rfl⟩
          obtain ⟨Z, hZ⟩ : ∃ Z, (ys.drop q).take d = Z := ⟨_, rfl⟩
          obtain ⟨LB, hLB⟩ : ∃ LB, layL f t q (List.replicate 256 u) ys = LB := ⟨_, rfl⟩
          have HLB := Lib.hid (show LB.length = 256 by rw [← hLB]; exact layL_len _ _ _ _ _)
          have HLIFT := Lib.hid (show liftL f t q LB = Z by rw [← hLB, ← hZ, ← hd]; exact lift_lay (Nat.le_of_lt hft) ht256 (by rw [HN.out, hd]; omega))
          have HZL := Lib.hid (show Z.length = d by rw [← hZ, List.length_take, List.length_drop, HN.out]; omega)
          have hk0 := HKK.out
          have ho0 := HO.out
          rw [hq0, hYQ] at hk0
          rw [hq0, hYQ] at ho0
          have HYL := Lib.hid hk0
          have HOQ := Lib.hid ho0
          have HNX := Lib.hid (show YQ ++ Z = ys.take (pA O n (j + 1)) by rw [← hYQ, ← hZ, hq1]; exact seg_take hnext)
          have HOUT := Lib.hid (show ∀ kk, kk < 256 → (kk < f ∨ t ≤ kk) → LB.getD kk 0 = u by intro kk h1 h2; rw [← hLB]; exact lay_out (Nat.le_of_lt hft) ht256 h1 h2)
          have HLBE := Lib.hid hLB
          have HLJ := Lib.hid hlj
          have HBD := Lib.hid (show k + d ≤ n by rw [← hk0, ← hYQ, List.length_take, HN.out]; omega)
          have XJ := Lib.hid (And.intro x0 (And.intro x1 (And.intro x2 x3)))
          have HFT := Lib.hid (And.intro hft ht256)
          have hjK : j < 65538 := by omega
          clear hpos hcnt hfine hb0 hf0 ht0 hq0 hq1 hd hft ht256 hnext hq1n hYQ hZ hLB hk0 ho0 hj hlj
          go_wp2_with fail
          refine (lay_any b f t q (List.replicate 256 u) ys (some ⟨w1.heap.size, 0, none⟩) A1 256 256 n c1 _ (RBLK.out.below HBQ.out) (R3.out.below HBQ.out) HC.out).mono ?_; rintro e w5 ⟨g, rfl, hrow, hg, hb⟩
          rw [HLBE.out] at hrow
          have RB5 := Lib.hid hrow
          have RD5 := Lib.hid (row256 hrow HLB.out)
          have HG := Lib.hid hg
          have HB5 := Lib.hid hb
          have x0 := pw_cell_below hb XJ.out.1
          have x1 := pw_cell_below hb XJ.out.2.1
          have x2 := pw_cell_below hb XJ.out.2.2.1
          have x3 := pw_cell_below hb XJ.out.2.2.2
          clear hrow hg hb
          go_wp2_with fail
          refine (lift_at b f t q LB (some ⟨g, 0, none⟩) 256 256 _ RD5.out (by omega) (Nat.le_refl _) (fun h => by cases h) HLIFT.out HZL.out).mono ?_; rintro e w6 ⟨A6, c6, rfl, ho, hb⟩
          have RZ6 := Lib.hid (own_rd ho)
          have HB6 := Lib.hid (below_then (below_then HBQ.out HBQ.out.size HB5.out) (Nat.le_trans HBQ.out.size HB5.out.size) hb)
          have OQ6 := Lib.hid (pw_own_below (pw_own_below HOQ.out HB5.out) hb)
          have RB6 := Lib.hid (keep_row RB5.out hb)
          clear ho hb x0 x1 x2 x3
          go_wp2_with (at_builtin; go_loud (refine print_append_row (w0 := wb) (W := w6) wb.heap.size rfl (.tmp 46) (.tmp 52) 40 5 .u8 1 rfl Try.underlying40 info8 (by omega) (.slice A5 k cap) YQ Z A6 d c6 rfl rfl (by rw [HYL.out]; exact OQ6.out) RZ6.out HB6.out HB6.out.size (by rw [HYL.out]; have := HBD.out; omega) ?_))
          intro v7 w7 hown hB hg hat
          obtain ⟨A7, c7, rfl⟩ := own_slice hown
          obtain ⟨k7, hk7⟩ : ∃ k7, k + d = k7 := ⟨_, rfl⟩
          have hlen : (YQ ++ Z).length = k7 := by rw [List.length_append, HYL.out, HZL.out]; exact hk7
          simp only [List.length_append, HYL.out, HZL.out, hk7] at hown ⊢
          rw [HNX.out] at hown hlen
          have O7 := Lib.hid hown
          have K7 := Lib.hid hlen
          have B7 := Lib.hid hB
          have RB7 := Lib.hid (blk_grown RB6.out hg (fun he => by have h1 := own_lt HOQ.out _ he.symm; have h2 := HG.out; omega))
          have y1 := pw_cell_below hB XW.out.1
          have y2 := pw_cell_below hB XW.out.2
          clear hown hlen hk7 hB hg hat
          go_wp2_with fail
          go_loop [13] (fun kv => ∃ kk : Nat, kk ≤ 256 ∧ kv = .int .i64 (kk : Int)) (fun kv => 256 - (intOf kv).toNat)
          case atStart => exact ⟨0, by omega, rfl⟩
          case round =>
            obtain ⟨kk, hkk, rfl⟩ := hrel
            by_cases hlt : kk < 256
            · by_cases h1 : kk < f
              · skip
                have d1 : decide ((kk : Int) < (f : Int)) = true := decide_eq_true (by omega)
                have d1' : decide (kk < f) = true := decide_eq_true (by omega)
                have hc := row_at RB7.out (i := kk) (by rw [HLB.out]; exact hlt)
                rw [HOUT.out kk hlt (by omega)] at hc
                clear hkk
                go_wp2_with fail
                go_round
                case rel => exact ⟨kk + 1, hlt, by push_cast; rfl⟩
                case measure => simp [intOf]; omega
              · by_cases h2 : t ≤ kk
                · skip
                  have d1 : decide ((kk : Int) < (f : Int)) = false := decide_eq_false (by omega)
                  have d1' : decide (kk < f) = false := decide_eq_false (by omega)
                  have d2 : decide ((t : Int) ≤ (kk : Int)) = true := decide_eq_true (by omega)
                  have d2' : decide (t ≤ kk) = true := decide_eq_true (by omega)
                  have hc := row_at RB7.out (i := kk) (by rw [HLB.out]; exact hlt)
                  rw [HOUT.out kk hlt (by omega)] at hc
                  clear hkk
                  go_wp2_with fail
                  go_round
                  case rel => exact ⟨kk + 1, hlt, by push_cast; rfl⟩
                  case measure => simp [intOf]; omega
                · skip
                  have d1 : decide ((kk : Int) < (f : Int)) = false := decide_eq_false (by omega)
                  have d1' : decide (kk < f) = false := decide_eq_false (by omega)
                  have d2 : decide ((t : Int) ≤ (kk : Int)) = false := decide_eq_false (by omega)
                  have d2' : decide (t ≤ kk) = false := decide_eq_false (by omega)
                  clear hkk
                  go_wp2_with fail
                  go_round
                  case rel => exact ⟨kk + 1, hlt, by push_cast; rfl⟩
                  case measure => simp [intOf]; omega
            · obtain rfl : kk = 256 := by omega
              clear hkk hlt
              go_wp2_with fail
              go_roundw
              case rel => exact ⟨_, _, _, ⟨j + 1, HLJ.out, k7, c7, A7, rfl, by push_cast; rfl, by rw [← List.length_take]; exact K7.out, O7.out, B7.out⟩, rfl, rfl, rfl⟩
              case measure => simp [intOf]; have := HLJ.out; omega
        · obtain rfl : j = K := by omega
          have BZ := Lib.hid (below_then B3.out B3.out.size HBQ.out)
          clear hj hlj
          by_cases h0 : j = 0
          · have hz : ((j : Int) == 0) = true := by simp; omega
            clear h0
            go_wp2_with fail
            refine (wakes_any _).mono ?_; rintro e w8 ⟨rfl, hb⟩
            have BY := Lib.hid (below_then BZ.out BZ.out.size hb)
            clear hb
            go_wp2_with fail
            go_ret
            exact ⟨rfl, BY.out⟩
          · have hz : ((j : Int) == 0) = false := by simp; omega
            have hpos := cutK_pos (O := O) (N := n) (by rw [HK.out]; omega)
            have hend : ys.take (pA O n j) = ys := by
              have h1 : pA O n j = n := by rw [← HK.out, hpos.1]; exact pA_end
              rw [h1, List.take_of_length_le (by rw [HN.out]; exact Nat.le_refl _)]
            have ho := HO.out
            rw [hend] at ho
            have C1 := str_of (c := cap) (own_rd ho)
            have C2 := str_of (c := c1) (R3.out.below HBQ.out)
            clear h0 hpos hend ho
            go_wp2_with fail
            refine (wakes_any _).mono ?_; rintro e w8 ⟨rfl, hb⟩
            have BY := Lib.hid (below_then BZ.out BZ.out.size hb)
            clear hb
            go_wp2_with fail
            go_ret
            exact ⟨rfl, BY.out⟩
end Go.Proofs.Ytgmjpnampjkfeaa.Pie
