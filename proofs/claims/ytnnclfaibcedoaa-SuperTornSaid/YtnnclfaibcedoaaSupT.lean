/- The walk of the law SuperTorn: the call returns true, nothing that was there is changed (every input). -/
import Derived.Test.YtnnclfaibcedoaaSupS
set_option linter.unusedVariables false
set_option linter.unusedSimpArgs false
namespace Go.Proofs.Ytnnclfaibcedoaa.Sup
open Go Go.RowKit Go.Proofs.YtnnclfaibcedoaaW.PrintWords Go.Proofs.YtnnclfaibcedoaaW.PrintLast Go.Proofs.YtnnclfaibcedoaaW.PrintMore Base Odr

theorem takeE_23 (x : List Int) (hl : x.length = 64) (h : takeE x ≠ 0) : takeE x = 23 := by
  have e : takeE x = if 1024 < n4 x 1 then 23 else if may (n4 x 0) (n4 x 1) (n4 x 2) (n4 x 3) = true ∧ formL (n4 x 0) (n4 x 1) (n4 x 2) (n4 x 3) = x then 0 else 23 := by
    unfold takeE; rw [if_neg (by omega), if_neg (by omega)]
  rw [e] at h ⊢
  by_cases h1 : 1024 < n4 x 1
  · rw [if_pos h1]
  · rw [if_neg h1] at h ⊢
    by_cases h2 : may (n4 x 0) (n4 x 1) (n4 x 2) (n4 x 3) = true ∧ formL (n4 x 0) (n4 x 1) (n4 x 2) (n4 x 3) = x
    · rw [if_pos h2] at h; exact absurd rfl h
    · rw [if_neg h2]
set_option maxRecDepth 100000 in
set_option maxHeartbeats 3200000 in
theorem torn_walk (G : Int) (wG : (Lit.int .u64 G).wf = true) (B : Int) (wB : (Lit.int .i64 B).wf = true) (D : Int) (wD : (Lit.int .u64 D).wf = true) (N : Int) (wN : (Lit.int .u64 N).wf = true)
    (G1 : Int) (wG1 : (Lit.int .u64 G1).wf = true) (B1 : Int) (wB1 : (Lit.int .i64 B1).wf = true) (D1 : Int) (wD1 : (Lit.int .u64 D1).wf = true) (N1 : Int) (wN1 : (Lit.int .u64 N1).wf = true) (cut : Int) (wc : (Lit.int .u8 cut).wf = true) (w : World) :
    Calls Try.prog 4 #[.agg #[.int .u64 G, .int .i64 B, .int .u64 D, .int .u64 N], .agg #[.int .u64 G1, .int .i64 B1, .int .u64 D1, .int .u64 N1], .int .u8 cut] w fun e w' => e = .returned (.bool true) ∧ Below w.heap.size w w' := by
  obtain ⟨k0, k1⟩ := le_of_wf8 wc
  obtain ⟨g0, g1⟩ := le_of_wfu64 wG
  obtain ⟨g2, -⟩ := le_of_wfu64 wD
  obtain ⟨t2, -⟩ := le_of_wfu64 wD1
  obtain ⟨n, hcut, hn⟩ : ∃ n : Nat, cut % 65 = (n : Int) ∧ n ≤ 64 := ⟨(cut % 65).toNat, by omega, by omega⟩
  have hcut2 : cut.tmod 65 = (n : Int) := by rw [Int.tmod_eq_emod_of_nonneg k0]; exact hcut
  obtain ⟨T, hT⟩ : ∃ T, IntKind.u64.wrap (G + 2) = T := ⟨_, rfl⟩
  have HT := Lib.hid hT
  have RS := Lib.hid (alloc_row (heap_alloc_new w (.cells #[.int .u64 G, .int .i64 B, .int .u64 D, .int .u64 N] 25)) (.cells #[.int .u64 T, .int .i64 B1, .int .u64 D1, .int .u64 N1] 25))
  have RT := Lib.hid (heap_alloc2_new w (.cells #[.int .u64 G, .int .i64 B, .int .u64 D, .int .u64 N] 25) (.cells #[.int .u64 T, .int .i64 B1, .int .u64 D1, .int .u64 N1] 25))
  have B0 := Lib.hid ((((Below.refl w.heap.size w).alloc (Nat.le_refl _) (.cells #[.int .u64 G, .int .i64 B, .int .u64 D, .int .u64 N] 25))).alloc (by simp) (.cells #[.int .u64 T, .int .i64 B1, .int .u64 D1, .int .u64 N1] 25))
  clear wG wB wD wN wG1 wB1 wD1 wN1 wc
  by_cases m1 : may G B D N = true
  · have HM1 := Lib.hid m1
    by_cases m2 : may T B1 D1 N1 = true
    · have HM2 := Lib.hid m2
      obtain ⟨⟨p0, p1⟩, -⟩ := may_all m1
      obtain ⟨X, hX⟩ : ∃ X, (formL T B1 D1 N1).take n ++ (formL G B D N).drop n = X := ⟨_, rfl⟩
      have hTG : T = G + 2 := by rw [← hT, wrap_u64]; omega
      have hne : (T == G) = false := by rw [beq_eq_false_iff_ne]; omega
      have HXL := Lib.hid (show ((formL T B1 D1 N1).take n ++ (formL G B D N).drop n).length = 64 by rw [List.length_append, List.length_take, List.length_drop, form_len, form_len]; omega)
      have HXW := Lib.hid (show ∀ x ∈ (formL T B1 D1 N1).take n ++ (formL G B D N).drop n, (Lit.int .u8 x).wf = true from fun x hx => by
        rcases List.mem_append.1 hx with h | h
        · exact formL_wf _ _ _ _ x (List.mem_of_mem_take h)
        · exact formL_wf _ _ _ _ x (List.mem_of_mem_drop h))
      by_cases ht : takeE ((formL T B1 D1 N1).take n ++ (formL G B D N).drop n) = 0
      · rcases torn_law G B D N T B1 D1 N1 n hn m1 m2 (by omega) ht with h | h
        · have HX := Lib.hid (take_form G B D N m1 g2)
          rw [← h] at HX
          clear m1 m2 hX hTG ht h p0 p1
          go_enter Try.func4, Try.ntmps4
          go_wp2_with fail
          refine (put_ok G B D N _ HM1.out).mono ?_; rintro e w2 ⟨A2, c2, rfl, ho, hb⟩
          have Q2 := Lib.hid (reads_of_own ho (form_len _ _ _ _) rfl)
          have HC2 := Lib.hid (own_cap ho)
          have RS2 := Lib.hid (keep_row RS.out hb)
          have RT2 := Lib.hid (keep_row RT.out hb)
          have B2 := Lib.hid (below_then B0.out B0.out.size hb)
          clear hb
          go_wp2_with ((with_reducible refine wpList_load_row rfl 25 (.tmp 4) rfl (w.heap.size + 1) ?_ 25 _ _ _ RT2.out Try.underlying25 ?_ (size4 _ _ _ _) ?_); rfl; rfl)
          refine (put_ok T B1 D1 N1 _ HM2.out).mono ?_; rintro e w3 ⟨A3, c3, rfl, ho, hb⟩
          have Q3 := Lib.hid (reads_of_own ho (form_len _ _ _ _) rfl)
          have HC3 := Lib.hid (own_cap ho)
          have P3 := Lib.hid (ReadsInt.below Q2.out hb)
          have RS3 := Lib.hid (keep_row RS2.out hb)
          have RT3 := Lib.hid (keep_row RT2.out hb)
          have B3 := Lib.hid (below_then B2.out B2.out.size hb)
          clear hb
          go_wp2_with fail
          refine (torn_any (formL T B1 D1 N1) (formL G B D N) _ _ c3 c2 n _ Q3.out P3.out HC3.out HC2.out hn).mono ?_
          rintro e w4 ⟨A4, c4, rfl, ho, hb⟩
          have RS4 := Lib.hid (keep_row RS3.out hb)
          have RT4 := Lib.hid (keep_row RT3.out hb)
          have Q4 := Lib.hid (reads_of_own ho HXL.out rfl)
          have HC4 := Lib.hid (own_cap ho)
          have B4 := Lib.hid (below_then B3.out B3.out.size hb)
          clear ho hb
          go_wp2_with fail
          refine (take_at _ _ Q4.out HXW.out HC4.out HX.out.1 HX.out.2.1 HX.out.2.2.1 HX.out.2.2.2.1 HX.out.2.2.2.2).mono ?_; rintro e w5 ⟨rfl, hb⟩
          have RS5 := Lib.hid (alloc_row (keep_row RS4.out hb) (.cells #[.int .u64 G, .int .i64 B, .int .u64 D, .int .u64 N] 25))
          have RT5 := Lib.hid (alloc_row (keep_row RT4.out hb) (.cells #[.int .u64 G, .int .i64 B, .int .u64 D, .int .u64 N] 25))
          have RX5 := Lib.hid (heap_alloc_new w5 (.cells #[.int .u64 G, .int .i64 B, .int .u64 D, .int .u64 N] 25))
          have B5 := Lib.hid ((below_then B4.out B4.out.size hb).alloc (below_then B4.out B4.out.size hb).size (.cells #[.int .u64 G, .int .i64 B, .int .u64 D, .int .u64 N] 25))
          clear hb
          go_wp2_with fail
          refine (awake_any _).mono ?_; rintro e w6 ⟨rfl, hb⟩
          obtain ⟨x0, x1, x2, x3⟩ := cells4 (keep_row RS5.out hb)
          obtain ⟨y0, y1, y2, y3⟩ := cells4 (keep_row RT5.out hb)
          obtain ⟨z0, z1, z2, z3⟩ := cells4 (keep_row RX5.out hb)
          have B6 := Lib.hid (below_then B5.out B5.out.size hb)
          clear hb
          go_wp2_with fail
          go_ret
          exact ⟨rfl, B6.out⟩
        · have HX := Lib.hid (take_form T B1 D1 N1 m2 t2)
          rw [← h] at HX
          clear m1 m2 hX hTG ht h p0 p1
          go_enter Try.func4, Try.ntmps4
          go_wp2_with fail
          refine (put_ok G B D N _ HM1.out).mono ?_; rintro e w2 ⟨A2, c2, rfl, ho, hb⟩
          have Q2 := Lib.hid (reads_of_own ho (form_len _ _ _ _) rfl)
          have HC2 := Lib.hid (own_cap ho)
          have RS2 := Lib.hid (keep_row RS.out hb)
          have RT2 := Lib.hid (keep_row RT.out hb)
          have B2 := Lib.hid (below_then B0.out B0.out.size hb)
          clear hb
          go_wp2_with ((with_reducible refine wpList_load_row rfl 25 (.tmp 4) rfl (w.heap.size + 1) ?_ 25 _ _ _ RT2.out Try.underlying25 ?_ (size4 _ _ _ _) ?_); rfl; rfl)
          refine (put_ok T B1 D1 N1 _ HM2.out).mono ?_; rintro e w3 ⟨A3, c3, rfl, ho, hb⟩
          have Q3 := Lib.hid (reads_of_own ho (form_len _ _ _ _) rfl)
          have HC3 := Lib.hid (own_cap ho)
          have P3 := Lib.hid (ReadsInt.below Q2.out hb)
          have RS3 := Lib.hid (keep_row RS2.out hb)
          have RT3 := Lib.hid (keep_row RT2.out hb)
          have B3 := Lib.hid (below_then B2.out B2.out.size hb)
          clear hb
          go_wp2_with fail
          refine (torn_any (formL T B1 D1 N1) (formL G B D N) _ _ c3 c2 n _ Q3.out P3.out HC3.out HC2.out hn).mono ?_
          rintro e w4 ⟨A4, c4, rfl, ho, hb⟩
          have RS4 := Lib.hid (keep_row RS3.out hb)
          have RT4 := Lib.hid (keep_row RT3.out hb)
          have Q4 := Lib.hid (reads_of_own ho HXL.out rfl)
          have HC4 := Lib.hid (own_cap ho)
          have B4 := Lib.hid (below_then B3.out B3.out.size hb)
          clear ho hb
          go_wp2_with fail
          refine (take_at _ _ Q4.out HXW.out HC4.out HX.out.1 HX.out.2.1 HX.out.2.2.1 HX.out.2.2.2.1 HX.out.2.2.2.2).mono ?_; rintro e w5 ⟨rfl, hb⟩
          have RS5 := Lib.hid (alloc_row (keep_row RS4.out hb) (.cells #[.int .u64 T, .int .i64 B1, .int .u64 D1, .int .u64 N1] 25))
          have RT5 := Lib.hid (alloc_row (keep_row RT4.out hb) (.cells #[.int .u64 T, .int .i64 B1, .int .u64 D1, .int .u64 N1] 25))
          have RX5 := Lib.hid (heap_alloc_new w5 (.cells #[.int .u64 T, .int .i64 B1, .int .u64 D1, .int .u64 N1] 25))
          have B5 := Lib.hid ((below_then B4.out B4.out.size hb).alloc (below_then B4.out B4.out.size hb).size (.cells #[.int .u64 T, .int .i64 B1, .int .u64 D1, .int .u64 N1] 25))
          clear hb
          go_wp2_with fail
          refine (awake_any _).mono ?_; rintro e w6 ⟨rfl, hb⟩
          obtain ⟨x0, x1, x2, x3⟩ := cells4 (keep_row RS5.out hb)
          obtain ⟨y0, y1, y2, y3⟩ := cells4 (keep_row RT5.out hb)
          obtain ⟨z0, z1, z2, z3⟩ := cells4 (keep_row RX5.out hb)
          have B6 := Lib.hid (below_then B5.out B5.out.size hb)
          clear hb
          go_wp2_with fail
          go_ret
          exact ⟨rfl, B6.out⟩
      · have hS : ∀ i, takeS ((formL T B1 D1 N1).take n ++ (formL G B D N).drop n) i = 0 := fun i => if_neg ht
        have HX := Lib.hid (And.intro (hS 0) (And.intro (hS 1) (And.intro (hS 2) (And.intro (hS 3) (takeE_23 _ HXL.out ht)))))
        clear m1 m2 hX hTG ht hS p0 p1
        go_enter Try.func4, Try.ntmps4
        go_wp2_with fail
        refine (put_ok G B D N _ HM1.out).mono ?_; rintro e w2 ⟨A2, c2, rfl, ho, hb⟩
        have Q2 := Lib.hid (reads_of_own ho (form_len _ _ _ _) rfl)
        have HC2 := Lib.hid (own_cap ho)
        have RS2 := Lib.hid (keep_row RS.out hb)
        have RT2 := Lib.hid (keep_row RT.out hb)
        have B2 := Lib.hid (below_then B0.out B0.out.size hb)
        clear hb
        go_wp2_with ((with_reducible refine wpList_load_row rfl 25 (.tmp 4) rfl (w.heap.size + 1) ?_ 25 _ _ _ RT2.out Try.underlying25 ?_ (size4 _ _ _ _) ?_); rfl; rfl)
        refine (put_ok T B1 D1 N1 _ HM2.out).mono ?_; rintro e w3 ⟨A3, c3, rfl, ho, hb⟩
        have Q3 := Lib.hid (reads_of_own ho (form_len _ _ _ _) rfl)
        have HC3 := Lib.hid (own_cap ho)
        have P3 := Lib.hid (ReadsInt.below Q2.out hb)
        have RS3 := Lib.hid (keep_row RS2.out hb)
        have RT3 := Lib.hid (keep_row RT2.out hb)
        have B3 := Lib.hid (below_then B2.out B2.out.size hb)
        clear hb
        go_wp2_with fail
        refine (torn_any (formL T B1 D1 N1) (formL G B D N) _ _ c3 c2 n _ Q3.out P3.out HC3.out HC2.out hn).mono ?_
        rintro e w4 ⟨A4, c4, rfl, ho, hb⟩
        have RS4 := Lib.hid (keep_row RS3.out hb)
        have RT4 := Lib.hid (keep_row RT3.out hb)
        have Q4 := Lib.hid (reads_of_own ho HXL.out rfl)
        have HC4 := Lib.hid (own_cap ho)
        have B4 := Lib.hid (below_then B3.out B3.out.size hb)
        clear ho hb
        go_wp2_with fail
        refine (take_at _ _ Q4.out HXW.out HC4.out HX.out.1 HX.out.2.1 HX.out.2.2.1 HX.out.2.2.2.1 HX.out.2.2.2.2).mono ?_; rintro e w5 ⟨rfl, hb⟩
        have RS5 := Lib.hid (alloc_row (keep_row RS4.out hb) (.cells #[.int .u64 0, .int .i64 0, .int .u64 0, .int .u64 0] 25))
        have RT5 := Lib.hid (alloc_row (keep_row RT4.out hb) (.cells #[.int .u64 0, .int .i64 0, .int .u64 0, .int .u64 0] 25))
        have RX5 := Lib.hid (heap_alloc_new w5 (.cells #[.int .u64 0, .int .i64 0, .int .u64 0, .int .u64 0] 25))
        have B5 := Lib.hid ((below_then B4.out B4.out.size hb).alloc (below_then B4.out B4.out.size hb).size (.cells #[.int .u64 0, .int .i64 0, .int .u64 0, .int .u64 0] 25))
        clear hb
        go_wp2_with fail
        refine (awake_any _).mono ?_; rintro e w6 ⟨rfl, hb⟩
        obtain ⟨x0, x1, x2, x3⟩ := cells4 (keep_row RS5.out hb)
        obtain ⟨y0, y1, y2, y3⟩ := cells4 (keep_row RT5.out hb)
        obtain ⟨z0, z1, z2, z3⟩ := cells4 (keep_row RX5.out hb)
        have B6 := Lib.hid (below_then B5.out B5.out.size hb)
        clear hb
        go_wp2_with fail
        go_ret
        exact ⟨rfl, B6.out⟩
    · have HM2 := Lib.hid (show may T B1 D1 N1 = false by simpa using m2)
      clear m1 m2
      go_enter Try.func4, Try.ntmps4
      go_wp2_with fail
      refine (put_ok G B D N _ HM1.out).mono ?_; rintro e w2 ⟨A2, c2, rfl, ho, hb⟩
      have Q2 := Lib.hid (reads_of_own ho (form_len _ _ _ _) rfl)
      have HC2 := Lib.hid (own_cap ho)
      have RS2 := Lib.hid (keep_row RS.out hb)
      have RT2 := Lib.hid (keep_row RT.out hb)
      have B2 := Lib.hid (below_then B0.out B0.out.size hb)
      clear hb
      go_wp2_with ((with_reducible refine wpList_load_row rfl 25 (.tmp 4) rfl (w.heap.size + 1) ?_ 25 _ _ _ RT2.out Try.underlying25 ?_ (size4 _ _ _ _) ?_); rfl; rfl)
      refine (put_no T B1 D1 N1 _ HM2.out).mono ?_; rintro e w3 ⟨rfl, hb⟩
      have RS3 := Lib.hid (keep_row RS2.out hb)
      have RT3 := Lib.hid (keep_row RT2.out hb)
      have B3 := Lib.hid (below_then B2.out B2.out.size hb)
      clear hb
      go_wp2_with fail
      refine (awake_any _).mono ?_; rintro e w4 ⟨rfl, hb⟩
      have RT4 := Lib.hid (keep_row RT3.out hb)
      obtain ⟨x0, x1, x2, x3⟩ := cells4 (keep_row RS3.out hb)
      have B4 := Lib.hid (below_then B3.out B3.out.size hb)
      clear hb
      go_wp2_with fail
      refine (may_at _ HM1.out).mono ?_; rintro e w5 ⟨rfl, hb⟩
      have B5 := Lib.hid (below_then B4.out B4.out.size hb)
      obtain ⟨y0, y1, y2, y3⟩ := cells4 (keep_row RT4.out hb)
      clear hb x0 x1 x2 x3
      go_wp2_with fail
      refine (may_at _ HM2.out).mono ?_; rintro e w6 ⟨rfl, hb⟩
      have B6 := Lib.hid (below_then B5.out B5.out.size hb)
      clear hb
      go_wp2_with fail
      go_ret
      exact ⟨rfl, B6.out⟩
  · have HM1 := Lib.hid (show may G B D N = false by simpa using m1)
    by_cases m2 : may T B1 D1 N1 = true
    · have HM2 := Lib.hid m2
      clear m1 m2
      go_enter Try.func4, Try.ntmps4
      go_wp2_with fail
      refine (put_no G B D N _ HM1.out).mono ?_; rintro e w2 ⟨rfl, hb⟩
      have RS2 := Lib.hid (keep_row RS.out hb)
      have RT2 := Lib.hid (keep_row RT.out hb)
      have B2 := Lib.hid (below_then B0.out B0.out.size hb)
      clear hb
      go_wp2_with ((with_reducible refine wpList_load_row rfl 25 (.tmp 4) rfl (w.heap.size + 1) ?_ 25 _ _ _ RT2.out Try.underlying25 ?_ (size4 _ _ _ _) ?_); rfl; rfl)
      refine (put_ok T B1 D1 N1 _ HM2.out).mono ?_; rintro e w3 ⟨A3, c3, rfl, ho, hb⟩
      have Q3 := Lib.hid (reads_of_own ho (form_len _ _ _ _) rfl)
      have HC3 := Lib.hid (own_cap ho)
      have RS3 := Lib.hid (keep_row RS2.out hb)
      have RT3 := Lib.hid (keep_row RT2.out hb)
      have B3 := Lib.hid (below_then B2.out B2.out.size hb)
      clear hb
      go_wp2_with fail
      refine (awake_any _).mono ?_; rintro e w4 ⟨rfl, hb⟩
      have RT4 := Lib.hid (keep_row RT3.out hb)
      obtain ⟨x0, x1, x2, x3⟩ := cells4 (keep_row RS3.out hb)
      have B4 := Lib.hid (below_then B3.out B3.out.size hb)
      clear hb
      go_wp2_with fail
      refine (may_at _ HM1.out).mono ?_; rintro e w5 ⟨rfl, hb⟩
      have B5 := Lib.hid (below_then B4.out B4.out.size hb)
      clear hb x0 x1 x2 x3
      go_wp2_with fail
      go_ret
      exact ⟨rfl, B5.out⟩
    · have HM2 := Lib.hid (show may T B1 D1 N1 = false by simpa using m2)
      clear m1 m2
      go_enter Try.func4, Try.ntmps4
      go_wp2_with fail
      refine (put_no G B D N _ HM1.out).mono ?_; rintro e w2 ⟨rfl, hb⟩
      have RS2 := Lib.hid (keep_row RS.out hb)
      have RT2 := Lib.hid (keep_row RT.out hb)
      have B2 := Lib.hid (below_then B0.out B0.out.size hb)
      clear hb
      go_wp2_with ((with_reducible refine wpList_load_row rfl 25 (.tmp 4) rfl (w.heap.size + 1) ?_ 25 _ _ _ RT2.out Try.underlying25 ?_ (size4 _ _ _ _) ?_); rfl; rfl)
      refine (put_no T B1 D1 N1 _ HM2.out).mono ?_; rintro e w3 ⟨rfl, hb⟩
      have RS3 := Lib.hid (keep_row RS2.out hb)
      have RT3 := Lib.hid (keep_row RT2.out hb)
      have B3 := Lib.hid (below_then B2.out B2.out.size hb)
      clear hb
      go_wp2_with fail
      refine (awake_any _).mono ?_; rintro e w4 ⟨rfl, hb⟩
      have RT4 := Lib.hid (keep_row RT3.out hb)
      obtain ⟨x0, x1, x2, x3⟩ := cells4 (keep_row RS3.out hb)
      have B4 := Lib.hid (below_then B3.out B3.out.size hb)
      clear hb
      go_wp2_with fail
      refine (may_at _ HM1.out).mono ?_; rintro e w5 ⟨rfl, hb⟩
      have B5 := Lib.hid (below_then B4.out B4.out.size hb)
      clear hb x0 x1 x2 x3
      go_wp2_with fail
      go_ret
      exact ⟨rfl, B5.out⟩
end Go.Proofs.Ytnnclfaibcedoaa.Sup
