/- The walk of the law SuperBack: the call returns true, nothing that was there is changed (every input). -/
import Derived.Test.YtnnclfaibcedoaaSupM1
set_option linter.unusedVariables false
set_option linter.unusedSimpArgs false
namespace Go.Proofs.Ytnnclfaibcedoaa.Sup
open Go Go.RowKit Go.Proofs.YtnnclfaibcedoaaW.PrintWords Go.Proofs.YtnnclfaibcedoaaW.PrintLast Go.Proofs.YtnnclfaibcedoaaW.PrintMore Base Odr

set_option maxRecDepth 100000 in
set_option maxHeartbeats 3200000 in
theorem back_walk (G : Int) (wG : (Lit.int .u64 G).wf = true) (B : Int) (wB : (Lit.int .i64 B).wf = true) (D : Int) (wD : (Lit.int .u64 D).wf = true) (N : Int) (wN : (Lit.int .u64 N).wf = true) (A : Option Addr) (c : Nat) (l : List Int) (w : World) (hr : ReadsInt w .u8 A l.length l) (hl : l.length * 1 ≤ 140737488351232) (hw : ∀ x ∈ l, (Lit.int .u8 x).wf = true) (hc : l.length ≤ c) :
    Calls Try.prog 8 #[.agg #[.int .u64 G, .int .i64 B, .int .u64 D, .int .u64 N], .slice A l.length c] w fun e w' => e = .returned (.bool true) ∧ Below w.heap.size w w' := by
  have g0 := (le_of_wfu64 wG).1
  have g2 := (le_of_wfu64 wD).1
  have g3 := (le_of_wfu64 wN).1
  have R0 := Lib.hid (heap_alloc_new w (.cells #[.int .u64 G, .int .i64 B, .int .u64 D, .int .u64 N] 25))
  have B0 := Lib.hid ((Below.refl w.heap.size w).alloc (Nat.le_refl _) (.cells #[.int .u64 G, .int .i64 B, .int .u64 D, .int .u64 N] 25))
  have HR := Lib.hid hr
  have HW := Lib.hid hw
  have HC := Lib.hid hc
  obtain ⟨G', hG⟩ : ∃ G', takeS l 0 = G' := ⟨_, rfl⟩
  obtain ⟨B', hB⟩ : ∃ B', takeS l 1 = B' := ⟨_, rfl⟩
  obtain ⟨D', hD⟩ : ∃ D', takeS l 2 = D' := ⟨_, rfl⟩
  obtain ⟨N', hN⟩ : ∃ N', takeS l 3 = N' := ⟨_, rfl⟩
  obtain ⟨er, her⟩ : ∃ er, takeE l = er := ⟨_, rfl⟩
  have E := Lib.hid (And.intro hG (And.intro hB (And.intro hD (And.intro hN her))))
  have hback : er = 0 → may G' B' D' N' = true ∧ formL G' B' D' N' = l := fun h => by
    rw [← hG, ← hB, ← hD, ← hN]; exact take_back l (her.trans h)
  have hnone : er ≠ 0 → G' = 0 ∧ B' = 0 ∧ D' = 0 ∧ N' = 0 := fun h => by
    have hS : ∀ i, takeS l i = 0 := fun i => if_neg (by rw [her]; exact h)
    rw [← hG, ← hB, ← hD, ← hN]; exact ⟨hS 0, hS 1, hS 2, hS 3⟩
  have HBK := Lib.hid hback
  have HNO := Lib.hid hnone
  obtain ⟨n, hn⟩ : ∃ n, n = l.length := ⟨_, rfl⟩
  rw [← hn] at HR HC ⊢
  clear wG wB wD wN hr hl hw hc hG hB hD hN her hn hback hnone
  by_cases hm : may G B D N = true
  · have HM := Lib.hid hm
    have HT := Lib.hid (take_form G B D N hm g2)
    clear hm
    go_enter Try.func8, Try.ntmps8
    go_wp2_with ((with_reducible refine wpList_load_row rfl 25 (.tmp 2) rfl w.heap.size ?_ 25 _ _ _ R0.out Try.underlying25 ?_ (size4 _ _ _ _) ?_); rfl; rfl)
    refine (put_ok G B D N _ HM.out).mono ?_
    rintro e w2 ⟨A2, c2, rfl, ho, hb⟩
    have hfl : (formL G B D N).length = 64 := by have := ho.1; rw [nums_length] at this; exact this
    have Q2 := Lib.hid (reads_of_own ho hfl rfl)
    have HC2 := Lib.hid (own_cap ho)
    have R2 := Lib.hid (keep_row R0.out hb)
    have B2 := Lib.hid (below_then B0.out B0.out.size hb)
    clear ho hb hfl
    go_wp2_with fail
    refine (take_at (formL G B D N) _ Q2.out (formL_wf _ _ _ _) HC2.out HT.out.1 HT.out.2.1 HT.out.2.2.1 HT.out.2.2.2.1 HT.out.2.2.2.2).mono ?_; rintro e w3 ⟨rfl, hb⟩
    have R3 := Lib.hid (alloc_row (keep_row R2.out hb) (.cells #[.int .u64 G, .int .i64 B, .int .u64 D, .int .u64 N] 25))
    have X3 := Lib.hid (heap_alloc_new w3 (.cells #[.int .u64 G, .int .i64 B, .int .u64 D, .int .u64 N] 25))
    have B3 := Lib.hid ((below_then B2.out B2.out.size hb).alloc (below_then B2.out B2.out.size hb).size (.cells #[.int .u64 G, .int .i64 B, .int .u64 D, .int .u64 N] 25))
    obtain ⟨x0, x1, x2, x3⟩ := cells4 R3.out
    obtain ⟨y0, y1, y2, y3⟩ := cells4 X3.out
    clear hb
    go_wp2_with fail
    refine (may_at _ HM.out).mono ?_; rintro e w4 ⟨rfl, hb⟩
    have B4 := Lib.hid (below_then B3.out B3.out.size hb)
    clear hb x0 x1 x2 x3 y0 y1 y2 y3
    by_cases he : er = 0
    · have t1 : (er == 0) = true := by simpa using he
      have HF := Lib.hid (HBK.out he)
      clear he
      go_wp2_with fail
      refine (take_at l _ (ReadsInt.below HR.out B4.out) HW.out HC.out E.out.1 E.out.2.1 E.out.2.2.1 E.out.2.2.2.1 E.out.2.2.2.2).mono ?_; rintro e v3 ⟨rfl, hb⟩
      have U3 := Lib.hid (heap_alloc_new v3 (.cells #[.int .u64 G', .int .i64 B', .int .u64 D', .int .u64 N'] 25))
      have V3 := Lib.hid ((below_then B4.out B4.out.size hb).alloc (below_then B4.out B4.out.size hb).size (.cells #[.int .u64 G', .int .i64 B', .int .u64 D', .int .u64 N'] 25))
      clear hb
      go_wp2_with ((with_reducible refine wpList_load_row rfl 25 (.tmp 9) rfl v3.heap.size ?_ 25 _ _ _ U3.out Try.underlying25 ?_ (size4 _ _ _ _) ?_); rfl; rfl)
      refine (put_ok G' B' D' N' _ HF.out.1).mono ?_
      rintro e v4 ⟨A4, c4, rfl, ho, hb⟩
      rw [HF.out.2] at ho
      have hll : l.length = 64 := by have := ho.1; rw [nums_length] at this; exact this
      have Q4 := Lib.hid (reads_of_own ho hll rfl)
      have V4 := Lib.hid (below_then V3.out V3.out.size hb)
      clear ho hb hll
      go_wp2_with fail
      refine (awake_any _).mono ?_; rintro e v5 ⟨rfl, hb⟩
      have Q5 := Lib.hid (ReadsInt.below Q4.out hb)
      have V5 := Lib.hid (below_then V4.out V4.out.size hb)
      clear hb
      go_wp2_with fail
      refine (equal_same l _ Q5.out (ReadsInt.below HR.out V5.out) HW.out).mono ?_; rintro e w' ⟨rfl, rfl⟩
      go_wp2_with fail
      go_ret
      exact ⟨rfl, V5.out⟩
    · have t1 : (er == 0) = false := by simpa using he
      obtain ⟨z0, z1, z2, z3⟩ := HNO.out he
      have HZS := Lib.hid (And.intro z0 (And.intro z1 (And.intro z2 z3)))
      clear he z0 z1 z2 z3
      go_wp2_with fail
      refine (take_at l _ (ReadsInt.below HR.out B4.out) HW.out HC.out (E.out.1.trans HZS.out.1) (E.out.2.1.trans HZS.out.2.1) (E.out.2.2.1.trans HZS.out.2.2.1) (E.out.2.2.2.1.trans HZS.out.2.2.2) E.out.2.2.2.2).mono ?_; rintro e v3 ⟨rfl, hb⟩
      have U3 := Lib.hid (heap_alloc_new v3 (.cells #[.int .u64 0, .int .i64 0, .int .u64 0, .int .u64 0] 25))
      have V3 := Lib.hid ((below_then B4.out B4.out.size hb).alloc (below_then B4.out B4.out.size hb).size (.cells #[.int .u64 0, .int .i64 0, .int .u64 0, .int .u64 0] 25))
      clear hb
      go_wp2_with fail
      refine (awake_any _).mono ?_; rintro e v5 ⟨rfl, hb⟩
      obtain ⟨u0, u1, u2, u3⟩ := cells4 (keep_row U3.out hb)
      have V5 := Lib.hid (below_then V3.out V3.out.size hb)
      clear hb
      go_wp2_with fail
      go_ret
      exact ⟨rfl, V5.out⟩
  · have hm' : may G B D N = false := by simpa using hm
    have HM := Lib.hid hm'
    clear hm hm'
    go_enter Try.func8, Try.ntmps8
    go_wp2_with ((with_reducible refine wpList_load_row rfl 25 (.tmp 2) rfl w.heap.size ?_ 25 _ _ _ R0.out Try.underlying25 ?_ (size4 _ _ _ _) ?_); rfl; rfl)
    refine (put_no G B D N _ HM.out).mono ?_
    rintro e w2 ⟨rfl, hb⟩
    have R2 := Lib.hid (keep_row R0.out hb)
    have B2 := Lib.hid (below_then B0.out B0.out.size hb)
    clear hb
    go_wp2_with ((with_reducible refine wpList_load_row rfl 25 (.tmp 2) rfl w.heap.size ?_ 25 _ _ _ R2.out Try.underlying25 ?_ (size4 _ _ _ _) ?_); rfl; rfl)
    refine (may_at _ HM.out).mono ?_; rintro e w4 ⟨rfl, hb⟩
    have B4 := Lib.hid (below_then B2.out B2.out.size hb)
    clear hb
    by_cases he : er = 0
    · have t1 : (er == 0) = true := by simpa using he
      have HF := Lib.hid (HBK.out he)
      clear he
      go_wp2_with fail
      refine (take_at l _ (ReadsInt.below HR.out B4.out) HW.out HC.out E.out.1 E.out.2.1 E.out.2.2.1 E.out.2.2.2.1 E.out.2.2.2.2).mono ?_; rintro e v3 ⟨rfl, hb⟩
      have U3 := Lib.hid (heap_alloc_new v3 (.cells #[.int .u64 G', .int .i64 B', .int .u64 D', .int .u64 N'] 25))
      have V3 := Lib.hid ((below_then B4.out B4.out.size hb).alloc (below_then B4.out B4.out.size hb).size (.cells #[.int .u64 G', .int .i64 B', .int .u64 D', .int .u64 N'] 25))
      clear hb
      go_wp2_with ((with_reducible refine wpList_load_row rfl 25 (.tmp 9) rfl v3.heap.size ?_ 25 _ _ _ U3.out Try.underlying25 ?_ (size4 _ _ _ _) ?_); rfl; rfl)
      refine (put_ok G' B' D' N' _ HF.out.1).mono ?_
      rintro e v4 ⟨A4, c4, rfl, ho, hb⟩
      rw [HF.out.2] at ho
      have hll : l.length = 64 := by have := ho.1; rw [nums_length] at this; exact this
      have Q4 := Lib.hid (reads_of_own ho hll rfl)
      have V4 := Lib.hid (below_then V3.out V3.out.size hb)
      clear ho hb hll
      go_wp2_with fail
      refine (awake_any _).mono ?_; rintro e v5 ⟨rfl, hb⟩
      have Q5 := Lib.hid (ReadsInt.below Q4.out hb)
      have V5 := Lib.hid (below_then V4.out V4.out.size hb)
      clear hb
      go_wp2_with fail
      refine (equal_same l _ Q5.out (ReadsInt.below HR.out V5.out) HW.out).mono ?_; rintro e w' ⟨rfl, rfl⟩
      go_wp2_with fail
      go_ret
      exact ⟨rfl, V5.out⟩
    · have t1 : (er == 0) = false := by simpa using he
      obtain ⟨z0, z1, z2, z3⟩ := HNO.out he
      have HZS := Lib.hid (And.intro z0 (And.intro z1 (And.intro z2 z3)))
      clear he z0 z1 z2 z3
      go_wp2_with fail
      refine (take_at l _ (ReadsInt.below HR.out B4.out) HW.out HC.out (E.out.1.trans HZS.out.1) (E.out.2.1.trans HZS.out.2.1) (E.out.2.2.1.trans HZS.out.2.2.1) (E.out.2.2.2.1.trans HZS.out.2.2.2) E.out.2.2.2.2).mono ?_; rintro e v3 ⟨rfl, hb⟩
      have U3 := Lib.hid (heap_alloc_new v3 (.cells #[.int .u64 0, .int .i64 0, .int .u64 0, .int .u64 0] 25))
      have V3 := Lib.hid ((below_then B4.out B4.out.size hb).alloc (below_then B4.out B4.out.size hb).size (.cells #[.int .u64 0, .int .i64 0, .int .u64 0, .int .u64 0] 25))
      clear hb
      go_wp2_with fail
      refine (awake_any _).mono ?_; rintro e v5 ⟨rfl, hb⟩
      obtain ⟨u0, u1, u2, u3⟩ := cells4 (keep_row U3.out hb)
      have V5 := Lib.hid (below_then V3.out V3.out.size hb)
      clear hb
      go_wp2_with fail
      go_ret
      exact ⟨rfl, V5.out⟩
end Go.Proofs.Ytnnclfaibcedoaa.Sup
