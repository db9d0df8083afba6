/- The document's Take, by its contract (every input). -/
import Derived.Test.YtnnclfaibcedoaaSupI
set_option linter.unusedVariables false
set_option linter.unusedSimpArgs false
namespace Go.Proofs.Ytnnclfaibcedoaa.Sup
open Go Go.RowKit Go.Proofs.YtnnclfaibcedoaaW.PrintWords Go.Proofs.YtnnclfaibcedoaaW.PrintLast Go.Proofs.YtnnclfaibcedoaaW.PrintMore Base Odr

theorem ret_cell19 {R : Ending → World → Prop} {a : Act} {w : World} (g : Nat) (cs : Array Value) (fr : Nat × Nat) (hp : a.tmps.getD 2 undef = .pointer (some ⟨g, 0, none⟩)) (hg : w.heap[g]? = some (.cells cs 25 fr)) (hcs : cs.size = 4)
    (hd : a.defers = []) (hR : R (.returned (.tuple #[.agg cs, a.tmps.getD 3 undef])) w) : bodyPost Try.prog Try.f19 R .ret a w := by
  have h1 := run_loadVar_row (P := Try.prog) w g 25 25 cs fr _ hg Try.underlying25 rfl (by rw [hcs]; kernel_rfl)
  have hf : Try.f19.results = #[.cell 2 25, .tmp 3] := rfl
  have hp' : a.tmps[2]?.getD undef = .pointer (some ⟨g, 0, none⟩) := by simpa using hp
  refine bodyPost_ret (v := .tuple #[.agg cs, a.tmps.getD 3 undef]) ?_ hd hR
  simp [results, hf, hp', asAddr, h1]
theorem n4_at (b : List Int) (i at_ : Nat) (h : at_ = 4 + 8 * i) : getN ((b.drop at_).take 8) = n4 b i := by
  subst h; unfold n4 kth; rw [List.drop_drop]
set_option maxRecDepth 100000 in
set_option maxHeartbeats 3200000 in
theorem rtake_64 (b : List Int) (A : Option Addr) (c : Nat) (w : World) (HR : ReadsInt w .u8 A 64 b) (hw : ∀ x ∈ b, (Lit.int .u8 x).wf = true) (hc : 64 ≤ c) :
    Calls Try.prog 19 #[.slice A 64 c] w fun e w' => e = .returned (.tuple #[sval (takeS b), .int .i64 (takeE b)]) ∧ Below w.heap.size w w' := by
  have hl := HR.1
  have HRW := Lib.hid (ReadsInt.below HR ((Below.refl _ _).alloc (Nat.le_refl _) (.cells #[.int .u64 0, .int .i64 0, .int .u64 0, .int .u64 0] 25)))
  have HRH := Lib.hid HR
  have HW := Lib.hid hw
  have HL := Lib.hid hl
  have x0 := n4_range b hl hw 0 (by omega)
  have x1 := n4_range b hl hw 1 (by omega)
  have x2 := n4_range b hl hw 2 (by omega)
  have x3 := n4_range b hl hw 3 (by omega)
  have hE : takeE b = if 1024 < n4 b 1 then 23 else if may (n4 b 0) (n4 b 1) (n4 b 2) (n4 b 3) = true ∧ formL (n4 b 0) (n4 b 1) (n4 b 2) (n4 b 3) = b then 0 else 23 := by
    unfold takeE; rw [if_neg (by omega), if_neg (by omega)]
  have hS : ∀ i, takeS b i = if takeE b = 0 then n4 b i else 0 := fun i => rfl
  obtain ⟨G, hG⟩ : ∃ G, n4 b 0 = G := ⟨_, rfl⟩
  obtain ⟨B, hB⟩ : ∃ B, n4 b 1 = B := ⟨_, rfl⟩
  obtain ⟨D, hD⟩ : ∃ D, n4 b 2 = D := ⟨_, rfl⟩
  obtain ⟨N, hN⟩ : ∃ N, n4 b 3 = N := ⟨_, rfl⟩
  rw [hG, hB, hD, hN] at hE
  rw [hG] at x0
  rw [hB] at x1
  rw [hD] at x2
  rw [hN] at x3
  have HE := Lib.hid hE
  have HS := Lib.hid hS
  have HN4 := Lib.hid (And.intro hG (And.intro hB (And.intro hD hN)))
  have X := Lib.hid (And.intro x0 (And.intro x1 (And.intro x2 x3)))
  obtain ⟨y0, y1⟩ := x1
  have HZ := Lib.hid (heap_alloc_new w (.cells #[.int .u64 0, .int .i64 0, .int .u64 0, .int .u64 0] 25))
  have HBZ := Lib.hid ((Below.refl w.heap.size w).alloc (Nat.le_refl _) (.cells #[.int .u64 0, .int .i64 0, .int .u64 0, .int .u64 0] 25))
  clear HR hw hl hE hS hG hB hD hN x0 x2 x3
  by_cases h1024 : 1024 < B
  · have he : takeE b = 23 := by rw [HE.out, if_pos h1024]
    have HEE := Lib.hid he
    have q1 : decide (1024 < B) = true := decide_eq_true h1024
    clear he h1024
    go_enter Try.func19, Try.ntmps19
    go_wp2_with fail
    refine (rnum_at b 12 _ HRW.out HW.out (by omega) (by omega) ((n4_at b 1 12 rfl).trans HN4.out.2.1)).mono ?_; rintro e w' ⟨rfl, rfl⟩
    go_wp2_with ((with_reducible refine wpList_store_row rfl 25 (.tmp 2) (.tmp 20) rfl w.heap.size #[.int .u64 0, .int .i64 0, .int .u64 0, .int .u64 0] ?_ ?_ 25 _ HZ.out (size4 _ _ _ _) ?_ (one4 _ _ _ _) ?_); rfl; rfl; rfl)
    refine ret_cell19 w.heap.size #[.int .u64 0, .int .i64 0, .int .u64 0, .int .u64 0] (0, 0) rfl (setRow_heap _ _ _ _ _ _ HZ.out) rfl rfl ⟨?_, below_setRow HBZ.out (Nat.le_refl _) _⟩
    unfold sval
    rw [HS.out, HS.out, HS.out, HS.out, HEE.out]
    rfl
  have q1 : decide (1024 < B) = false := decide_eq_false h1024
  have i1024 : IntKind.i64.wrap B = B := IntWalk.i64_in _ (by omega)
  go_enter Try.func19, Try.ntmps19
  go_wp2_with fail
  refine (rnum_at b 12 _ HRW.out HW.out (by omega) (by omega) ((n4_at b 1 12 rfl).trans HN4.out.2.1)).mono ?_; rintro e w' ⟨rfl, rfl⟩
  go_wp2_with fail
  refine (rnum_at b 4 _ HRW.out HW.out (by omega) (by omega) ((n4_at b 0 4 rfl).trans HN4.out.1)).mono ?_; rintro e w' ⟨rfl, rfl⟩
  go_wp2_with fail
  refine (rnum_at b 20 _ HRW.out HW.out (by omega) (by omega) ((n4_at b 2 20 rfl).trans HN4.out.2.2.1)).mono ?_; rintro e w' ⟨rfl, rfl⟩
  go_wp2_with fail
  refine (rnum_at b 28 _ HRW.out HW.out (by omega) (by omega) ((n4_at b 3 28 rfl).trans HN4.out.2.2.2)).mono ?_; rintro e w' ⟨rfl, rfl⟩
  have H5 := Lib.hid (heap_alloc2_new w (.cells #[.int .u64 0, .int .i64 0, .int .u64 0, .int .u64 0] 25) (.cells #[.int .u64 G, .int .i64 B, .int .u64 D, .int .u64 N] 25))
  have HZ4 := Lib.hid (alloc_row HZ.out (.cells #[.int .u64 G, .int .i64 B, .int .u64 D, .int .u64 N] 25))
  have HB4 := Lib.hid (HBZ.out.alloc HBZ.out.size (.cells #[.int .u64 G, .int .i64 B, .int .u64 D, .int .u64 N] 25))
  by_cases hm : may G B D N = true
  · have HM := Lib.hid hm
    clear hm
    go_wp2_with fail
    refine (rput_ok G B D N _ HM.out X.out.2.2.1.1).mono ?_
    rintro e w5 ⟨A6, c6, rfl, ho, hb⟩
    have hfl : (formL G B D N).length = 64 := by have := ho.1; rw [nums_length] at this; exact this
    have HZ5 := Lib.hid (keep_row HZ4.out hb)
    have HS5 := Lib.hid (keep_row H5.out hb)
    have HB5 := Lib.hid (below_then HB4.out HB4.out.size hb)
    have hs1 := string_of_reads (c := c6) Try.underlying22 Try.underlying5 Try.underlying9 (reads_of_own ho hfl rfl)
    have hs2 := string_of_reads (c := c) Try.underlying22 Try.underlying5 Try.underlying9 (ReadsInt.below HRH.out HB5.out)
    clear ho hb
    by_cases hq : formL G B D N = b
    · have he : takeE b = 0 := by rw [HE.out, if_neg (by omega), if_pos ⟨HM.out, hq⟩]
      have hqq : ((strOfNums (formL G B D N)).toList == (strOfNums b).toList) = true := by rw [hq]; exact beq_self_eq_true _
      have HEE := Lib.hid he
      clear he hq
      go_wp2_with (first | ((with_reducible refine wpList_load_row rfl 25 (.tmp 5) rfl (w.heap.size + 1) ?_ 25 _ _ _ HS5.out Try.underlying25 ?_ (size4 _ _ _ _) ?_); rfl; rfl) | ((with_reducible refine wpList_store_row rfl 25 (.tmp 2) (.tmp 45) rfl w.heap.size #[.int .u64 G, .int .i64 B, .int .u64 D, .int .u64 N] ?_ ?_ 25 _ HZ5.out (size4 _ _ _ _) ?_ (one4 _ _ _ _) ?_); rfl; rfl; rfl))
      refine ret_cell19 w.heap.size #[.int .u64 G, .int .i64 B, .int .u64 D, .int .u64 N] (0, 0) rfl (setRow_heap _ _ _ _ _ _ HZ5.out) rfl rfl ⟨?_, below_setRow HB5.out (Nat.le_refl _) _⟩
      unfold sval
      rw [HS.out, HS.out, HS.out, HS.out, HEE.out, HN4.out.1, HN4.out.2.1, HN4.out.2.2.1, HN4.out.2.2.2]
      rfl
    · have he : takeE b = 23 := by rw [HE.out, if_neg (by omega), if_neg (fun h => hq h.2)]
      have hqq : ((strOfNums (formL G B D N)).toList == (strOfNums b).toList) = false := by
        rw [beq_eq_false_iff_ne]; intro h; exact hq (bytes_inj (formL_wf _ _ _ _) HW.out h)
      have HEE := Lib.hid he
      clear he hq
      go_wp2_with ((with_reducible refine wpList_store_row rfl 25 (.tmp 2) (.tmp 44) rfl w.heap.size #[.int .u64 0, .int .i64 0, .int .u64 0, .int .u64 0] ?_ ?_ 25 _ HZ5.out (size4 _ _ _ _) ?_ (one4 _ _ _ _) ?_); rfl; rfl; rfl)
      refine ret_cell19 w.heap.size #[.int .u64 0, .int .i64 0, .int .u64 0, .int .u64 0] (0, 0) rfl (setRow_heap _ _ _ _ _ _ HZ5.out) rfl rfl ⟨?_, below_setRow HB5.out (Nat.le_refl _) _⟩
      unfold sval
      rw [HS.out, HS.out, HS.out, HS.out, HEE.out]
      rfl
  · have hm' : may G B D N = false := by simpa using hm
    have he : takeE b = 23 := by rw [HE.out, if_neg (by omega), if_neg (fun h => hm h.1)]
    have HEE := Lib.hid he
    have HM := Lib.hid hm'
    clear he hm hm'
    go_wp2_with fail
    refine (rput_no G B D N _ X.out.1.1 X.out.2.2.2.1 HM.out).mono ?_
    rintro e w5 ⟨rfl, hb⟩
    have HZ5 := Lib.hid (keep_row HZ4.out hb)
    have HB5 := Lib.hid (below_then HB4.out HB4.out.size hb)
    clear hb
    go_wp2_with ((with_reducible refine wpList_store_row rfl 25 (.tmp 2) (.tmp 44) rfl w.heap.size #[.int .u64 0, .int .i64 0, .int .u64 0, .int .u64 0] ?_ ?_ 25 _ HZ5.out (size4 _ _ _ _) ?_ (one4 _ _ _ _) ?_); rfl; rfl; rfl)
    refine ret_cell19 w.heap.size #[.int .u64 0, .int .i64 0, .int .u64 0, .int .u64 0] (0, 0) rfl (setRow_heap _ _ _ _ _ _ HZ5.out) rfl rfl ⟨?_, below_setRow HB5.out (Nat.le_refl _) _⟩
    unfold sval
    rw [HS.out, HS.out, HS.out, HS.out, HEE.out]
    rfl
set_option maxRecDepth 100000 in
set_option maxHeartbeats 3200000 in
theorem rtake_any (b : List Int) (A : Option Addr) (n c : Nat) (w : World) (HR : ReadsInt w .u8 A n b) (hw : ∀ x ∈ b, (Lit.int .u8 x).wf = true) (hc : n ≤ c) :
    Calls Try.prog 19 #[.slice A n c] w fun e w' => e = .returned (.tuple #[sval (takeS b), .int .i64 (takeE b)]) ∧ Below w.heap.size w w' := by
  have hl := HR.1
  subst hl
  by_cases hs : b.length < 64
  · have he : takeE b = 4 := if_pos hs
    have hS : ∀ i, takeS b i = 0 := fun i => if_neg (by rw [he]; decide)
    have hs' : decide ((b.length : Int) < 64) = true := decide_eq_true (by omega)
    have HE := Lib.hid he
    have HS := Lib.hid hS
    clear he HR hS hw hc
    go_enter Try.func19, Try.ntmps19
    go_wp2_with fail
    refine ret_cell19 _ #[.int .u64 0, .int .i64 0, .int .u64 0, .int .u64 0] (0, 0) rfl (heap_alloc_new _ _) rfl rfl ⟨?_, (Below.refl _ _).alloc (Nat.le_refl _) _⟩
    unfold sval
    rw [HE.out, HS.out, HS.out, HS.out, HS.out]
    rfl
  by_cases hg : 64 < b.length
  · have he : takeE b = 3 := by rw [takeE, if_neg hs, if_pos hg]
    have hS : ∀ i, takeS b i = 0 := fun i => if_neg (by rw [he]; decide)
    have HE := Lib.hid he
    have HS := Lib.hid hS
    have hs2 : decide ((b.length : Int) < 64) = false := decide_eq_false (by omega)
    have hg2 : decide (64 < (b.length : Int)) = true := decide_eq_true (by omega)
    clear he HR hs hg hc hw hS
    obtain ⟨N, hN⟩ : ∃ N, N = b.length := ⟨_, rfl⟩
    rw [← hN] at hs2 hg2 ⊢
    have HN := Lib.hid hN
    clear hN
    go_enter Try.func19, Try.ntmps19
    go_wp2_with fail
    refine ret_cell19 _ #[.int .u64 0, .int .i64 0, .int .u64 0, .int .u64 0] (0, 0) rfl (heap_alloc_new _ _) rfl rfl ⟨?_, (Below.refl _ _).alloc (Nat.le_refl _) _⟩
    unfold sval
    rw [HE.out, HS.out, HS.out, HS.out, HS.out]
    rfl
  have hl : b.length = 64 := by omega
  clear hs hg
  rw [hl] at HR hc ⊢
  exact rtake_64 b A c w HR hw hc
end Go.Proofs.Ytnnclfaibcedoaa.Sup
