/- Pieces: some of the chapter's rows (wakes), by their contract. -/
import Derived.Test.YtgmjpnampjkfeaaPieF
set_option linter.unusedVariables false
set_option linter.unusedSimpArgs false
namespace Go.Proofs.Ytgmjpnampjkfeaa.Pie
open Go Go.RowKit Go.Proofs.YtgmjpnampjkfeaaW.PrintWords Go.Proofs.YtgmjpnampjkfeaaW.PrintLast Go.Proofs.YtgmjpnampjkfeaaW.PrintMore Base

theorem cut250 (w : World) : Calls Try.prog 14 #[.int .u64 250, .int .u64 10] w fun e w' => PL w w' e 2 [.int .u64 0, .int .i64 250, .int .i64 256, .int .i64 0, .int .u64 1, .int .i64 0, .int .i64 4, .int .i64 6] := cut_at (O := 250) (N := 10) (k := 2) w (by omega) (by omega) (by kernel_rfl)
theorem inner250 (w : World) : Calls Try.prog 11 #[.int .u64 250, .int .u64 600] w fun e w' => e = .returned (.tuple #[.int .u64 1, .int .u64 3]) ∧ w = w' := inner_any 250 600 w (by omega) (by omega)
/-- A list of at least one piece: where it lies. -/
theorem pl_some {w w' : World} {e : Ending} {k : Nat} {cs : List Value} (h : PL w w' e k cs) (hk : 0 < k) : ∃ g, e = .returned (.slice (some ⟨g, 0, none⟩) k k) ∧ (∀ (i : Nat) (u : Value), cs[i]? = some u → w'.cell? ⟨g, i, none⟩ = some u) ∧ w.heap.size ≤ g ∧ Below w.heap.size w w' := by
  obtain ⟨A, c, rfl, ho, hb⟩ := h
  obtain ⟨g, cap, he, hg, -⟩ := ho.form hk
  injection he with h1 h2 h3
  subst h1
  exact ⟨g, rfl, fun i u hu => own_cell4 ho i u hu, own_base ho g rfl, hb⟩
theorem row256 {w : World} {g : Nat} {xs : List Int} (h : w.heap[g]? = some (.cells (nums .u8 xs).toArray 5 (0, 0))) (hl : xs.length = 256) : ReadsInt w .u8 (some ⟨g, 0, none⟩) 256 xs := by
  have := row_reads (fr := (0, 0)) h (by omega)
  rwa [hl] at this
/-- '[]byte("..")' of a text that stands in the program. -/
theorem made_const (w : World) (cs : Array Value) (n : Nat) : ∃ w1 wa, Below w.heap.size w w1 ∧ w1.heap[w.heap.size]? = some (.cells cs 5 (cs.size, cs.size + 1)) ∧ w1.heap.size = w.heap.size + 1 ∧ w.alloc (.cells cs 5) = wa ∧
    (convert 40 40 (.slice (some ⟨w.heap.size, 0, none⟩) n n)).run Try.prog wa = .ok (.slice (some ⟨w.heap.size, 0, none⟩) n n) w1 :=
  ⟨_, _, (Below.refl _ _).alloc (Nat.le_refl _) _, heap_alloc_new _ _, World.size_alloc _ _, rfl, Joins.run_convert_bytes_const_at (P := Try.prog) w 40 5 cs n n w.heap.size rfl Try.underlying40 Try.underlying5⟩
set_option maxRecDepth 100000 in
set_option maxHeartbeats 1600000 in
theorem wakes_any (w : World) : Calls Try.prog 18 #[] w fun e w' => e = .returned (.bool true) ∧ Below w.heap.size w w' := by
  go_enter Try.func18, Try.ntmps18
  go_wp2_with fail
  refine (cut250 _).mono ?_; rintro e w1 h
  obtain ⟨g, rfl, hc, hg, hb⟩ := pl_some h (by omega)
  have HC := Lib.hid hc
  have B1 := Lib.hid hb
  have GW := Lib.hid (show g < w1.heap.size from block_lt_of_cell (hc 0 _ rfl))
  clear h hc hg hb
  go_wp2_with fail
  refine (inner250 _).mono ?_; rintro e w2 ⟨rfl, rfl⟩
  obtain ⟨w2, w2a, b2, f2, s2, hw2, hk2⟩ := made_const w1 #[.int .u8 97, .int .u8 98, .int .u8 99, .int .u8 100, .int .u8 101, .int .u8 102] 6
  obtain ⟨w3, w3a, b3, f3, s3, hw3, hk3⟩ := made_const w2 #[.int .u8 120, .int .u8 121, .int .u8 122] 3
  have L1 := Lib.hid (row_reads (k := .u8) (xs := [97, 98, 99, 100, 101, 102]) (keep_row f2 b3) (by simp))
  have L2 := Lib.hid (row_reads (k := .u8) (xs := [120, 121, 122]) f3 (by simp))
  have B3 := Lib.hid (below_then (below_then B1.out B1.out.size b2) (Nat.le_trans B1.out.size b2.size) b3)
  have B13 := Lib.hid (below_then b2 b2.size b3)
  have SS := Lib.hid (And.intro B1.out.size (And.intro b2.size b3.size))
  clear b2 f2 s2 b3 f3 s3
  go_wp2_with fail
  refine (lay_any 0 2 4 1 [97, 98, 99, 100, 101, 102] [120, 121, 122] _ _ 6 6 3 3 _ L1.out L2.out (by omega)).mono ?_; rintro e w4 ⟨g4, rfl, f4, hg4, b4⟩
  have R4 := row256 f4 (layL_len _ _ _ _ _)
  have B4 := Lib.hid (below_then B3.out B3.out.size b4)
  have B14 := Lib.hid (below_then B13.out B13.out.size b4)
  have hcut : ∀ W : World, (Instr.slice 40 (.slice (some ⟨g4, 0, none⟩) 256 256) none (some (.int .i64 6)) none).run Try.prog W = .ok (.slice (some ⟨g4, 0, none⟩) 6 256) W := by
    obtain ⟨i, hi, -⟩ := info8'
    exact cut_to 40 5 .i64 Try.underlying40 hi (some ⟨g4, 0, none⟩) 256 256 6 (by omega) (by omega) (by omega)
  have hstr : (convert 40 9 (.slice (some ⟨g4, 0, none⟩) 6 256)).run Try.prog w4 = .ok (.string { data := #[97, 98, 121, 122, 101, 102] }) w4 := by
    have h := string_of_reads (P := Try.prog) (src := 40) (dst := 9) (e := 5) (c := 256) Try.underlying40 Try.underlying5 Try.underlying9 (R4.take_ 6 (by omega))
    rw [show (layL 2 4 1 [97, 98, 99, 100, 101, 102] [120, 121, 122]).take 6 = [97, 98, 121, 122, 101, 102] by kernel_rfl] at h
    exact h
  clear f4 hg4 b4 R4 hw2 hk2 hw3 hk3 L1 L2 B13 B3
  have x0 := pw_cell_below B14.out (HC.out 0 _ rfl)
  have x1 := pw_cell_below B14.out (HC.out 1 _ rfl)
  have x2 := pw_cell_below B14.out (HC.out 2 _ rfl)
  have x3 := pw_cell_below B14.out (HC.out 3 _ rfl)
  have x4 := pw_cell_below B14.out (HC.out 4 _ rfl)
  have x5 := pw_cell_below B14.out (HC.out 5 _ rfl)
  have x6 := pw_cell_below B14.out (HC.out 6 _ rfl)
  have x7 := pw_cell_below B14.out (HC.out 7 _ rfl)
  go_wp2_with fail
  refine (within_at (b := true) _ (by omega) (by omega) (by omega) (by decide)).mono ?_; rintro e w5 ⟨rfl, rfl⟩
  go_wp2_with fail
  refine (within_at (b := false) _ (by omega) (by omega) (by omega) (by decide)).mono ?_; rintro e w5 ⟨rfl, rfl⟩
  go_wp2_with fail
  go_ret
  exact ⟨rfl, B4.out⟩
end Go.Proofs.Ytgmjpnampjkfeaa.Pie
