/- What the laws of the superblocks ask first, 'awake': it is true. -/
import Derived.Test.YtnnclfaibcedoaaSupE
set_option linter.unusedVariables false
set_option linter.unusedSimpArgs false
namespace Go.Proofs.Ytnnclfaibcedoaa.Sup
open Go Go.RowKit Go.Proofs.YtnnclfaibcedoaaW.PrintWords Go.Proofs.YtnnclfaibcedoaaW.PrintLast Go.Proofs.YtnnclfaibcedoaaW.PrintMore Base Odr

theorem choose_at {t : Ch} (a b : List Int) {A1 A2 : Option Addr} {n1 c1 n2 c2 : Nat} (w : World) (HR1 : ReadsInt w .u8 A1 n1 a) (hw1 : ∀ x ∈ a, (Lit.int .u8 x).wf = true) (hc1 : n1 ≤ c1) (HR2 : ReadsInt w .u8 A2 n2 b) (hw2 : ∀ x ∈ b, (Lit.int .u8 x).wf = true) (hc2 : n2 ≤ c2) (ht : stt a b 2 = t) :
    Calls Try.prog 9 #[.slice A1 n1 c1, .slice A2 n2 c2] w fun e w' => e = .returned (.tuple #[.agg #[.int .u64 t.G, .int .i64 t.B, .int .u64 t.D, .int .u64 t.N], .int .i64 t.sl, .int .i64 t.er]) ∧ Below w.heap.size w w' := by
  subst ht; exact choose_any a b A1 A2 n1 c1 n2 c2 w HR1 hw1 hc1 HR2 hw2 hc2
def F0 : List Int := formL 1 16 0 1
def Z0 : List Int := List.replicate 64 0
theorem F0_len : F0.length = 64 := by decide +kernel
theorem F0_at : F0[11]? = some 1 ∧ F0[19]? = some 16 ∧ F0[35]? = some 1 ∧ F0[63]? = some 1 ∧ F0.take 4 = [99, 105, 115, 116] := by decide +kernel
theorem F0_take : takeS F0 0 = 1 ∧ takeS F0 1 = 16 ∧ takeS F0 2 = 0 ∧ takeS F0 3 = 1 ∧ takeE F0 = 0 := by decide +kernel
theorem F0_choose : stt Z0 F0 2 = ⟨1, 16, 0, 1, 1, 0⟩ ∧ stt F0 Z0 2 = ⟨0, 0, 0, 0, 0, 23⟩ := by decide +kernel
theorem wf_zeros {n : Nat} : ∀ x ∈ List.replicate n (0 : Int), (Lit.int .u8 x).wf = true := fun x hx => by
  rw [List.eq_of_mem_replicate hx]; rfl
theorem formL_wf (G B D N : Int) : ∀ x ∈ formL G B D N, (Lit.int .u8 x).wf = true := by
  intro x hx
  simp only [formL, front, List.mem_append, List.mem_flatten, List.mem_map] at hx
  rcases hx with ((h | ⟨l, ⟨n, -, rfl⟩, h⟩) | h) | h
  · simp at h; rcases h with rfl | rfl | rfl | rfl <;> rfl
  · exact be_range _ _ x h
  · exact wf_zeros x h
  · exact be_range _ _ x h
theorem keep_row {w w' : World} {g : Nat} {o : Obj} (h : w.heap[g]? = some o) (hb : Below w.heap.size w w') : w'.heap[g]? = some o := (hb.block _ (Array.getElem?_eq_some_iff.1 h).1).trans h
theorem cells4 {w : World} {g : Nat} {G B D N : Int} {fr : Nat × Nat} (h : w.heap[g]? = some (.cells #[.int .u64 G, .int .i64 B, .int .u64 D, .int .u64 N] 25 fr)) :
    w.cell? ⟨g, 0, none⟩ = some (.int .u64 G) ∧ w.cell? ⟨g, 1, none⟩ = some (.int .i64 B) ∧ w.cell? ⟨g, 2, none⟩ = some (.int .u64 D) ∧ w.cell? ⟨g, 3, none⟩ = some (.int .u64 N) :=
  ⟨cell_row h rfl, cell_row h rfl, cell_row h rfl, cell_row h rfl⟩

set_option maxRecDepth 100000 in
set_option maxHeartbeats 3200000 in
theorem awake_any (w : World) : Calls Try.prog 11 #[] w fun e w' => e = .returned (.bool true) ∧ Below w.heap.size w w' := by
  have hmk := made8 64 (by omega)
  have hmk' : ∀ W : World, (Instr.makeSlice 22 (.int .i64 64) (.int .i64 64)).run Try.prog W = .ok (.slice (some ⟨W.heap.size, 0, none⟩) 64 64) (W.alloc (.cells (madeCells #[.int .u8 0] 64) 5)) := hmk
  clear hmk
  have hS := heap_alloc_new w (.cells #[.int .u64 1, .int .i64 16, .int .u64 0, .int .u64 1] 25)
  have R0 := Lib.hid hS
  have B0 := Lib.hid ((Below.refl w.heap.size w).alloc (Nat.le_refl _) (.cells #[.int .u64 1, .int .i64 16, .int .u64 0, .int .u64 1] 25))
  clear hS
  go_enter Try.func11, Try.ntmps11
  go_wp2_with fail
  refine (put_ok 1 16 0 1 _ (by decide +kernel)).mono ?_
  rintro e w2 ⟨A2, c2, rfl, ho, hb⟩
  obtain ⟨g, c2', he, -, -⟩ := ho.form (by omega)
  injection he with he1 he2 he3
  subst he1; subst he3
  have hcap := own_cap ho
  have ho' : w2.ownsRow (w.alloc (.cells #[.int .u64 1, .int .i64 16, .int .u64 0, .int .u64 1] 25)).heap.size 5 1 (.slice (some ⟨g, 0, none⟩) 64 c2) 64 (nums .u8 F0) := ho
  have k1 := own_cell ho' 11 1 (by omega) F0_at.1
  have k2 := own_cell ho' 19 16 (by omega) F0_at.2.1
  have k3 := own_cell ho' 35 1 (by omega) F0_at.2.2.1
  have k4 := own_cell ho' 63 1 (by omega) F0_at.2.2.2.1
  have RF := Lib.hid (reads_of_own ho' F0_len rfl)
  have hr4 := RF.out.take_ 4 (by omega)
  rw [F0_at.2.2.2.2] at hr4
  have hs4 := string_of_reads (c := c2) Try.underlying22 Try.underlying5 Try.underlying9 hr4
  have R2 := Lib.hid (keep_row R0.out hb)
  have B2 := Lib.hid (below_then B0.out B0.out.size hb)
  have hst : (strOfNums [99, 105, 115, 116]).toList = [99, 105, 115, 116] := by
    rw [ByteArray.toList_eq, strOfNums_data]; decide
  clear ho ho' hb hr4
  go_wp2_with fail
  refine (take_at F0 _ RF.out (formL_wf _ _ _ _) hcap F0_take.1 F0_take.2.1 F0_take.2.2.1 F0_take.2.2.2.1 F0_take.2.2.2.2).mono ?_
  rintro e w3 ⟨rfl, hb⟩
  have R3 := Lib.hid (alloc_row (keep_row R2.out hb) (.cells #[.int .u64 1, .int .i64 16, .int .u64 0, .int .u64 1] 25))
  have X3 := Lib.hid (heap_alloc_new w3 (.cells #[.int .u64 1, .int .i64 16, .int .u64 0, .int .u64 1] 25))
  have RF3 := Lib.hid (ReadsInt.below RF.out (hb.alloc hb.size (.cells #[.int .u64 1, .int .i64 16, .int .u64 0, .int .u64 1] 25)))
  have B3 := Lib.hid ((below_then B2.out B2.out.size hb).alloc (below_then B2.out B2.out.size hb).size (.cells #[.int .u64 1, .int .i64 16, .int .u64 0, .int .u64 1] 25))
  clear k1 k2 k3 k4 hs4 hst hb
  go_wp2_with fail
  refine (choose_at Z0 F0 _ (made_at (by simp) (by omega)) wf_zeros (by omega) (ReadsInt.below RF3.out ((Below.refl _ _).alloc (Nat.le_refl _) _)) (formL_wf _ _ _ _) hcap F0_choose.1).mono ?_
  rintro e w5 ⟨rfl, hb⟩
  have R5 := Lib.hid (alloc_row (keep_row (alloc_row R3.out (.cells (madeCells #[.int .u8 0] 64) 5)) hb) (.cells #[.int .u64 1, .int .i64 16, .int .u64 0, .int .u64 1] 25))
  have X5 := Lib.hid (alloc_row (keep_row (alloc_row X3.out (.cells (madeCells #[.int .u8 0] 64) 5)) hb) (.cells #[.int .u64 1, .int .i64 16, .int .u64 0, .int .u64 1] 25))
  have Y5 := Lib.hid (heap_alloc_new w5 (.cells #[.int .u64 1, .int .i64 16, .int .u64 0, .int .u64 1] 25))
  have hb45 := below_then ((Below.refl _ _).alloc (Nat.le_refl _) (.cells (madeCells #[.int .u8 0] 64) 5) : Below (w3.alloc (.cells #[.int .u64 1, .int .i64 16, .int .u64 0, .int .u64 1] 25)).heap.size (w3.alloc (.cells #[.int .u64 1, .int .i64 16, .int .u64 0, .int .u64 1] 25)) _) (by simp) hb
  have RF5 := Lib.hid (ReadsInt.below RF3.out (hb45.alloc hb45.size (.cells #[.int .u64 1, .int .i64 16, .int .u64 0, .int .u64 1] 25)))
  have B5 := Lib.hid ((below_then B3.out B3.out.size hb45).alloc (below_then B3.out B3.out.size hb45).size (.cells #[.int .u64 1, .int .i64 16, .int .u64 0, .int .u64 1] 25))
  clear hb hb45
  go_wp2_with fail
  refine (choose_at F0 Z0 _ (ReadsInt.below RF5.out ((Below.refl _ _).alloc (Nat.le_refl _) _)) (formL_wf _ _ _ _) hcap (made_at (by simp) (by omega)) wf_zeros (by omega) F0_choose.2).mono ?_
  rintro e w7 ⟨rfl, hb⟩
  obtain ⟨r0, r1, r2, r3⟩ := cells4 (alloc_row (keep_row (alloc_row R5.out (.cells (madeCells #[.int .u8 0] 64) 5)) hb) (.cells #[.int .u64 0, .int .i64 0, .int .u64 0, .int .u64 0] 25))
  obtain ⟨x0, x1, x2, x3⟩ := cells4 (alloc_row (keep_row (alloc_row X5.out (.cells (madeCells #[.int .u8 0] 64) 5)) hb) (.cells #[.int .u64 0, .int .i64 0, .int .u64 0, .int .u64 0] 25))
  obtain ⟨y0, y1, y2, y3⟩ := cells4 (alloc_row (keep_row (alloc_row Y5.out (.cells (madeCells #[.int .u8 0] 64) 5)) hb) (.cells #[.int .u64 0, .int .i64 0, .int .u64 0, .int .u64 0] 25))
  have hb6 := below_then (B5.out.alloc B5.out.size (.cells (madeCells #[.int .u8 0] 64) 5)) (Nat.le_trans B5.out.size (by simp)) hb
  have B7 := Lib.hid (hb6.alloc hb6.size (.cells #[.int .u64 0, .int .i64 0, .int .u64 0, .int .u64 0] 25))
  clear hb hb6
  go_wp2_with fail
  go_ret
  exact ⟨rfl, B7.out⟩
end Go.Proofs.Ytnnclfaibcedoaa.Sup
