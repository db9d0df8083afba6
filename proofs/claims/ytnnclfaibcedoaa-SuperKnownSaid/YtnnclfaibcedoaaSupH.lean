/- The document's Put, by its contract (every input). -/
import Derived.Test.YtnnclfaibcedoaaSupG
import Derived.Deep.DeepCutAuto
set_option linter.unusedVariables false
set_option linter.unusedSimpArgs false
namespace Go.Proofs.Ytnnclfaibcedoaa.Sup
open Go Go.RowKit Go.Proofs.YtnnclfaibcedoaaW.PrintWords Go.Proofs.YtnnclfaibcedoaaW.PrintLast Go.Proofs.YtnnclfaibcedoaaW.PrintMore Base Odr

theorem start_list : ((((List.replicate 64 (0 : Int)).set (0 : Int).toNat 99).set (1 : Int).toNat 105).set (2 : Int).toNat 115).set (3 : Int).toNat 116 = [99, 105, 115, 116] ++ List.replicate 8 0 ++ List.replicate 52 0 := by decide +kernel
theorem rep_split (xs : List Int) (m k : Nat) : xs ++ List.replicate (m + k) 0 = xs ++ List.replicate m (0 : Int) ++ List.replicate k 0 := by rw [List.append_assoc, List.replicate_append_replicate]
theorem stage0 (G B D N : Int) : [99, 105, 115, 116] ++ List.replicate 8 0 ++ List.replicate 52 0 = front G B D N 0 ++ List.replicate 8 0 ++ List.replicate 52 0 := by simp [front]
theorem stage1 (G B D N : Int) : front G B D N 0 ++ be G 8 ++ List.replicate 52 0 = front G B D N 1 ++ List.replicate 8 0 ++ List.replicate 44 0 := by rw [(front_succ G B D N).1]; exact rep_split _ 8 44
theorem stage2 (G B D N : Int) : front G B D N 1 ++ be B 8 ++ List.replicate 44 0 = front G B D N 2 ++ List.replicate 8 0 ++ List.replicate 36 0 := by rw [(front_succ G B D N).2.1]; exact rep_split _ 8 36
theorem stage3 (G B D N : Int) : front G B D N 2 ++ be D 8 ++ List.replicate 36 0 = front G B D N 3 ++ List.replicate 8 0 ++ List.replicate 28 0 := by rw [(front_succ G B D N).2.2.1]; exact rep_split _ 8 28
theorem stage4 (G B D N : Int) : front G B D N 3 ++ be N 8 ++ List.replicate 28 0 = (front G B D N 4 ++ List.replicate 20 0) ++ List.replicate 8 0 ++ [] := by rw [(front_succ G B D N).2.2.2, List.append_nil]; exact rep_split _ 20 8
theorem stage5 (G B D N : Int) : (front G B D N 4 ++ List.replicate 20 0) ++ be G 8 ++ [] = formL G B D N := by rw [List.append_nil]; rfl
set_option maxRecDepth 100000 in
set_option maxHeartbeats 1600000 in
theorem rput_ok (G B D N : Int) (w : World) (hm : may G B D N = true) (hD : 0 ≤ D) : Calls Try.prog 16 #[.agg #[.int .u64 G, .int .i64 B, .int .u64 D, .int .u64 N]] w fun e w' => ∃ A' c', e = .returned (.tuple #[.slice A' 64 c', .int .i64 0]) ∧ w'.ownsRow w.heap.size 5 1 (.slice A' 64 c') 64 (nums .u8 (formL G B D N)) ∧ Below w.heap.size w w' := by
  have HM := Lib.hid hm
  obtain ⟨⟨g0, g1⟩, ⟨hB0, hB1⟩, hD1, n0, n1⟩ := may_all hm
  have hwB : IntKind.u64.wrap B = B := by rw [wrap_u64]; omega
  have hmk := made8 64 (by omega)
  have hmk' : ∀ W : World, (Instr.makeSlice 22 (.int .i64 64) (.int .i64 64)).run Try.prog W = .ok (.slice (some ⟨W.heap.size, 0, none⟩) 64 64) (W.alloc (.cells (madeCells #[.int .u8 0] 64) 5)) := hmk
  have R0 := Lib.hid (heap_alloc_new w (.cells #[.int .u64 G, .int .i64 B, .int .u64 D, .int .u64 N] 25))
  have B0 := Lib.hid ((Below.refl w.heap.size w).alloc (Nat.le_refl _) (.cells #[.int .u64 G, .int .i64 B, .int .u64 D, .int .u64 N] 25))
  clear hm hmk
  go_enter Try.func16, Try.ntmps16
  go_wp2_with fail
  refine (rmay_at _ (by omega) (by omega) HM.out).mono ?_
  rintro e w1 ⟨rfl, hb⟩
  have R1 := Lib.hid (keep_row R0.out hb)
  have B1 := Lib.hid (below_then B0.out B0.out.size hb)
  have hlt : w.heap.size < w1.heap.size := (Array.getElem?_eq_some_iff.1 R1.out).1
  have hm1 := hmk' w1
  have ho := own_made w1 (w.heap.size + 1) 5 .u8 64 (by omega) (by omega)
  have hr2 := alloc_row R1.out (.cells (madeCells #[.int .u8 0] 64) 5)
  have hb2 := B1.out.alloc B1.out.size (.cells (madeCells #[.int .u8 0] 64) 5)
  obtain ⟨g, hg⟩ : ∃ g, w1.heap.size = g := ⟨_, rfl⟩
  rw [hg] at hm1 ho hlt
  obtain ⟨w2, hw2⟩ : ∃ w2, w1.alloc (.cells (madeCells #[.int .u8 0] 64) 5) = w2 := ⟨_, rfl⟩
  rw [hw2] at hm1 ho hr2 hb2
  obtain ⟨x0, y0⟩ := own_at ho 0 (by omega) (by omega)
  obtain ⟨x1, y1⟩ := own_at ho 1 (by omega) (by omega)
  obtain ⟨x2, y2⟩ := own_at ho 2 (by omega) (by omega)
  obtain ⟨x3, y3⟩ := own_at ho 3 (by omega) (by omega)
  have x0' : w2.cell? ⟨g, 0, none⟩ = some (.int .u8 0) := x0
  have x1' : w2.cell? ⟨g, 1, none⟩ = some (.int .u8 0) := x1
  have x2' : w2.cell? ⟨g, 2, none⟩ = some (.int .u8 0) := x2
  have x3' : w2.cell? ⟨g, 3, none⟩ = some (.int .u8 0) := x3
  have y0' : w2.frozen? ⟨g, 0, none⟩ = false := y0
  have y1' : w2.frozen? ⟨g, 1, none⟩ = false := y1
  have y2' : w2.frozen? ⟨g, 2, none⟩ = false := y2
  have y3' : w2.frozen? ⟨g, 3, none⟩ = false := y3
  have o4 := (own_store (own_store (own_store (own_store ho 0 99).1 1 105).1 2 115).1 3 116).1
  rw [start_list] at o4
  have HO := Lib.hid o4
  have HR2 := Lib.hid hr2
  have HB2 := Lib.hid hb2
  clear ho o4 hg hw2 hmk' hr2 hb2 hb x0 x1 x2 x3 y0 y1 y2 y3
  go_upto_region 7 with fail
  go_cut [4] (fun v wx => v = .slice (some ⟨g, 0, none⟩) 64 64 ∧ wx.ownsRow (w.heap.size + 1) 5 1 (.slice (some ⟨g, 0, none⟩) 64 64) 64 (nums .u8 ([99, 105, 115, 116] ++ List.replicate 8 0 ++ List.replicate 52 0)) ∧ wx.heap[w.heap.size]? = some (.cells #[.int .u64 G, .int .i64 B, .int .u64 D, .int .u64 N] 25 (0, 0)) ∧ Below w.heap.size w wx)
  case first =>
    go_wp2_with fail
    go_meet
    refine ⟨rfl, HO.out, ?_, (((HB2.out.setCell (by simp; omega) _).setCell (by simp; omega) _).setCell (by simp; omega) _).setCell (by simp; omega) _⟩
    rw [Below.heap_setCell _ _ _ _ (by simp; omega), Below.heap_setCell _ _ _ _ (by simp; omega), Below.heap_setCell _ _ _ _ (by simp; omega), Below.heap_setCell _ _ _ _ (by simp; omega)]
    exact HR2.out
  case rest =>
    obtain ⟨rfl, ho, hr, hb⟩ := hcut
    rw [stage0 G B D N] at ho
    have HO0 := Lib.hid (own_weaken (base' := w.heap.size) ho (Nat.le_succ _))
    have HR0 := Lib.hid hr
    have HB0 := Lib.hid hb
    clear ho hr hb x0' x1' x2' x3' y0' y1' y2' y3' hm1
    obtain ⟨z0, z1, z2, z3⟩ := cells4 HR0.out
    go_wp2_with fail
    refine (lay_zero 4 g 64 w.heap.size G _ _ _ _ w _ rfl (front_length _ _ _ _ _ (by omega)) (by simp) (by have := HO0.out.1; rw [nums_length] at this; exact this) (by omega) (by omega) HO0.out HB0.out (by omega)).mono ?_
    rintro e w5 ⟨⟨v, rfl⟩, ho, hb, hk⟩
    rw [stage1 G B D N] at ho
    have HO1 := Lib.hid ho
    have HR1 := Lib.hid ((hk w.heap.size (by omega)).trans HR0.out)
    have HB1 := Lib.hid hb
    clear ho hb hk z0 z1 z2 z3
    obtain ⟨z0, z1, z2, z3⟩ := cells4 HR1.out
    go_wp2_with fail
    refine (lay_zero 12 g 64 w.heap.size B _ _ _ _ w _ rfl (front_length _ _ _ _ _ (by omega)) (by simp) (by have := HO1.out.1; rw [nums_length] at this; exact this) (by omega) (by omega) HO1.out HB1.out (by omega)).mono ?_
    rintro e w6 ⟨⟨v, rfl⟩, ho, hb, hk⟩
    rw [stage2 G B D N] at ho
    have HO2 := Lib.hid ho
    have HR2 := Lib.hid ((hk w.heap.size (by omega)).trans HR1.out)
    have HB2 := Lib.hid hb
    clear ho hb hk z0 z1 z2 z3
    obtain ⟨z0, z1, z2, z3⟩ := cells4 HR2.out
    go_wp2_with fail
    refine (lay_zero 20 g 64 w.heap.size D _ _ _ _ w _ rfl (front_length _ _ _ _ _ (by omega)) (by simp) (by have := HO2.out.1; rw [nums_length] at this; exact this) (by omega) (by omega) HO2.out HB2.out (by omega)).mono ?_
    rintro e w7 ⟨⟨v, rfl⟩, ho, hb, hk⟩
    rw [stage3 G B D N] at ho
    have HO3 := Lib.hid ho
    have HR3 := Lib.hid ((hk w.heap.size (by omega)).trans HR2.out)
    have HB3 := Lib.hid hb
    clear ho hb hk z0 z1 z2 z3
    obtain ⟨z0, z1, z2, z3⟩ := cells4 HR3.out
    go_wp2_with fail
    refine (lay_zero 28 g 64 w.heap.size N _ _ _ _ w _ rfl (front_length _ _ _ _ _ (by omega)) (by simp) (by have := HO3.out.1; rw [nums_length] at this; exact this) (by omega) (by omega) HO3.out HB3.out (by omega)).mono ?_
    rintro e w8 ⟨⟨v, rfl⟩, ho, hb, hk⟩
    rw [stage4 G B D N] at ho
    have HO4 := Lib.hid ho
    have HR4 := Lib.hid ((hk w.heap.size (by omega)).trans HR3.out)
    have HB4 := Lib.hid hb
    clear ho hb hk z0 z1 z2 z3
    obtain ⟨z0, z1, z2, z3⟩ := cells4 HR4.out
    go_wp2_with fail
    refine (lay_zero 56 g 64 w.heap.size G _ _ _ _ w _ rfl ((by rw [List.length_append, front_length _ _ _ _ _ (by omega), List.length_replicate])) (by simp) (by have := HO4.out.1; rw [nums_length] at this; exact this) (by omega) (by omega) HO4.out HB4.out (by omega)).mono ?_
    rintro e w9 ⟨⟨v, rfl⟩, ho, hb, hk⟩
    rw [stage5 G B D N] at ho
    have HO5 := Lib.hid ho
    have HR5 := Lib.hid ((hk w.heap.size (by omega)).trans HR4.out)
    have HB5 := Lib.hid hb
    clear ho hb hk z0 z1 z2 z3
    go_wp2_with fail
    go_ret2
    exact ⟨_, _, rfl, HO5.out, HB5.out⟩
end Go.Proofs.Ytnnclfaibcedoaa.Sup
