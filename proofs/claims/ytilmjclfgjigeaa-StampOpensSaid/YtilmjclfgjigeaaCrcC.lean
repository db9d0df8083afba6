/- The sums' functions over arrays (every input). -/
import Derived.Test.YtilmjclfgjigeaaCrcB
import Derived.Deep.QuietTactic
import Derived.BigQuiet
import Derived.Deep.RegionHeld3
import Derived.Deep.MidRow
import Derived.Laws.Rows
import Derived.Laws.Tables
import Derived.Test.YtilmjclfgjigeaaBase
set_option linter.unusedVariables false
set_option linter.unusedSimpArgs false
namespace Go.Proofs.Ytilmjclfgjigeaa.Crc
open Go Go.RowKit Go.Proofs.YtilmjclfgjigeaaW.PrintWords Go.Proofs.YtilmjclfgjigeaaW.PrintLast Go.Proofs.YtilmjclfgjigeaaW.PrintMore Base

set_option maxHeartbeats 800000 in
theorem of_any (S : Nat → BitVec 32) (n : BitVec 32) (w : World) :
    Calls Try.prog 36 #[.agg (arr S), .int .u32 (n.toNat : Int)] w fun e w' => e = .returned (.int .u32 ((ofS S n).toNat : Int)) ∧ ∃ m, w' = (w.alloc (.cells (arr S) 47)).drewN m := by
  go_enter Try.func36, Try.ntmps36
  go_wp2
  go_loopw [5, 7] (fun a i wr => ∃ (k m : Nat), k ≤ 32 ∧ i = .int .i64 k ∧ a = .int .u32 ((acc S n k).toNat : Int) ∧ wr = (w.alloc (.cells (arr S) 47)).drewN m) (fun _ i _ => 32 - (intOf i).toNat)
  case atStart => exact ⟨0, 0, by omega, rfl, rfl, rfl⟩
  case round =>
    obtain ⟨k, m, hk, rfl, rfl, rfl⟩ := hrel
    by_cases hlt : k < 32
    · have hck := arr_get S k hlt
      go_wp2
      go_quiet (fail)
      go_wp2
      go_roundw
      case rel => exact ⟨k + 1, m + nq, by omega, by go_num, by rw [acc_spell], rfl⟩
      case measure => simp [intOf]; omega
    · go_wp2
      go_ret
      obtain rfl : k = 32 := by omega
      exact ⟨ret32 (by rw [ofS_def]), m, rfl⟩

theorem info47 : (Try.prog.info? 47).map (·.size) = some 32 := by kernel_rfl
theorem zeros47 : (#[Value.int IntKind.u32 0, Value.int IntKind.u32 0, Value.int IntKind.u32 0, Value.int IntKind.u32 0,
          Value.int IntKind.u32 0, Value.int IntKind.u32 0, Value.int IntKind.u32 0, Value.int IntKind.u32 0,
          Value.int IntKind.u32 0, Value.int IntKind.u32 0, Value.int IntKind.u32 0, Value.int IntKind.u32 0,
          Value.int IntKind.u32 0, Value.int IntKind.u32 0, Value.int IntKind.u32 0, Value.int IntKind.u32 0,
          Value.int IntKind.u32 0, Value.int IntKind.u32 0, Value.int IntKind.u32 0, Value.int IntKind.u32 0,
          Value.int IntKind.u32 0, Value.int IntKind.u32 0, Value.int IntKind.u32 0, Value.int IntKind.u32 0,
          Value.int IntKind.u32 0, Value.int IntKind.u32 0, Value.int IntKind.u32 0, Value.int IntKind.u32 0,
          Value.int IntKind.u32 0, Value.int IntKind.u32 0, Value.int IntKind.u32 0, Value.int IntKind.u32 0] : Array Value) = arr (fun _ => 0) := by
  rw [arr_zero]; rfl
def upto (F : Nat → BitVec 32) (k : Nat) : Nat → BitVec 32 := fun j => if j < k then F j else 0
theorem upto_zero (F : Nat → BitVec 32) : arr (fun _ => 0) = arr (upto F 0) := arr_congr fun i _ => by simp [upto]
theorem upto_succ (F : Nat → BitVec 32) (k : Nat) : arr (fun j => if j = k then F k else upto F k j) = arr (upto F (k + 1)) := arr_congr fun i _ => by
  unfold upto
  by_cases h : i = k
  · subst h; simp
  · by_cases h2 : i < k
    · simp [h, h2, Nat.lt_succ_of_lt h2]
    · simp [h, h2, show ¬ i < k + 1 by omega]
theorem upto_all (F : Nat → BitVec 32) : arr (upto F 32) = arr F := arr_congr fun i h => by simp [upto, h]

set_option maxRecDepth 100000 in
set_option maxHeartbeats 800000 in
theorem one_any (w : World) :
    Calls Try.prog 30 #[] w fun e w' => e = .returned (.agg (arr fun j => beh (1#32 <<< j))) ∧ Below w.heap.size w w' := by
  go_enter Try.func30, Try.ntmps30
  go_wp2
  rw [zeros47]
  go_loopw [3] (fun i wr => ∃ (k : Nat), k ≤ 32 ∧ i = .int .i64 k ∧ wr.heap[w.heap.size]? = some (.cells (arr fun _ => 0) 47) ∧
      wr.heap[w.heap.size + 1]? = some (.cells (arr (upto (fun j => beh (1#32 <<< j)) k)) 47) ∧ Below w.heap.size w wr) (fun i _ => 32 - (intOf i).toNat)
  case atStart =>
    refine ⟨0, by omega, rfl, heap_alloc2_old _ _ _, ?_, ((Below.refl _ _).alloc (Nat.le_refl _) _).alloc (by simp) _⟩
    rw [← upto_zero]; exact heap_alloc2_new _ _ _
  case round =>
    obtain ⟨k, hk, rfl, hB, hB1, hbel⟩ := hrel
    by_cases hlt : k < 32
    · have hfro := frozen_of_row wr (w.heap.size + 1) k _ 47 hB1
      have hcell := (cell_of_row wr (w.heap.size + 1) k _ 47 (0, 0) hB1).trans (arr_get _ k hlt)
      have HB := Lib.hid hB
      have HB1 := Lib.hid hB1
      have HBel := Lib.hid hbel
      clear hB hB1 hbel
      have hone := one_spell k hlt
      go_wp2_with (go_at_call 27; refine (behind_any (1#32 <<< k) _).mono ?_; rintro e w' ⟨rfl, rfl⟩)
      go_roundw
      case rel =>
        refine ⟨k + 1, by omega, by go_num, ?_, ?_, HBel.out.setCell (by simp) _⟩
        · rw [heap_setCell_other _ _ _ _ (by simp)]; exact HB.out
        · rw [heap_setCell_same _ _ _ _ _ _ HB1.out, arr_set]; exact congrArg (fun x => some (Obj.cells x 47)) (upto_succ (fun j => beh (1#32 <<< j)) k)
      case measure => simp [intOf]; omega
    · obtain rfl : k = 32 := by omega
      have HB := Lib.hid hB
      have HB1 := Lib.hid hB1
      have HBel := Lib.hid hbel
      clear hB hB1 hbel
      have HI := Lib.hid info47
      go_wp2_with (first | ((with_reducible refine wpList_load_row rfl 47 (.tmp 1) rfl (w.heap.size + 1) ?_ 47 _ _ _ HB1.out Try.underlying47 ?_ ?_ ?_); rfl; rfl; (rw [arr_size]; exact HI.out)) | ((with_reducible refine wpList_store_row rfl 47 (.tmp 0) (.tmp 12) rfl w.heap.size (arr (upto (fun j => beh (1#32 <<< j)) 32)) ?_ ?_ 47 _ HB.out ?_ ?_ ?_ ?_); rfl; rfl; (rw [arr_size]; exact HI.out); (rw [arr_size, arr_size]); exact arr_one _))
      rw [upto_all]
      have HS := setRow_heap wr w.heap.size _ (arr fun j => beh (1#32 <<< j)) 47 (0, 0) HB.out
      exact bodyPost_ret (results_cell_row rfl _ _ w.heap.size 47 _ (0, 0) _ rfl HS Try.underlying47 rfl (by rw [arr_size]; exact HI.out)) rfl ⟨rfl, below_setRow HBel.out (Nat.le_refl _) _⟩

set_option maxRecDepth 100000 in
set_option maxHeartbeats 1600000 in
theorem squared_any (S : Nat → BitVec 32) (w : World) :
    Calls Try.prog 31 #[.agg (arr S)] w fun e w' => e = .returned (.agg (arr fun j => ofS S (S j))) ∧ Below w.heap.size w w' := by
  have HI := Lib.hid info47
  go_enter Try.func31, Try.ntmps31
  go_wp2
  rw [zeros47]
  go_loopw [5] (fun i wr => ∃ (k : Nat), k ≤ 32 ∧ i = .int .i64 k ∧ wr.heap[w.heap.size]? = some (.cells (arr S) 47) ∧ wr.heap[w.heap.size + 1]? = some (.cells (arr fun _ => 0) 47) ∧
      wr.heap[w.heap.size + 2]? = some (.cells (arr (upto (fun j => ofS S (S j)) k)) 47) ∧ Below w.heap.size w wr) (fun i _ => 32 - (intOf i).toNat)
  case atStart =>
    have h1 : ((w.alloc (.cells (arr S) 47)).alloc (.cells (arr fun _ => 0) 47)).heap.size = w.heap.size + 2 := by simp
    refine ⟨0, by omega, rfl, ?_, ?_, ?_, (((Below.refl _ _).alloc (Nat.le_refl _) _).alloc (by simp) _).alloc (by simp; omega) _⟩
    · exact alloc_row (heap_alloc2_old _ _ _) _
    · exact alloc_row (heap_alloc2_new _ _ _) _
    · rw [← upto_zero, ← h1]; exact heap_alloc_new _ _
  case round =>
    obtain ⟨k, hk, rfl, hB, hB1, hB2, hbel⟩ := hrel
    have hsz : w.heap.size + 2 < wr.heap.size := (Array.getElem?_eq_some_iff.1 hB2).1
    by_cases hlt : k < 32
    · have hfro : wr.frozen? ⟨w.heap.size + 1 + 1, k, none⟩ = false := frozen_of_row wr (w.heap.size + 2) k _ 47 hB2
      have hcell : wr.cell? ⟨w.heap.size + 1 + 1, k, none⟩ = some (.int .u32 ((upto (fun j => ofS S (S j)) k k).toNat : Int)) := (cell_of_row wr (w.heap.size + 2) k _ 47 (0, 0) hB2).trans (arr_get _ k hlt)
      have hck := (cell_of_row wr (w.heap.size) k _ 47 (0, 0) hB).trans (arr_get _ k hlt)
      have HB := Lib.hid hB
      have HB1 := Lib.hid hB1
      have HB2 := Lib.hid hB2
      have HBel := Lib.hid hbel
      clear hB hB1 hB2 hbel
      go_wp2_with fail
      refine start_ (n := 8) (S := fun w' => w'.heap[w.heap.size]? = some (.cells (arr S) 47) ∧ w'.cell? ⟨w.heap.size, k, none⟩ = some (.int .u32 ((S k).toNat : Int)) ∧ w'.cell? ⟨w.heap.size + 1 + 1, k, none⟩ = some (.int .u32 ((upto (fun j => ofS S (S j)) k k).toNat : Int)) ∧ w'.frozen? ⟨w.heap.size + 1 + 1, k, none⟩ = false) (ds := [7]) #[false, false, false, false, false, false, false, false] (by kernel_rfl) rfl rfl ⟨HB.out, hck, hcell, hfro⟩ (fun hHeld => ?_)
      refine pure_ (i := 0) (N := some 8) (v := ?_) (a' := ?_) #[true, false, false, false, false, false, false, false] rfl rfl (by kernel_rfl) (fun _ _ _ h => h) (Or.inl ⟨by rfl, ?_⟩) ?_ ?_
      rotate_left
      · intro w'
        go_simp
        with_reducible rfl
      rotate_left
      · simp only [Act.put, List.setIfInBounds_toArray, List.set_cons_zero, List.set_cons_succ, i64_w, i32_w]
        rfl
      refine pure_ (i := 2) (N := some 10) (v := ?_) (a' := ?_) #[true, false, true, false, false, false, false, false] rfl rfl (by kernel_rfl) (fun _ _ _ h => h) (Or.inl ⟨by rfl, ?_⟩) ?_ ?_
      rotate_left
      · intro w'
        go_simp
        with_reducible rfl
      rotate_left
      · simp only [Act.put, List.setIfInBounds_toArray, List.set_cons_zero, List.set_cons_succ, i64_w, i32_w]
        rfl
      refine pure_ (i := 3) (N := some 11) (v := ?_) (a' := ?_) #[true, false, true, true, false, false, false, false] rfl rfl (by kernel_rfl) (fun _ _ _ h => h) (Or.inl ⟨by rfl, ?_⟩) ?_ ?_
      rotate_left
      · intro w'
        go_simp
        with_reducible rfl
      rotate_left
      · simp only [Act.put, List.setIfInBounds_toArray, List.set_cons_zero, List.set_cons_succ, i64_w, i32_w]
        rfl
      refine take_ (i := 1) (N := some 9) (v := ?_) (a' := ?_) #[true, true, true, true, false, false, false, false] rfl rfl (by kernel_rfl) (fun _ _ _ h => h) (Or.inl ⟨by rfl, ?_⟩) hHeld ?_ ?_
      rotate_left
      · rintro w' ⟨s0, s1, s2, s3⟩
        with_reducible refine exec_load_row 47 (.tmp 1) ?_ w.heap.size ?_ 47 _ _ _ s0 Try.underlying47 ?_ ?_
        · rfl
        · rfl
        · rfl
        · rw [arr_size]; exact HI.out
      rotate_left
      · simp only [Act.put, List.setIfInBounds_toArray, List.set_cons_zero, List.set_cons_succ, i64_w, i32_w]
        rfl
      refine take_ (i := 4) (N := some 12) (v := ?_) (a' := ?_) #[true, true, true, true, true, false, false, false] rfl rfl (by kernel_rfl) (fun _ _ _ h => h) (Or.inl ⟨by rfl, ?_⟩) hHeld ?_ ?_
      rotate_left
      · rintro w' ⟨s0, s1, s2, s3⟩
        go_simp
        with_reducible rfl
      rotate_left
      · simp only [Act.put, List.setIfInBounds_toArray, List.set_cons_zero, List.set_cons_succ, i64_w, i32_w]
        rfl
      refine one_ (i := 5) (N := some 13) #[true, true, true, true, true, true, false, false] rfl rfl (by kernel_rfl) (by decide) (fun K hK => ?_)
      refine goes_ Try.func36 (by kernel_rfl) rfl #[.agg (arr S), .int .u32 ((S k).toNat : Int)] (by rfl) rfl rfl (by simp only [List.map_toArray, List.map_cons, List.map_nil]; rfl) ?_
      with_reducible refine (of_any S (S k) _).mono ?_
      rintro e w3 ⟨rfl, m, rfl⟩
      refine ⟨_, rfl, ?_⟩
      refine hK.out _ _ ⟨(alloc_row (w := wr.drew) HB.out _), (alloc_cell (w := wr.drew) hck _), (alloc_cell (w := wr.drew) hcell _), (alloc_free (w := wr.drew) hcell hfro _)⟩ (fun hHeld => ?_)
      clear hK K
      refine norm_ (a' := ?_) ?_ ?_
      rotate_left
      · show Act.put _ (some 13) _ = _
        simp only [Act.put, List.setIfInBounds_toArray, List.set_cons_zero, List.set_cons_succ, i64_w, i32_w]
        rfl
      refine pure_ (i := 6) (N := some 14) (v := ?_) (a' := ?_) #[true, true, true, true, true, true, true, false] rfl rfl (by kernel_rfl) (fun _ _ _ h => h) (Or.inl ⟨by rfl, ?_⟩) ?_ ?_
      rotate_left
      · intro w'
        go_simp
        with_reducible rfl
      rotate_left
      · simp only [Act.put, List.setIfInBounds_toArray, List.set_cons_zero, List.set_cons_succ, i64_w, i32_w]
        rfl
      refine last_ (i := 7) (N := none) #[true, true, true, true, true, true, true, true] rfl rfl (by kernel_rfl) (by decide) (fun K hK => ?_)
      refine skip_ (w1 := ?_) (by rfl) rfl ?_ ?_
      rotate_left
      · go_simp
        rfl
      refine hK.out _ _ ?_
      clear hK K
      refine done_ (by kernel_rfl) ?_
      go_wp2
      go_roundw
      case rel =>
        have hne : w.heap.size ≠ w.heap.size + 1 + 1 := by omega
        have hne1 : w.heap.size + 1 ≠ w.heap.size + 1 + 1 := by omega
        have HD2 : ((wr.alloc (Obj.cells (arr S) 47)).drewN (1 + m)).heap[w.heap.size + 1 + 1]? = _ := alloc_row HB2.out _
        refine ⟨k + 1, by omega, by go_num, ?_, ?_, ?_, ?_⟩
        · rw [heap_setCell_other _ _ _ _ hne]; exact alloc_row HB.out _
        · rw [heap_setCell_other _ _ _ _ hne1]; exact alloc_row HB1.out _
        · refine (heap_setCell_same _ _ _ _ _ _ HD2).trans ?_
          rw [arr_set]; exact congrArg (fun x => some (Obj.cells x 47)) (upto_succ (fun j => ofS S (S j)) k)
        · exact (pw_below_drewN (HBel.out.alloc (by omega) _) _).setCell (by simp; omega) _
      case measure => simp [intOf]; omega
    · obtain rfl : k = 32 := by omega
      have HB := Lib.hid hB
      have HB1 := Lib.hid hB1
      have HB2 := Lib.hid hB2
      have HBel := Lib.hid hbel
      clear hB hB1 hbel hB2
      go_wp2_with (first | ((with_reducible refine wpList_load_row rfl 47 (.tmp 3) rfl (w.heap.size + 2) ?_ 47 _ _ _ HB2.out Try.underlying47 ?_ ?_ ?_); rfl; rfl; (rw [arr_size]; exact HI.out)) | ((with_reducible refine wpList_store_row rfl 47 (.tmp 2) (.tmp 16) rfl (w.heap.size + 1) (arr (upto (fun j => ofS S (S j)) 32)) ?_ ?_ 47 _ HB1.out ?_ ?_ ?_ ?_); rfl; rfl; (rw [arr_size]; exact HI.out); (rw [arr_size, arr_size]); exact arr_one _))
      rw [upto_all]
      have HS := setRow_heap wr (w.heap.size + 1) _ (arr fun j => ofS S (S j)) 47 (0, 0) HB1.out
      exact bodyPost_ret (results_cell_row rfl _ _ (w.heap.size + 1) 47 _ (0, 0) _ rfl HS Try.underlying47 rfl (by rw [arr_size]; exact HI.out)) rfl ⟨rfl, below_setRow HBel.out (by omega) _⟩
end Go.Proofs.Ytilmjclfgjigeaa.Crc
