/- Pieces: the cutter's next, by its contract (every input). -/
import Derived.Test.YtgmjpnampjkfeaaPieA
set_option linter.unusedVariables false
set_option linter.unusedSimpArgs false
namespace Go.Proofs.Ytgmjpnampjkfeaa.Pie
open Go Go.RowKit Go.Proofs.YtgmjpnampjkfeaaW.PrintWords Go.Proofs.YtgmjpnampjkfeaaW.PrintLast Go.Proofs.YtgmjpnampjkfeaaW.PrintMore Base

theorem cell_row {w : World} {g i : Nat} {cs : Array Value} {t : TypeId} {fr : Nat × Nat} {v : Value} (h : w.heap[g]? = some (.cells cs t fr)) (hv : cs[i]? = some v) : w.cell? ⟨g, i, none⟩ = some v := by
  rw [cell_of_row w g i cs t fr h]; exact hv
theorem keep_row {w w' : World} {g : Nat} {o : Obj} (h : w.heap[g]? = some o) (hb : Below w.heap.size w w') : w'.heap[g]? = some o := (hb.block _ (Array.getElem?_eq_some_iff.1 h).1).trans h
theorem made (w : World) (cs : Array Value) (t : TypeId) : ∃ w1, w.alloc (.cells cs t) = w1 ∧ Below w.heap.size w w1 ∧ w1.heap[w.heap.size]? = some (.cells cs t) ∧ w1.heap.size = w.heap.size + 1 :=
  ⟨_, rfl, (Below.refl _ _).alloc (Nat.le_refl _) _, heap_alloc_new _ _, World.size_alloc _ _⟩
theorem sizeP (a b c d : Value) : (Try.prog.info? 31).map (·.size) = some (#[a, b, c, d]).size := by kernel_rfl
theorem oneP (a b c d : Int) : (#[Value.int .u64 a, .int .i64 b, .int .i64 c, .int .i64 d].all (·.oneCell')) = true := by simp [Value.oneCell']
theorem ret_two {f : Func} {R : Ending → World → Prop} {a : Act} {w : World} (hf : f.results = #[.cell 2 31, .tmp 3]) (g : Nat) (cs : Array Value) (fr : Nat × Nat) (hp : a.tmps.getD 2 undef = .pointer (some ⟨g, 0, none⟩)) (hg : w.heap[g]? = some (.cells cs 31 fr)) (hcs : cs.size = 4)
    (hd : a.defers = []) (hR : R (.returned (.tuple #[.agg cs, a.tmps.getD 3 undef])) w) : bodyPost Try.prog f R .ret a w := by
  have h1 := run_loadVar_row (P := Try.prog) w g 31 31 cs fr _ hg Try.underlying31 rfl (by rw [hcs]; kernel_rfl)
  have hp' : a.tmps[2]?.getD undef = .pointer (some ⟨g, 0, none⟩) := by simpa using hp
  refine bodyPost_ret (v := .tuple #[.agg cs, a.tmps.getD 3 undef]) ?_ hd hR
  simp [results, hf, hp', asAddr, h1]
set_option maxRecDepth 100000 in
set_option maxHeartbeats 1600000 in
theorem next_end (o a : Int) (g : Nat) (w : World) (hrow : w.heap[g]? = some (.cells #[.int .u64 o, .int .u64 0, .int .i64 a] 47)) :
    Calls Try.prog 26 #[.pointer (some ⟨g, 0, none⟩)] w fun e w' => e = .returned (.tuple #[.agg #[.int .u64 0, .int .i64 0, .int .i64 0, .int .i64 0], .bool false]) ∧ Below w.heap.size w w' := by
  obtain ⟨w1, hw1, b1, f1, s1⟩ := made w #[.int .u64 0, .int .i64 0, .int .i64 0, .int .i64 0] 31
  have F1 := Lib.hid f1
  have B1 := Lib.hid b1
  have c1 : w1.cell? ⟨g, 1, none⟩ = some (.int .u64 0) := cell_row (keep_row hrow b1) rfl
  clear b1 f1 s1 hrow
  go_enter Try.func26, Try.ntmps26
  go_wp2_with ((with_reducible refine wpList_store_row rfl 31 (.tmp 2) (.tmp 12) rfl w.heap.size #[.int .u64 0, .int .i64 0, .int .i64 0, .int .i64 0] ?_ ?_ 31 _ F1.out (sizeP _ _ _ _) ?_ (oneP _ _ _ _) ?_); rfl; rfl; rfl)
  exact ret_two rfl w.heap.size #[.int .u64 0, .int .i64 0, .int .i64 0, .int .i64 0] (0, 0) rfl (setRow_heap _ _ _ _ _ _ F1.out) rfl rfl ⟨rfl, below_setRow B1.out (Nat.le_refl _) _⟩
set_option maxRecDepth 100000 in
set_option maxHeartbeats 3200000 in
theorem next_ok (o m a s : Nat) (g : Nat) (w : World) (hrow : w.heap[g]? = some (.cells #[.int .u64 (o : Int), .int .u64 (m : Int), .int .i64 (a : Int)] 47)) (hm : 0 < m) (ho : o + m ≤ 4294967296) (ha : a + m ≤ 4294967296) (hs : s = min m (256 - o % 256)) :
    Calls Try.prog 26 #[.pointer (some ⟨g, 0, none⟩)] w fun e w' => e = .returned (.tuple #[.agg #[.int .u64 ((o : Int) / 256), .int .i64 ((o : Int) % 256), .int .i64 ((o : Int) % 256 + (s : Int)), .int .i64 (a : Int)], .bool true]) ∧
      w'.heap[g]? = some (.cells #[.int .u64 ((o + s : Nat) : Int), .int .u64 ((m - s : Nat) : Int), .int .i64 ((a + s : Nat) : Int)] 47) ∧ w.grownBy w' (some g) := by
  obtain ⟨w1, hw1, b1, f1, s1⟩ := made w #[.int .u64 0, .int .i64 0, .int .i64 0, .int .i64 0] 31
  have G1 := Lib.hid (keep_row hrow b1)
  have F1 := Lib.hid f1
  have B1 := Lib.hid b1
  have S1 := Lib.hid s1
  have GL := Lib.hid (show g < w.heap.size from (Array.getElem?_eq_some_iff.1 hrow).1)
  have c0 : w1.cell? ⟨g, 0, none⟩ = some (.int .u64 (o : Int)) := cell_row G1.out rfl
  have c1 : w1.cell? ⟨g, 1, none⟩ = some (.int .u64 (m : Int)) := cell_row G1.out rfl
  have d1 : ((m : Int) == 0) = false := by simp; omega
  have hom : (o : Int) + (m : Int) ≤ 4294967296 := by omega
  have ham : (a : Int) + (m : Int) ≤ 4294967296 := by omega
  have HM := Lib.hid hm
  clear b1 f1 s1 hrow
  go_enter Try.func26, Try.ntmps26
  by_cases hle : (m : Int) ≤ 256 - (o : Int) % 256
  · have hsm : s = m := by omega
    subst hsm
    have dle : decide ((s : Int) ≤ 256 - (o : Int) % 256) = true := decide_eq_true hle
    have HS := Lib.hid hs
    clear hs hm
    have v1 : IntKind.u64.wrap ((o : Int) / 256) = (o : Int) / 256 := by rw [wrap_u64]; omega
    have v2 : wrap64 ((o : Int) % 256) = (o : Int) % 256 := by unfold wrap64; omega
    have v3 : IntKind.u64.wrap ((o : Int) % 256 + (s : Int)) = (o : Int) % 256 + (s : Int) := by rw [wrap_u64]; omega
    have v4 : wrap64 ((o : Int) % 256 + (s : Int)) = (o : Int) % 256 + (s : Int) := by unfold wrap64; omega
    go_wp2_with fail
    refine start_ (n := 18) (S := fun w' => w'.cell? ⟨g, 0, none⟩ = some (.int .u64 (o : Int)) ∧ w'.cell? ⟨g, 2, none⟩ = some (.int .i64 (a : Int))) (ds := [17]) #[false, false, false, false, false, false, false, false, false, false, false, false, false, false, false, false, false, false] (by kernel_rfl) rfl rfl ⟨cell_row G1.out rfl, cell_row G1.out rfl⟩ (fun hHeld => ?_)
    refine pure_ (i := 0) (N := some 25) (v := ?_) (a' := ?_) #[true, false, false, false, false, false, false, false, false, false, false, false, false, false, false, false, false, false] rfl rfl (by kernel_rfl) (fun _ _ _ h => h) (Or.inl ⟨by rfl, ?_⟩) ?_ ?_
    rotate_left
    · intro w'
      go_simp
      with_reducible rfl
    rotate_left
    · simp only [Act.put, List.setIfInBounds_toArray, List.set_cons_zero, List.set_cons_succ, i64_w, i32_w]
      rfl
    refine pure_ (i := 1) (N := some 26) (v := ?_) (a' := ?_) #[true, true, false, false, false, false, false, false, false, false, false, false, false, false, false, false, false, false] rfl rfl (by kernel_rfl) (fun _ _ _ h => h) (Or.inl ⟨by rfl, ?_⟩) ?_ ?_
    rotate_left
    · intro w'
      go_simp
      with_reducible rfl
    rotate_left
    · simp only [Act.put, List.setIfInBounds_toArray, List.set_cons_zero, List.set_cons_succ, i64_w, i32_w]
      rfl
    refine pure_ (i := 2) (N := some 27) (v := ?_) (a' := ?_) #[true, true, true, false, false, false, false, false, false, false, false, false, false, false, false, false, false, false] rfl rfl (by kernel_rfl) (fun _ _ _ h => h) (Or.inl ⟨by rfl, ?_⟩) ?_ ?_
    rotate_left
    · intro w'
      go_simp
      with_reducible rfl
    rotate_left
    · simp only [Act.put, List.setIfInBounds_toArray, List.set_cons_zero, List.set_cons_succ, i64_w, i32_w]
      rfl
    refine pure_ (i := 5) (N := some 30) (v := ?_) (a' := ?_) #[true, true, true, false, false, true, false, false, false, false, false, false, false, false, false, false, false, false] rfl rfl (by kernel_rfl) (fun _ _ _ h => h) (Or.inl ⟨by rfl, ?_⟩) ?_ ?_
    rotate_left
    · intro w'
      go_simp
      with_reducible rfl
    rotate_left
    · simp only [Act.put, List.setIfInBounds_toArray, List.set_cons_zero, List.set_cons_succ, i64_w, i32_w]
      rfl
    refine pure_ (i := 6) (N := some 31) (v := ?_) (a' := ?_) #[true, true, true, false, false, true, true, false, false, false, false, false, false, false, false, false, false, false] rfl rfl (by kernel_rfl) (fun _ _ _ h => h) (Or.inl ⟨by rfl, ?_⟩) ?_ ?_
    rotate_left
    · intro w'
      go_simp
      with_reducible rfl
    rotate_left
    · simp only [Act.put, List.setIfInBounds_toArray, List.set_cons_zero, List.set_cons_succ, i64_w, i32_w]
      rfl
    refine pure_ (i := 7) (N := some 32) (v := ?_) (a' := ?_) #[true, true, true, false, false, true, true, true, false, false, false, false, false, false, false, false, false, false] rfl rfl (by kernel_rfl) (fun _ _ _ h => h) (Or.inl ⟨by rfl, ?_⟩) ?_ ?_
    rotate_left
    · intro w'
      go_simp
      with_reducible rfl
    rotate_left
    · simp only [Act.put, List.setIfInBounds_toArray, List.set_cons_zero, List.set_cons_succ, i64_w, i32_w]
      rfl
    refine pure_ (i := 8) (N := some 33) (v := ?_) (a' := ?_) #[true, true, true, false, false, true, true, true, true, false, false, false, false, false, false, false, false, false] rfl rfl (by kernel_rfl) (fun _ _ _ h => h) (Or.inl ⟨by rfl, ?_⟩) ?_ ?_
    rotate_left
    · intro w'
      go_simp
      with_reducible rfl
    rotate_left
    · simp only [Act.put, List.setIfInBounds_toArray, List.set_cons_zero, List.set_cons_succ, i64_w, i32_w]
      rfl
    refine pure_ (i := 9) (N := some 34) (v := ?_) (a' := ?_) #[true, true, true, false, false, true, true, true, true, true, false, false, false, false, false, false, false, false] rfl rfl (by kernel_rfl) (fun _ _ _ h => h) (Or.inl ⟨by rfl, ?_⟩) ?_ ?_
    rotate_left
    · intro w'
      go_simp
      with_reducible rfl
    rotate_left
    · simp only [Act.put, List.setIfInBounds_toArray, List.set_cons_zero, List.set_cons_succ, i64_w, i32_w]
      rfl
    refine pure_ (i := 10) (N := some 35) (v := ?_) (a' := ?_) #[true, true, true, false, false, true, true, true, true, true, true, false, false, false, false, false, false, false] rfl rfl (by kernel_rfl) (fun _ _ _ h => h) (Or.inl ⟨by rfl, ?_⟩) ?_ ?_
    rotate_left
    · intro w'
      go_simp
      with_reducible rfl
    rotate_left
    · simp only [Act.put, List.setIfInBounds_toArray, List.set_cons_zero, List.set_cons_succ, i64_w, i32_w]
      rfl
    refine pure_ (i := 11) (N := some 36) (v := ?_) (a' := ?_) #[true, true, true, false, false, true, true, true, true, true, true, true, false, false, false, false, false, false] rfl rfl (by kernel_rfl) (fun _ _ _ h => h) (Or.inl ⟨by rfl, ?_⟩) ?_ ?_
    rotate_left
    · intro w'
      go_simp
      with_reducible rfl
    rotate_left
    · simp only [Act.put, List.setIfInBounds_toArray, List.set_cons_zero, List.set_cons_succ, i64_w, i32_w]
      rfl
    refine pure_ (i := 12) (N := some 37) (v := ?_) (a' := ?_) #[true, true, true, false, false, true, true, true, true, true, true, true, true, false, false, false, false, false] rfl rfl (by kernel_rfl) (fun _ _ _ h => h) (Or.inl ⟨by rfl, ?_⟩) ?_ ?_
    rotate_left
    · intro w'
      go_simp
      with_reducible rfl
    rotate_left
    · simp only [Act.put, List.setIfInBounds_toArray, List.set_cons_zero, List.set_cons_succ, i64_w, i32_w]
      rfl
    refine pure_ (i := 13) (N := some 38) (v := ?_) (a' := ?_) #[true, true, true, false, false, true, true, true, true, true, true, true, true, true, false, false, false, false] rfl rfl (by kernel_rfl) (fun _ _ _ h => h) (Or.inl ⟨by rfl, ?_⟩) ?_ ?_
    rotate_left
    · intro w'
      go_simp
      with_reducible rfl
    rotate_left
    · simp only [Act.put, List.setIfInBounds_toArray, List.set_cons_zero, List.set_cons_succ, i64_w, i32_w]
      rfl
    refine take_ (i := 3) (N := some 28) (v := ?_) (a' := ?_) #[true, true, true, true, false, true, true, true, true, true, true, true, true, true, false, false, false, false] rfl rfl (by kernel_rfl) (fun _ _ _ h => h) (Or.inl ⟨by rfl, ?_⟩) hHeld ?_ ?_
    rotate_left
    · rintro w' ⟨s0, s1⟩
      go_simp
      with_reducible rfl
    rotate_left
    · simp only [Act.put, List.setIfInBounds_toArray, List.set_cons_zero, List.set_cons_succ, i64_w, i32_w]
      rfl
    refine pure_ (i := 4) (N := some 29) (v := ?_) (a' := ?_) #[true, true, true, true, true, true, true, true, true, true, true, true, true, true, false, false, false, false] rfl rfl (by kernel_rfl) (fun _ _ _ h => h) (Or.inl ⟨by rfl, ?_⟩) ?_ ?_
    rotate_left
    · intro w'
      go_simp
      with_reducible rfl
    rotate_left
    · simp only [Act.put, List.setIfInBounds_toArray, List.set_cons_zero, List.set_cons_succ, i64_w, i32_w]
      rfl
    refine take_ (i := 14) (N := some 39) (v := ?_) (a' := ?_) #[true, true, true, true, true, true, true, true, true, true, true, true, true, true, true, false, false, false] rfl rfl (by kernel_rfl) (fun _ _ _ h => h) (Or.inl ⟨by rfl, ?_⟩) hHeld ?_ ?_
    rotate_left
    · rintro w' ⟨s0, s1⟩
      go_simp
      with_reducible rfl
    rotate_left
    · simp only [Act.put, List.setIfInBounds_toArray, List.set_cons_zero, List.set_cons_succ, i64_w, i32_w]
      rfl
    refine pure_ (i := 15) (N := some 40) (v := ?_) (a' := ?_) #[true, true, true, true, true, true, true, true, true, true, true, true, true, true, true, true, false, false] rfl rfl (by kernel_rfl) (fun _ _ _ h => h) (Or.inl ⟨by rfl, ?_⟩) ?_ ?_
    rotate_left
    · intro w'
      go_simp
      with_reducible rfl
    rotate_left
    · simp only [Act.put, List.setIfInBounds_toArray, List.set_cons_zero, List.set_cons_succ, i64_w, i32_w]
      rfl
    refine one_ (i := 16) (N := some 6) #[true, true, true, true, true, true, true, true, true, true, true, true, true, true, true, true, true, false] rfl rfl (by kernel_rfl) (by decide) (fun K hK => ?_)
    refine value_ (w1 := ?_) (v := ?_) (by rfl) rfl ?_ ?_
    rotate_left 2
    · go_simp
      constructor
      · rfl
      · rfl
    refine hK.out _ _ ⟨alloc_cell hHeld.1 _, alloc_cell hHeld.2 _⟩ (fun hHeld => ?_)
    clear hK K
    refine norm_ (a' := ?_) ?_ ?_
    rotate_left
    · show Act.put _ (some 6) _ = _
      simp only [Act.put, List.setIfInBounds_toArray, List.set_cons_zero, List.set_cons_succ, i64_w, i32_w]
      rfl
    refine last_ (i := 17) (N := none) #[true, true, true, true, true, true, true, true, true, true, true, true, true, true, true, true, true, true] rfl rfl (by kernel_rfl) (by decide) (fun K hK => ?_)
    refine skip_ (w1 := (w1.drew.alloc (.cells #[.int .u64 0, .int .i64 0, .int .i64 0, .int .i64 0] 31)).setRow w1.heap.size #[.int .u64 ((o : Int) / 256), .int .i64 ((o : Int) % 256), .int .i64 ((o : Int) % 256 + (s : Int)), .int .i64 (a : Int)]) (by rfl) rfl (exec_store_row 31 _ _ rfl w1.heap.size #[.int .u64 ((o : Int) / 256), .int .i64 ((o : Int) % 256), .int .i64 ((o : Int) % 256 + (s : Int)), .int .i64 (a : Int)] (by rfl) (by rfl) 31 _ (heap_alloc_new _ _) (sizeP _ _ _ _) rfl (oneP _ _ _ _)) ?_
    obtain ⟨w4, hw4⟩ : ∃ w4, w4 = (w1.drew.alloc (.cells #[.int .u64 0, .int .i64 0, .int .i64 0, .int .i64 0] 31)).setRow w1.heap.size #[.int .u64 ((o : Int) / 256), .int .i64 ((o : Int) % 256), .int .i64 ((o : Int) % 256 + (s : Int)), .int .i64 (a : Int)] := ⟨_, rfl⟩
    rw [← hw4]
    have HW4 := Lib.hid hw4
    clear hw4
    refine hK.out _ _ ?_
    clear hK K
    refine done_ (by kernel_rfl) ?_
    have hgl : g ≠ w1.heap.size := by have := GL.out; have := S1.out; omega
    have hgw : g ≠ w.heap.size := by have := GL.out; omega
    have p4 : w4.heap[w1.heap.size]? = some (.cells #[.int .u64 ((o : Int) / 256), .int .i64 ((o : Int) % 256), .int .i64 ((o : Int) % 256 + (s : Int)), .int .i64 (a : Int)] 31 (0, 0)) := by
      rw [HW4.out]; exact setRow_heap _ _ _ _ _ _ (heap_alloc_new w1.drew _)
    have g4 : w4.heap[g]? = some (.cells #[.int .u64 (o : Int), .int .u64 (s : Int), .int .i64 (a : Int)] 47) := by
      rw [HW4.out, setRow_other _ _ _ _ hgl]; exact alloc_row G1.out _
    have r4 : w4.heap[w.heap.size]? = some (.cells #[.int .u64 0, .int .i64 0, .int .i64 0, .int .i64 0] 31) := by
      rw [HW4.out, setRow_other _ _ _ _ (by have := S1.out; omega)]; exact alloc_row F1.out _
    have b4 : Below w.heap.size w w4 := by
      rw [HW4.out]; exact below_setRow ((below_drew B1.out).alloc (below_drew B1.out).size _) B1.out.size _
    obtain ⟨w5, hw5⟩ : ∃ w5, w4.setCell ⟨g, 0, none⟩ (.int .u64 ((o : Int) + (s : Int))) = w5 := ⟨_, rfl⟩
    obtain ⟨w6, hw6⟩ : ∃ w6, w5.setCell ⟨g, 1, none⟩ (.int .u64 0) = w6 := ⟨_, rfl⟩
    obtain ⟨w7, hw7⟩ : ∃ w7, w6.setCell ⟨g, 2, none⟩ (.int .i64 ((a : Int) + (s : Int))) = w7 := ⟨_, rfl⟩
    have g5 : w5.heap[g]? = some (.cells #[.int .u64 ((o : Int) + (s : Int)), .int .u64 (s : Int), .int .i64 (a : Int)] 47) := by rw [← hw5]; exact blk_put g4 0 _ rfl
    have g6 : w6.heap[g]? = some (.cells #[.int .u64 ((o : Int) + (s : Int)), .int .u64 0, .int .i64 (a : Int)] 47) := by rw [← hw6]; exact blk_put g5 1 _ rfl
    have g7 : w7.heap[g]? = some (.cells #[.int .u64 ((o : Int) + (s : Int)), .int .u64 0, .int .i64 ((a : Int) + (s : Int))] 47) := by rw [← hw7]; exact blk_put g6 2 _ rfl
    have x0 : w4.cell? ⟨g, 0, none⟩ = some (.int .u64 (o : Int)) := cell_row g4 rfl
    have y0 : w4.frozen? ⟨g, 0, none⟩ = false := blk_frozen g4 0
    have x1 : w5.cell? ⟨g, 1, none⟩ = some (.int .u64 (s : Int)) := cell_row g5 rfl
    have y1 : w5.frozen? ⟨g, 1, none⟩ = false := blk_frozen g5 1
    have x2 : w6.cell? ⟨g, 2, none⟩ = some (.int .i64 (a : Int)) := cell_row g6 rfl
    have y2 : w6.frozen? ⟨g, 2, none⟩ = false := blk_frozen g6 2
    have P7 := Lib.hid (show w7.heap[w1.heap.size]? = some (.cells #[.int .u64 ((o : Int) / 256), .int .i64 ((o : Int) % 256), .int .i64 ((o : Int) % 256 + (s : Int)), .int .i64 (a : Int)] 31) by rw [← hw7, ← hw6, ← hw5]; exact blk_far (blk_far (blk_far p4 (Ne.symm hgl) _) (Ne.symm hgl) _) (Ne.symm hgl) _)
    have R7 := Lib.hid (show w7.heap[w.heap.size]? = some (.cells #[.int .u64 0, .int .i64 0, .int .i64 0, .int .i64 0] 31) by rw [← hw7, ← hw6, ← hw5]; exact blk_far (blk_far (blk_far r4 (Ne.symm hgw) _) (Ne.symm hgw) _) (Ne.symm hgw) _)
    have G7 := Lib.hid g7
    have K7 := Lib.hid (show w.grownBy w7 (some g) by
      rw [← hw7, ← hw6, ← hw5]
      refine ⟨b4.os, b4.tape, b4.output, by rw [World.size_setCell, World.size_setCell, World.size_setCell]; exact b4.size, fun k hk hne => ?_⟩
      have hkg : k ≠ g := fun h => hne (by rw [h])
      rw [Below.heap_setCell _ _ _ _ (by exact hkg), Below.heap_setCell _ _ _ _ (by exact hkg), Below.heap_setCell _ _ _ _ (by exact hkg)]
      exact b4.block k hk)
    clear p4 g4 r4 b4 g5 g6 g7 hgl c0 c1
    go_wp2_with (first | ((with_reducible refine wpList_load_row rfl 31 (.tmp 6) rfl w1.heap.size ?_ 31 _ _ _ P7.out Try.underlying31 ?_ (sizeP _ _ _ _) ?_); rfl; rfl) | ((with_reducible refine wpList_store_row rfl 31 (.tmp 2) (.tmp 66) rfl w.heap.size #[.int .u64 ((o : Int) / 256), .int .i64 ((o : Int) % 256), .int .i64 ((o : Int) % 256 + (s : Int)), .int .i64 (a : Int)] ?_ ?_ 31 _ R7.out (sizeP _ _ _ _) ?_ (oneP _ _ _ _) ?_); rfl; rfl; rfl))
    refine ret_two rfl w.heap.size #[.int .u64 ((o : Int) / 256), .int .i64 ((o : Int) % 256), .int .i64 ((o : Int) % 256 + (s : Int)), .int .i64 (a : Int)] (0, 0) rfl (setRow_heap _ _ _ _ _ _ R7.out) rfl rfl ⟨rfl, ?_, ?_⟩
    · rw [setRow_other _ _ _ _ hgw]
      have h := G7.out
      simpa [Nat.sub_self] using h
    · refine ⟨K7.out.os, K7.out.tape, K7.out.output, by simp only [World.setRow, Array.size_modify]; exact K7.out.size, fun k hk hne => ?_⟩
      rw [setRow_other _ _ _ _ (by omega)]
      exact K7.out.block k hk hne
  · have hse : 256 - (o : Int) % 256 = (s : Int) := by omega
    have dle : decide ((m : Int) ≤ (s : Int)) = false := decide_eq_false (by omega)
    have hsm : (s : Int) < (m : Int) := by omega
    have hnle : ¬ (m : Int) ≤ (s : Int) := by omega
    have hs256 : (s : Int) ≤ 256 := by omega
    have HS := Lib.hid hs
    clear hs hle hm
    have v1 : IntKind.u64.wrap ((o : Int) / 256) = (o : Int) / 256 := by rw [wrap_u64]; omega
    have v2 : wrap64 ((o : Int) % 256) = (o : Int) % 256 := by unfold wrap64; omega
    have v3 : IntKind.u64.wrap ((o : Int) % 256 + (s : Int)) = (o : Int) % 256 + (s : Int) := by rw [wrap_u64]; omega
    have v4 : wrap64 ((o : Int) % 256 + (s : Int)) = (o : Int) % 256 + (s : Int) := by unfold wrap64; omega
    go_wp2_with fail
    refine start_ (n := 18) (S := fun w' => w'.cell? ⟨g, 0, none⟩ = some (.int .u64 (o : Int)) ∧ w'.cell? ⟨g, 2, none⟩ = some (.int .i64 (a : Int))) (ds := [17]) #[false, false, false, false, false, false, false, false, false, false, false, false, false, false, false, false, false, false] (by kernel_rfl) rfl rfl ⟨cell_row G1.out rfl, cell_row G1.out rfl⟩ (fun hHeld => ?_)
    refine pure_ (i := 0) (N := some 25) (v := ?_) (a' := ?_) #[true, false, false, false, false, false, false, false, false, false, false, false, false, false, false, false, false, false] rfl rfl (by kernel_rfl) (fun _ _ _ h => h) (Or.inl ⟨by rfl, ?_⟩) ?_ ?_
    rotate_left
    · intro w'
      go_simp
      with_reducible rfl
    rotate_left
    · simp only [Act.put, List.setIfInBounds_toArray, List.set_cons_zero, List.set_cons_succ, i64_w, i32_w]
      rfl
    refine pure_ (i := 1) (N := some 26) (v := ?_) (a' := ?_) #[true, true, false, false, false, false, false, false, false, false, false, false, false, false, false, false, false, false] rfl rfl (by kernel_rfl) (fun _ _ _ h => h) (Or.inl ⟨by rfl, ?_⟩) ?_ ?_
    rotate_left
    · intro w'
      go_simp
      with_reducible rfl
    rotate_left
    · simp only [Act.put, List.setIfInBounds_toArray, List.set_cons_zero, List.set_cons_succ, i64_w, i32_w]
      rfl
    refine pure_ (i := 2) (N := some 27) (v := ?_) (a' := ?_) #[true, true, true, false, false, false, false, false, false, false, false, false, false, false, false, false, false, false] rfl rfl (by kernel_rfl) (fun _ _ _ h => h) (Or.inl ⟨by rfl, ?_⟩) ?_ ?_
    rotate_left
    · intro w'
      go_simp
      with_reducible rfl
    rotate_left
    · simp only [Act.put, List.setIfInBounds_toArray, List.set_cons_zero, List.set_cons_succ, i64_w, i32_w]
      rfl
    refine pure_ (i := 5) (N := some 30) (v := ?_) (a' := ?_) #[true, true, true, false, false, true, false, false, false, false, false, false, false, false, false, false, false, false] rfl rfl (by kernel_rfl) (fun _ _ _ h => h) (Or.inl ⟨by rfl, ?_⟩) ?_ ?_
    rotate_left
    · intro w'
      go_simp
      with_reducible rfl
    rotate_left
    · simp only [Act.put, List.setIfInBounds_toArray, List.set_cons_zero, List.set_cons_succ, i64_w, i32_w]
      rfl
    refine pure_ (i := 6) (N := some 31) (v := ?_) (a' := ?_) #[true, true, true, false, false, true, true, false, false, false, false, false, false, false, false, false, false, false] rfl rfl (by kernel_rfl) (fun _ _ _ h => h) (Or.inl ⟨by rfl, ?_⟩) ?_ ?_
    rotate_left
    · intro w'
      go_simp
      with_reducible rfl
    rotate_left
    · simp only [Act.put, List.setIfInBounds_toArray, List.set_cons_zero, List.set_cons_succ, i64_w, i32_w]
      rfl
    refine pure_ (i := 7) (N := some 32) (v := ?_) (a' := ?_) #[true, true, true, false, false, true, true, true, false, false, false, false, false, false, false, false, false, false] rfl rfl (by kernel_rfl) (fun _ _ _ h => h) (Or.inl ⟨by rfl, ?_⟩) ?_ ?_
    rotate_left
    · intro w'
      go_simp
      with_reducible rfl
    rotate_left
    · simp only [Act.put, List.setIfInBounds_toArray, List.set_cons_zero, List.set_cons_succ, i64_w, i32_w]
      rfl
    refine pure_ (i := 8) (N := some 33) (v := ?_) (a' := ?_) #[true, true, true, false, false, true, true, true, true, false, false, false, false, false, false, false, false, false] rfl rfl (by kernel_rfl) (fun _ _ _ h => h) (Or.inl ⟨by rfl, ?_⟩) ?_ ?_
    rotate_left
    · intro w'
      go_simp
      with_reducible rfl
    rotate_left
    · simp only [Act.put, List.setIfInBounds_toArray, List.set_cons_zero, List.set_cons_succ, i64_w, i32_w]
      rfl
    refine pure_ (i := 9) (N := some 34) (v := ?_) (a' := ?_) #[true, true, true, false, false, true, true, true, true, true, false, false, false, false, false, false, false, false] rfl rfl (by kernel_rfl) (fun _ _ _ h => h) (Or.inl ⟨by rfl, ?_⟩) ?_ ?_
    rotate_left
    · intro w'
      go_simp
      with_reducible rfl
    rotate_left
    · simp only [Act.put, List.setIfInBounds_toArray, List.set_cons_zero, List.set_cons_succ, i64_w, i32_w]
      rfl
    refine pure_ (i := 10) (N := some 35) (v := ?_) (a' := ?_) #[true, true, true, false, false, true, true, true, true, true, true, false, false, false, false, false, false, false] rfl rfl (by kernel_rfl) (fun _ _ _ h => h) (Or.inl ⟨by rfl, ?_⟩) ?_ ?_
    rotate_left
    · intro w'
      go_simp
      with_reducible rfl
    rotate_left
    · simp only [Act.put, List.setIfInBounds_toArray, List.set_cons_zero, List.set_cons_succ, i64_w, i32_w]
      rfl
    refine pure_ (i := 11) (N := some 36) (v := ?_) (a' := ?_) #[true, true, true, false, false, true, true, true, true, true, true, true, false, false, false, false, false, false] rfl rfl (by kernel_rfl) (fun _ _ _ h => h) (Or.inl ⟨by rfl, ?_⟩) ?_ ?_
    rotate_left
    · intro w'
      go_simp
      with_reducible rfl
    rotate_left
    · simp only [Act.put, List.setIfInBounds_toArray, List.set_cons_zero, List.set_cons_succ, i64_w, i32_w]
      rfl
    refine pure_ (i := 12) (N := some 37) (v := ?_) (a' := ?_) #[true, true, true, false, false, true, true, true, true, true, true, true, true, false, false, false, false, false] rfl rfl (by kernel_rfl) (fun _ _ _ h => h) (Or.inl ⟨by rfl, ?_⟩) ?_ ?_
    rotate_left
    · intro w'
      go_simp
      with_reducible rfl
    rotate_left
    · simp only [Act.put, List.setIfInBounds_toArray, List.set_cons_zero, List.set_cons_succ, i64_w, i32_w]
      rfl
    refine pure_ (i := 13) (N := some 38) (v := ?_) (a' := ?_) #[true, true, true, false, false, true, true, true, true, true, true, true, true, true, false, false, false, false] rfl rfl (by kernel_rfl) (fun _ _ _ h => h) (Or.inl ⟨by rfl, ?_⟩) ?_ ?_
    rotate_left
    · intro w'
      go_simp
      with_reducible rfl
    rotate_left
    · simp only [Act.put, List.setIfInBounds_toArray, List.set_cons_zero, List.set_cons_succ, i64_w, i32_w]
      rfl
    refine take_ (i := 3) (N := some 28) (v := ?_) (a' := ?_) #[true, true, true, true, false, true, true, true, true, true, true, true, true, true, false, false, false, false] rfl rfl (by kernel_rfl) (fun _ _ _ h => h) (Or.inl ⟨by rfl, ?_⟩) hHeld ?_ ?_
    rotate_left
    · rintro w' ⟨s0, s1⟩
      go_simp
      with_reducible rfl
    rotate_left
    · simp only [Act.put, List.setIfInBounds_toArray, List.set_cons_zero, List.set_cons_succ, i64_w, i32_w]
      rfl
    refine pure_ (i := 4) (N := some 29) (v := ?_) (a' := ?_) #[true, true, true, true, true, true, true, true, true, true, true, true, true, true, false, false, false, false] rfl rfl (by kernel_rfl) (fun _ _ _ h => h) (Or.inl ⟨by rfl, ?_⟩) ?_ ?_
    rotate_left
    · intro w'
      go_simp
      with_reducible rfl
    rotate_left
    · simp only [Act.put, List.setIfInBounds_toArray, List.set_cons_zero, List.set_cons_succ, i64_w, i32_w]
      rfl
    refine take_ (i := 14) (N := some 39) (v := ?_) (a' := ?_) #[true, true, true, true, true, true, true, true, true, true, true, true, true, true, true, false, false, false] rfl rfl (by kernel_rfl) (fun _ _ _ h => h) (Or.inl ⟨by rfl, ?_⟩) hHeld ?_ ?_
    rotate_left
    · rintro w' ⟨s0, s1⟩
      go_simp
      with_reducible rfl
    rotate_left
    · simp only [Act.put, List.setIfInBounds_toArray, List.set_cons_zero, List.set_cons_succ, i64_w, i32_w]
      rfl
    refine pure_ (i := 15) (N := some 40) (v := ?_) (a' := ?_) #[true, true, true, true, true, true, true, true, true, true, true, true, true, true, true, true, false, false] rfl rfl (by kernel_rfl) (fun _ _ _ h => h) (Or.inl ⟨by rfl, ?_⟩) ?_ ?_
    rotate_left
    · intro w'
      go_simp
      with_reducible rfl
    rotate_left
    · simp only [Act.put, List.setIfInBounds_toArray, List.set_cons_zero, List.set_cons_succ, i64_w, i32_w]
      rfl
    refine one_ (i := 16) (N := some 6) #[true, true, true, true, true, true, true, true, true, true, true, true, true, true, true, true, true, false] rfl rfl (by kernel_rfl) (by decide) (fun K hK => ?_)
    refine value_ (w1 := ?_) (v := ?_) (by rfl) rfl ?_ ?_
    rotate_left 2
    · go_simp
      constructor
      · rfl
      · rfl
    refine hK.out _ _ ⟨alloc_cell hHeld.1 _, alloc_cell hHeld.2 _⟩ (fun hHeld => ?_)
    clear hK K
    refine norm_ (a' := ?_) ?_ ?_
    rotate_left
    · show Act.put _ (some 6) _ = _
      simp only [Act.put, List.setIfInBounds_toArray, List.set_cons_zero, List.set_cons_succ, i64_w, i32_w]
      rfl
    refine last_ (i := 17) (N := none) #[true, true, true, true, true, true, true, true, true, true, true, true, true, true, true, true, true, true] rfl rfl (by kernel_rfl) (by decide) (fun K hK => ?_)
    refine skip_ (w1 := (w1.drew.alloc (.cells #[.int .u64 0, .int .i64 0, .int .i64 0, .int .i64 0] 31)).setRow w1.heap.size #[.int .u64 ((o : Int) / 256), .int .i64 ((o : Int) % 256), .int .i64 ((o : Int) % 256 + (s : Int)), .int .i64 (a : Int)]) (by rfl) rfl (exec_store_row 31 _ _ rfl w1.heap.size #[.int .u64 ((o : Int) / 256), .int .i64 ((o : Int) % 256), .int .i64 ((o : Int) % 256 + (s : Int)), .int .i64 (a : Int)] (by rfl) (by rfl) 31 _ (heap_alloc_new _ _) (sizeP _ _ _ _) rfl (oneP _ _ _ _)) ?_
    obtain ⟨w4, hw4⟩ : ∃ w4, w4 = (w1.drew.alloc (.cells #[.int .u64 0, .int .i64 0, .int .i64 0, .int .i64 0] 31)).setRow w1.heap.size #[.int .u64 ((o : Int) / 256), .int .i64 ((o : Int) % 256), .int .i64 ((o : Int) % 256 + (s : Int)), .int .i64 (a : Int)] := ⟨_, rfl⟩
    rw [← hw4]
    have HW4 := Lib.hid hw4
    clear hw4
    refine hK.out _ _ ?_
    clear hK K
    refine done_ (by kernel_rfl) ?_
    have hgl : g ≠ w1.heap.size := by have := GL.out; have := S1.out; omega
    have hgw : g ≠ w.heap.size := by have := GL.out; omega
    have p4 : w4.heap[w1.heap.size]? = some (.cells #[.int .u64 ((o : Int) / 256), .int .i64 ((o : Int) % 256), .int .i64 ((o : Int) % 256 + (s : Int)), .int .i64 (a : Int)] 31 (0, 0)) := by
      rw [HW4.out]; exact setRow_heap _ _ _ _ _ _ (heap_alloc_new w1.drew _)
    have g4 : w4.heap[g]? = some (.cells #[.int .u64 (o : Int), .int .u64 (m : Int), .int .i64 (a : Int)] 47) := by
      rw [HW4.out, setRow_other _ _ _ _ hgl]; exact alloc_row G1.out _
    have r4 : w4.heap[w.heap.size]? = some (.cells #[.int .u64 0, .int .i64 0, .int .i64 0, .int .i64 0] 31) := by
      rw [HW4.out, setRow_other _ _ _ _ (by have := S1.out; omega)]; exact alloc_row F1.out _
    have b4 : Below w.heap.size w w4 := by
      rw [HW4.out]; exact below_setRow ((below_drew B1.out).alloc (below_drew B1.out).size _) B1.out.size _
    obtain ⟨w5, hw5⟩ : ∃ w5, w4.setCell ⟨g, 0, none⟩ (.int .u64 ((o : Int) + (s : Int))) = w5 := ⟨_, rfl⟩
    obtain ⟨w6, hw6⟩ : ∃ w6, w5.setCell ⟨g, 1, none⟩ (.int .u64 ((m : Int) - (s : Int))) = w6 := ⟨_, rfl⟩
    obtain ⟨w7, hw7⟩ : ∃ w7, w6.setCell ⟨g, 2, none⟩ (.int .i64 ((a : Int) + (s : Int))) = w7 := ⟨_, rfl⟩
    have g5 : w5.heap[g]? = some (.cells #[.int .u64 ((o : Int) + (s : Int)), .int .u64 (m : Int), .int .i64 (a : Int)] 47) := by rw [← hw5]; exact blk_put g4 0 _ rfl
    have g6 : w6.heap[g]? = some (.cells #[.int .u64 ((o : Int) + (s : Int)), .int .u64 ((m : Int) - (s : Int)), .int .i64 (a : Int)] 47) := by rw [← hw6]; exact blk_put g5 1 _ rfl
    have g7 : w7.heap[g]? = some (.cells #[.int .u64 ((o : Int) + (s : Int)), .int .u64 ((m : Int) - (s : Int)), .int .i64 ((a : Int) + (s : Int))] 47) := by rw [← hw7]; exact blk_put g6 2 _ rfl
    have x0 : w4.cell? ⟨g, 0, none⟩ = some (.int .u64 (o : Int)) := cell_row g4 rfl
    have y0 : w4.frozen? ⟨g, 0, none⟩ = false := blk_frozen g4 0
    have x1 : w5.cell? ⟨g, 1, none⟩ = some (.int .u64 (m : Int)) := cell_row g5 rfl
    have y1 : w5.frozen? ⟨g, 1, none⟩ = false := blk_frozen g5 1
    have x2 : w6.cell? ⟨g, 2, none⟩ = some (.int .i64 (a : Int)) := cell_row g6 rfl
    have y2 : w6.frozen? ⟨g, 2, none⟩ = false := blk_frozen g6 2
    have P7 := Lib.hid (show w7.heap[w1.heap.size]? = some (.cells #[.int .u64 ((o : Int) / 256), .int .i64 ((o : Int) % 256), .int .i64 ((o : Int) % 256 + (s : Int)), .int .i64 (a : Int)] 31) by rw [← hw7, ← hw6, ← hw5]; exact blk_far (blk_far (blk_far p4 (Ne.symm hgl) _) (Ne.symm hgl) _) (Ne.symm hgl) _)
    have R7 := Lib.hid (show w7.heap[w.heap.size]? = some (.cells #[.int .u64 0, .int .i64 0, .int .i64 0, .int .i64 0] 31) by rw [← hw7, ← hw6, ← hw5]; exact blk_far (blk_far (blk_far r4 (Ne.symm hgw) _) (Ne.symm hgw) _) (Ne.symm hgw) _)
    have G7 := Lib.hid g7
    have K7 := Lib.hid (show w.grownBy w7 (some g) by
      rw [← hw7, ← hw6, ← hw5]
      refine ⟨b4.os, b4.tape, b4.output, by rw [World.size_setCell, World.size_setCell, World.size_setCell]; exact b4.size, fun k hk hne => ?_⟩
      have hkg : k ≠ g := fun h => hne (by rw [h])
      rw [Below.heap_setCell _ _ _ _ (by exact hkg), Below.heap_setCell _ _ _ _ (by exact hkg), Below.heap_setCell _ _ _ _ (by exact hkg)]
      exact b4.block k hk)
    clear p4 g4 r4 b4 g5 g6 g7 hgl c0 c1
    go_wp2_with (first | ((with_reducible refine wpList_load_row rfl 31 (.tmp 6) rfl w1.heap.size ?_ 31 _ _ _ P7.out Try.underlying31 ?_ (sizeP _ _ _ _) ?_); rfl; rfl) | ((with_reducible refine wpList_store_row rfl 31 (.tmp 2) (.tmp 66) rfl w.heap.size #[.int .u64 ((o : Int) / 256), .int .i64 ((o : Int) % 256), .int .i64 ((o : Int) % 256 + (s : Int)), .int .i64 (a : Int)] ?_ ?_ 31 _ R7.out (sizeP _ _ _ _) ?_ (oneP _ _ _ _) ?_); rfl; rfl; rfl))
    refine ret_two rfl w.heap.size #[.int .u64 ((o : Int) / 256), .int .i64 ((o : Int) % 256), .int .i64 ((o : Int) % 256 + (s : Int)), .int .i64 (a : Int)] (0, 0) rfl (setRow_heap _ _ _ _ _ _ R7.out) rfl rfl ⟨rfl, ?_, ?_⟩
    · rw [setRow_other _ _ _ _ hgw]
      have h := G7.out
      rw [show ((m - s : Nat) : Int) = (m : Int) - (s : Int) by omega]
      simpa using h
    · refine ⟨K7.out.os, K7.out.tape, K7.out.output, by simp only [World.setRow, Array.size_modify]; exact K7.out.size, fun k hk hne => ?_⟩
      rw [setRow_other _ _ _ _ (by omega)]
      exact K7.out.block k hk hne
end Go.Proofs.Ytgmjpnampjkfeaa.Pie
