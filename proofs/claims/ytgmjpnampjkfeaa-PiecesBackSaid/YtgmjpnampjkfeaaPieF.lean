/- Pieces: Lay of the program, by its contract (every input). -/
import Derived.Test.YtgmjpnampjkfeaaPieE
set_option linter.unusedVariables false
set_option linter.unusedSimpArgs false
namespace Go.Proofs.Ytgmjpnampjkfeaa.Pie
open Go Go.RowKit Go.Proofs.YtgmjpnampjkfeaaW.PrintWords Go.Proofs.YtgmjpnampjkfeaaW.PrintLast Go.Proofs.YtgmjpnampjkfeaaW.PrintMore Base

/-- Numbers laid over others. -/
def spl (L : List Int) (off : Nat) (ys : List Int) : List Int := L.take off ++ ys ++ L.drop (off + ys.length)
theorem spl_nil (L : List Int) (off : Nat) : spl L off [] = L := by simp [spl]
theorem spl_len (L : List Int) (off : Nat) (ys : List Int) (h : off + ys.length ≤ L.length) : (spl L off ys).length = L.length := by simp [spl]; omega
theorem nums_len (k : IntKind) (xs : List Int) : (nums k xs).length = xs.length := by simp [nums]
theorem nums_ones (k : IntKind) (xs : List Int) : ∀ v ∈ nums k xs, v.oneCell' = true := by
  intro v hv
  simp only [nums, List.mem_map] at hv
  obtain ⟨x, -, rfl⟩ := hv
  rfl
theorem copy_over (g off m c' : Nat) (dp : Option Addr) (cur xs : List Int) (A : Option Addr) (n c : Nat) (W : World) (hg : W.heap[g]? = some (.cells (nums .u8 cur).toArray 5 (0, 0))) (HR : ReadsInt W .u8 A n xs)
    (hd : 0 < m → dp = some ⟨g, off, none⟩) (hfit : off + m ≤ cur.length) :
    ∃ W', (∀ ty, (Builtin.copy_ #[40, 40] ty #[.slice dp m c', .slice A n c]).run Try.prog W = .ok (.int .i64 ((min n m : Nat) : Int)) W') ∧ W'.heap[g]? = some (.cells (nums .u8 (spl cur off (xs.take m))).toArray 5 (0, 0)) ∧ (∀ (B : Nat) (w0 : World), Below B w0 W → B ≤ g → Below B w0 W') := by
  have hl := HR.1
  by_cases h0 : min n m = 0
  · refine ⟨W, fun ty => ?_, ?_, fun B w0 hb _ => hb⟩
    · rw [run_copy_none W 40 40 ty 5 _ _ _ _ _ _ Try.underlying40 (by kernel_rfl) h0, h0]; rfl
    · have e : xs.take m = [] := by
        apply List.eq_nil_of_length_eq_zero
        rw [List.length_take]; omega
      rw [e, spl_nil]; exact hg
  · obtain rfl := hd (by omega)
    obtain ⟨ad, rfl, hcells⟩ := HR.2.2 (by omega)
    have hk : (nums .u8 (xs.take m)).length = min n m := by rw [nums_len, List.length_take]; omega
    have h := fun ty => run_copy_row (P := Try.prog) W 40 40 ty 5 g off m c' ad n c (nums .u8 cur).toArray 5 (nums .u8 (xs.take m)) Try.underlying40 (by kernel_rfl) hg hk
      (by
        intro j v hj
        simp only [nums, List.getElem?_map, Option.map_eq_some_iff] at hj
        obtain ⟨x, hx, rfl⟩ := hj
        rw [List.getElem?_take] at hx
        split at hx
        · have hjl := (List.getElem?_eq_some_iff.1 hx).1
          rw [hcells j (by omega)]
          simp [List.getD_eq_getElem?_getD, hx]
        · cases hx) (by rw [List.size_toArray, hk, nums_len]; omega) (nums_ones _ _)
    refine ⟨_, fun ty => by rw [h ty, hk]; rfl, ?_, fun B w0 hb hB => below_setRow hb hB _⟩
    rw [setRow_heap _ _ _ _ _ _ hg]
    have hk' : (xs.take m).length = min n m := by rw [← nums_len .u8]; exact hk
    unfold spl
    rw [hk']
    simp only [nums, List.map_take, List.map_drop, List.map_append]
/-- 'b[F:T:T]' of a row of 256 bytes: where it lies. -/
theorem cut3 (p F T : Nat) (h1 : F ≤ T) (h2 : T ≤ 256) : ∃ dp : Option Addr, (∀ W : World, (Instr.slice 40 (.slice (some ⟨p, 0, none⟩) 256 256) (some (.int .i64 (F : Int))) (some (.int .i64 (T : Int))) (some (.int .i64 (T : Int)))).run Try.prog W = .ok (.slice dp (T - F) (T - F)) W) ∧ (0 < T - F → dp = some ⟨p, F, none⟩) := by
  obtain ⟨i, hi, hsz⟩ := info8'
  have hel : Try.prog.elem 40 = 5 := by simp [Program.elem, Try.underlying40]
  have hu : Try.prog.underlying 40 = some (.slice (Try.prog.elem 40)) := by rw [hel]; exact Try.underlying40
  refine ⟨if T = F then some ⟨p, 0, none⟩ else (some (⟨p, 0, none⟩ : Addr)).map (·.add (F * 1)), fun W => ?_, ?_⟩
  · rw [run_slice_lhm W 40 _ 256 256 hu .i64 .i64 .i64 (F : Int) (T : Int) (T : Int) (by omega) (by omega) (by omega) (by omega), hel]
    simp only [sizeOf, typeInfo, hi, hsz, sliced, Sem.run_bind, Sem.run_pure, Result.andThen, Int.toNat_natCast]
    rfl
  · intro h
    rw [if_neg (by omega)]
    simp only [Option.map, add_plain, Nat.mul_one]
/-- A block's bytes, 256 of them. -/
def layB (xs : List Int) : List Int := spl (List.replicate 256 0) 0 (xs.take 256)
theorem layB_len (xs : List Int) : (layB xs).length = 256 := by
  unfold layB; rw [spl_len]
  · exact List.length_replicate
  · rw [List.length_replicate, List.length_take]; omega
def layL (f t a : Int) (xs ys : List Int) : List Int := if mayP f t a = true then spl (layB xs) f.toNat ((ys.drop (min a.toNat ys.length)).take (t.toNat - f.toNat)) else layB xs
theorem layL_len (f t a : Int) (xs ys : List Int) : (layL f t a xs ys).length = 256 := by
  unfold layL
  split
  · rename_i h
    simp only [mayP, Bool.and_eq_true, decide_eq_true_eq] at h
    rw [spl_len]
    · exact layB_len xs
    · rw [layB_len]; simp only [List.length_take, List.length_drop]; omega
  · exact layB_len xs
theorem exec_copy {ev : Operand → Value} {o : Oper} {w w' : World} {v u r : Value} (s x : Operand) (ho : o.op = .call { callee := .builtin .copy, args := #[s, x], argTypes := #[40, 40] }) (hs : ev s = v) (hx : ev x = u)
    (hr : ∀ ty, (Builtin.copy_ #[40, 40] ty #[v, u]).run Try.prog w = .ok r w') : (execOp ev o).run Try.prog w = .ok (.value r) w' := by
  unfold execOp
  simp only [ho, resolve, invoke, builtin, Sem.run_bind, Sem.run_pure, Result.andThen_ok, List.map_toArray, List.map_cons, List.map_nil, hs, hx, hr]
set_option maxRecDepth 100000 in
set_option maxHeartbeats 3200000 in
theorem lay_may (B : Int) (F T a : Nat) (xs ys : List Int) (A1 A2 : Option Addr) (n1 c1 n2 c2 : Nat) (w : World) (H1 : ReadsInt w .u8 A1 n1 xs) (H2 : ReadsInt w .u8 A2 n2 ys) (hm : mayP F T a = true) (hc2 : n2 ≤ c2) :
    Calls Try.prog 22 #[.agg #[.int .u64 B, .int .i64 (F : Int), .int .i64 (T : Int), .int .i64 (a : Int)], .slice A1 n1 c1, .slice A2 n2 c2] w fun e w' => ∃ g, e = .returned (.slice (some ⟨g, 0, none⟩) 256 256) ∧ w'.heap[g]? = some (.cells (nums .u8 (layL F T a xs ys)).toArray 5 (0, 0)) ∧ w.heap.size ≤ g ∧ Below w.heap.size w w' := by
  have hM := hm
  simp only [mayP, Bool.and_eq_true, decide_eq_true_eq] at hm
  have hFT : F ≤ T ∧ T ≤ 256 := by omega
  obtain ⟨w1, hw1, b1, f1, s1⟩ := made w #[.int .u64 B, .int .i64 (F : Int), .int .i64 (T : Int), .int .i64 (a : Int)] 31
  obtain ⟨w2, hw2, b2, f2, s2⟩ := made w1 (madeCells #[.int .u8 0] 256) 5
  have hmk : ∀ W : World, (Instr.makeSlice 40 (.int .i64 256) (.int .i64 256)).run Try.prog W = .ok (.slice (some ⟨W.heap.size, 0, none⟩) 256 256) (W.alloc (.cells (madeCells #[.int .u8 0] 256) 5)) := made8 256 (by omega)
  have hz : madeCells #[Value.int .u8 0] 256 = (nums .u8 (List.replicate 256 (0 : Int))).toArray := by kernel_rfl
  rw [hz] at f2
  have bb2 : Below w.heap.size w w2 := below_then b1 b1.size b2
  obtain ⟨w3, hcp, f3, hb3⟩ := copy_over w1.heap.size 0 256 256 (some ⟨w1.heap.size, 0, none⟩) _ xs A1 n1 c1 w2 f2 (H1.below bb2) (fun _ => rfl) (by rw [List.length_replicate]; exact Nat.le_refl _)
  have F3 := Lib.hid (show w3.heap[w1.heap.size]? = some (.cells (nums .u8 (layB xs)).toArray 5 (0, 0)) from f3)
  have B3 := Lib.hid (hb3 w.heap.size w bb2 b1.size)
  have R3 := Lib.hid (show w3.heap[w.heap.size]? = some (.cells #[.int .u64 B, .int .i64 (F : Int), .int .i64 (T : Int), .int .i64 (a : Int)] 31) from keep_row f1 (hb3 w1.heap.size w1 b2 (Nat.le_refl _)))
  have RR2 := Lib.hid (show w2.heap[w.heap.size]? = some (.cells #[.int .u64 B, .int .i64 (F : Int), .int .i64 (T : Int), .int .i64 (a : Int)] 31) from keep_row f1 b2)
  have SP := Lib.hid (And.intro b1.size (show w.heap.size < w1.heap.size by omega))
  have HM := Lib.hid hM
  have H2' := Lib.hid H2
  have HF := Lib.hid (And.intro hFT hc2)
  have HY := Lib.hid H2.1
  clear f1 b1 s1 f2 b2 s2 bb2 f3 hb3 hM H1 H2 hm hFT hz hc2
  go_enter Try.func22, Try.ntmps22
  go_wp2_with ((with_reducible refine wpList_load_row rfl 31 (.tmp 3) rfl w.heap.size ?_ 31 _ _ _ R3.out Try.underlying31 ?_ (sizeP _ _ _ _) ?_); rfl; rfl)
  refine (may_any B F T a _).mono ?_; rintro e w4 ⟨rfl, hb4⟩
  rw [HM.out]
  have R4 := Lib.hid (keep_row R3.out hb4)
  have F4 := Lib.hid (keep_row F3.out hb4)
  have B4 := Lib.hid (below_then B3.out B3.out.size hb4)
  clear hb4 R3 RR2 F3 B3 hmk hcp hw1 hw2
  obtain ⟨dp, hc3, hdp⟩ := cut3 w1.heap.size F T HF.out.1.1 HF.out.1.2
  obtain ⟨i0, hi0, hs0⟩ := info8'
  by_cases hle : a ≤ n2
  · have hd : (¬ n2 < a) := (by omega)
    have hmin : min a n2 = a := by omega
    obtain ⟨A5, hA5, hr5⟩ := print_cut (P := Try.prog) 40 5 .i64 Try.underlying40 hi0 hs0 A2 n2 c2 a (by omega)
    have H5 := hr5 _ _ _ HF.out.2 (ReadsInt.below H2'.out B4.out)
    obtain ⟨w5, hcp, f5, hb5⟩ := copy_over w1.heap.size F (T - F) (T - F) dp (layB xs) (ys.drop a) A5 (n2 - a) (c2 - a) w4.drew F4.out (reads_drew H5) hdp (by rw [layB_len]; have := HF.out; omega)
    have F5 := Lib.hid (show w5.heap[w1.heap.size]? = some (.cells (nums .u8 (layL F T a xs ys)).toArray 5 (0, 0)) by
      rw [f5]; unfold layL; rw [if_pos HM.out, Int.toNat_natCast, Int.toNat_natCast, Int.toNat_natCast, HY.out, hmin])
    have B5 := Lib.hid (hb5 w.heap.size w (below_drew B4.out) SP.out.1)
    have CP := Lib.hid hcp
    clear hcp f5 hb5 H5 hr5 hle hdp
    go_wp2_with fail
    refine start_ (n := 16) (S := fun w' => w'.cell? ⟨w.heap.size, 1, none⟩ = some (.int .i64 (F : Int)) ∧ w'.cell? ⟨w.heap.size, 2, none⟩ = some (.int .i64 (T : Int)) ∧ w'.cell? ⟨w.heap.size, 3, none⟩ = some (.int .i64 (a : Int))) (ds := [15]) #[false, false, false, false, false, false, false, false, false, false, false, false, false, false, false, false] (by kernel_rfl) rfl rfl ⟨cell_row R4.out rfl, cell_row R4.out rfl, cell_row R4.out rfl⟩ (fun hHeld => ?_)
    refine pure_ (i := 0) (N := some 14) (v := ?_) (a' := ?_) #[true, false, false, false, false, false, false, false, false, false, false, false, false, false, false, false] rfl rfl (by kernel_rfl) (fun _ _ _ h => h) (Or.inl ⟨by rfl, ?_⟩) ?_ ?_
    rotate_left
    · intro w'
      go_simp
      with_reducible rfl
    rotate_left
    · simp only [Act.put, List.setIfInBounds_toArray, List.set_cons_zero, List.set_cons_succ, i64_w, i32_w]
      rfl
    refine pure_ (i := 1) (N := some 15) (v := ?_) (a' := ?_) #[true, true, false, false, false, false, false, false, false, false, false, false, false, false, false, false] rfl rfl (by kernel_rfl) (fun _ _ _ h => h) (Or.inl ⟨by rfl, ?_⟩) ?_ ?_
    rotate_left
    · intro w'
      go_simp
      with_reducible rfl
    rotate_left
    · simp only [Act.put, List.setIfInBounds_toArray, List.set_cons_zero, List.set_cons_succ, i64_w, i32_w]
      rfl
    refine pure_ (i := 3) (N := some 17) (v := ?_) (a' := ?_) #[true, true, false, true, false, false, false, false, false, false, false, false, false, false, false, false] rfl rfl (by kernel_rfl) (fun _ _ _ h => h) (Or.inl ⟨by rfl, ?_⟩) ?_ ?_
    rotate_left
    · intro w'
      go_simp
      with_reducible rfl
    rotate_left
    · simp only [Act.put, List.setIfInBounds_toArray, List.set_cons_zero, List.set_cons_succ, i64_w, i32_w]
      rfl
    refine pure_ (i := 5) (N := some 19) (v := ?_) (a' := ?_) #[true, true, false, true, false, true, false, false, false, false, false, false, false, false, false, false] rfl rfl (by kernel_rfl) (fun _ _ _ h => h) (Or.inl ⟨by rfl, ?_⟩) ?_ ?_
    rotate_left
    · intro w'
      go_simp
      with_reducible rfl
    rotate_left
    · simp only [Act.put, List.setIfInBounds_toArray, List.set_cons_zero, List.set_cons_succ, i64_w, i32_w]
      rfl
    refine pure_ (i := 8) (N := some 22) (v := ?_) (a' := ?_) #[true, true, false, true, false, true, false, false, true, false, false, false, false, false, false, false] rfl rfl (by kernel_rfl) (fun _ _ _ h => h) (Or.inl ⟨by rfl, ?_⟩) ?_ ?_
    rotate_left
    · intro w'
      go_simp
      with_reducible rfl
    rotate_left
    · simp only [Act.put, List.setIfInBounds_toArray, List.set_cons_zero, List.set_cons_succ, i64_w, i32_w]
      rfl
    refine pure_ (i := 9) (N := some 23) (v := ?_) (a' := ?_) #[true, true, false, true, false, true, false, false, true, true, false, false, false, false, false, false] rfl rfl (by kernel_rfl) (fun _ _ _ h => h) (Or.inl ⟨by rfl, ?_⟩) ?_ ?_
    rotate_left
    · intro w'
      go_simp
      with_reducible rfl
    rotate_left
    · simp only [Act.put, List.setIfInBounds_toArray, List.set_cons_zero, List.set_cons_succ, i64_w, i32_w]
      rfl
    refine pure_ (i := 11) (N := some 25) (v := ?_) (a' := ?_) #[true, true, false, true, false, true, false, false, true, true, false, true, false, false, false, false] rfl rfl (by kernel_rfl) (fun _ _ _ h => h) (Or.inl ⟨by rfl, ?_⟩) ?_ ?_
    rotate_left
    · intro w'
      go_simp
      with_reducible rfl
    rotate_left
    · simp only [Act.put, List.setIfInBounds_toArray, List.set_cons_zero, List.set_cons_succ, i64_w, i32_w]
      rfl
    refine pure_ (i := 12) (N := some 26) (v := ?_) (a' := ?_) #[true, true, false, true, false, true, false, false, true, true, false, true, true, false, false, false] rfl rfl (by kernel_rfl) (fun _ _ _ h => h) (Or.inl ⟨by rfl, ?_⟩) ?_ ?_
    rotate_left
    · intro w'
      go_simp
      with_reducible rfl
    rotate_left
    · simp only [Act.put, List.setIfInBounds_toArray, List.set_cons_zero, List.set_cons_succ, i64_w, i32_w]
      rfl
    refine take_ (i := 2) (N := some 16) (v := ?_) (a' := ?_) #[true, true, true, true, false, true, false, false, true, true, false, true, true, false, false, false] rfl rfl (by kernel_rfl) (fun _ _ _ h => h) (Or.inl ⟨by rfl, ?_⟩) hHeld ?_ ?_
    rotate_left
    · rintro w' ⟨s0, s1, s2⟩
      go_simp
      with_reducible rfl
    rotate_left
    · simp only [Act.put, List.setIfInBounds_toArray, List.set_cons_zero, List.set_cons_succ, i64_w, i32_w]
      rfl
    refine take_ (i := 4) (N := some 18) (v := ?_) (a' := ?_) #[true, true, true, true, true, true, false, false, true, true, false, true, true, false, false, false] rfl rfl (by kernel_rfl) (fun _ _ _ h => h) (Or.inl ⟨by rfl, ?_⟩) hHeld ?_ ?_
    rotate_left
    · rintro w' ⟨s0, s1, s2⟩
      go_simp
      with_reducible rfl
    rotate_left
    · simp only [Act.put, List.setIfInBounds_toArray, List.set_cons_zero, List.set_cons_succ, i64_w, i32_w]
      rfl
    refine take_ (i := 6) (N := some 20) (v := ?_) (a' := ?_) #[true, true, true, true, true, true, true, false, true, true, false, true, true, false, false, false] rfl rfl (by kernel_rfl) (fun _ _ _ h => h) (Or.inl ⟨by rfl, ?_⟩) hHeld ?_ ?_
    rotate_left
    · rintro w' ⟨s0, s1, s2⟩
      go_simp
      with_reducible rfl
    rotate_left
    · simp only [Act.put, List.setIfInBounds_toArray, List.set_cons_zero, List.set_cons_succ, i64_w, i32_w]
      rfl
    refine pure_ (i := 7) (N := some 21) (v := ?_) (a' := ?_) #[true, true, true, true, true, true, true, true, true, true, false, true, true, false, false, false] rfl rfl (by kernel_rfl) (fun _ _ _ h => h) (Or.inl ⟨by rfl, ?_⟩) ?_ ?_
    rotate_left
    · intro w'
      go_simp
      with_reducible rfl
    rotate_left
    · simp only [Act.put, List.setIfInBounds_toArray, List.set_cons_zero, List.set_cons_succ, i64_w, i32_w]
      rfl
    refine take_ (i := 10) (N := some 24) (v := ?_) (a' := ?_) #[true, true, true, true, true, true, true, true, true, true, true, true, true, false, false, false] rfl rfl (by kernel_rfl) (fun _ _ _ h => h) (Or.inl ⟨by rfl, ?_⟩) hHeld ?_ ?_
    rotate_left
    · rintro w' ⟨s0, s1, s2⟩
      go_simp
      with_reducible rfl
    rotate_left
    · simp only [Act.put, List.setIfInBounds_toArray, List.set_cons_zero, List.set_cons_succ, i64_w, i32_w]
      rfl
    refine pure_ (i := 13) (N := some 27) (v := ?_) (a' := ?_) #[true, true, true, true, true, true, true, true, true, true, true, true, true, true, false, false] rfl rfl (by kernel_rfl) (fun _ _ _ h => h) (Or.inl ⟨by rfl, ?_⟩) ?_ ?_
    rotate_left
    · intro w'
      go_simp
      with_reducible rfl
    rotate_left
    · simp only [Act.put, List.setIfInBounds_toArray, List.set_cons_zero, List.set_cons_succ, i64_w, i32_w]
      rfl
    refine pure_ (i := 14) (N := some 28) (v := ?_) (a' := ?_) #[true, true, true, true, true, true, true, true, true, true, true, true, true, true, true, false] rfl rfl (by kernel_rfl) (fun _ _ _ h => h) (Or.inl ⟨by rfl, ?_⟩) ?_ ?_
    rotate_left
    · intro w'
      go_simp
      with_reducible rfl
    rotate_left
    · simp only [Act.put, List.setIfInBounds_toArray, List.set_cons_zero, List.set_cons_succ, i64_w, i32_w]
      rfl
    refine last_ (i := 15) (N := some 29) #[true, true, true, true, true, true, true, true, true, true, true, true, true, true, true, true] rfl rfl (by kernel_rfl) (by decide) (fun K hK => ?_)
    refine value_ (w1 := w5) (v := .int .i64 ((min (n2 - a) (T - F) : Nat) : Int)) (by rfl) rfl (exec_copy (.tmp 21) (.tmp 28) ?_ ?_ ?_ CP.out) ?_
    · rfl
    · rfl
    · first | rfl | (have e0 : n2 - n2 = 0 := Nat.sub_self n2; rw [e0]; rfl)
    refine hK.out _ _ ?_
    clear hK K
    refine norm_ (a' := ?_) ?_ ?_
    rotate_left
    · show Act.put _ (some 29) _ = _
      simp only [Act.put, List.setIfInBounds_toArray, List.set_cons_zero, List.set_cons_succ, i64_w, i32_w]
      rfl
    refine done_ (by kernel_rfl) ?_
    go_wp2_with fail
    go_ret
    exact ⟨_, rfl, F5.out, SP.out.1, B5.out⟩
  · have hd : n2 < a := (by omega)
    have hmin : min a n2 = n2 := by omega
    obtain ⟨A5, hA5, hr5⟩ := print_cut (P := Try.prog) 40 5 .i64 Try.underlying40 hi0 hs0 A2 n2 c2 n2 (by omega)
    have H5 := hr5 _ _ _ HF.out.2 (ReadsInt.below H2'.out B4.out)
    obtain ⟨w5, hcp, f5, hb5⟩ := copy_over w1.heap.size F (T - F) (T - F) dp (layB xs) (ys.drop n2) A5 (n2 - n2) (c2 - n2) w4.drew F4.out (reads_drew H5) hdp (by rw [layB_len]; have := HF.out; omega)
    have F5 := Lib.hid (show w5.heap[w1.heap.size]? = some (.cells (nums .u8 (layL F T a xs ys)).toArray 5 (0, 0)) by
      rw [f5]; unfold layL; rw [if_pos HM.out, Int.toNat_natCast, Int.toNat_natCast, Int.toNat_natCast, HY.out, hmin])
    have B5 := Lib.hid (hb5 w.heap.size w (below_drew B4.out) SP.out.1)
    have CP := Lib.hid hcp
    clear hcp f5 hb5 H5 hr5 hle hdp
    go_wp2_with fail
    refine start_ (n := 16) (S := fun w' => w'.cell? ⟨w.heap.size, 1, none⟩ = some (.int .i64 (F : Int)) ∧ w'.cell? ⟨w.heap.size, 2, none⟩ = some (.int .i64 (T : Int)) ∧ w'.cell? ⟨w.heap.size, 3, none⟩ = some (.int .i64 (a : Int))) (ds := [15]) #[false, false, false, false, false, false, false, false, false, false, false, false, false, false, false, false] (by kernel_rfl) rfl rfl ⟨cell_row R4.out rfl, cell_row R4.out rfl, cell_row R4.out rfl⟩ (fun hHeld => ?_)
    refine pure_ (i := 0) (N := some 14) (v := ?_) (a' := ?_) #[true, false, false, false, false, false, false, false, false, false, false, false, false, false, false, false] rfl rfl (by kernel_rfl) (fun _ _ _ h => h) (Or.inl ⟨by rfl, ?_⟩) ?_ ?_
    rotate_left
    · intro w'
      go_simp
      with_reducible rfl
    rotate_left
    · simp only [Act.put, List.setIfInBounds_toArray, List.set_cons_zero, List.set_cons_succ, i64_w, i32_w]
      rfl
    refine pure_ (i := 1) (N := some 15) (v := ?_) (a' := ?_) #[true, true, false, false, false, false, false, false, false, false, false, false, false, false, false, false] rfl rfl (by kernel_rfl) (fun _ _ _ h => h) (Or.inl ⟨by rfl, ?_⟩) ?_ ?_
    rotate_left
    · intro w'
      go_simp
      with_reducible rfl
    rotate_left
    · simp only [Act.put, List.setIfInBounds_toArray, List.set_cons_zero, List.set_cons_succ, i64_w, i32_w]
      rfl
    refine pure_ (i := 3) (N := some 17) (v := ?_) (a' := ?_) #[true, true, false, true, false, false, false, false, false, false, false, false, false, false, false, false] rfl rfl (by kernel_rfl) (fun _ _ _ h => h) (Or.inl ⟨by rfl, ?_⟩) ?_ ?_
    rotate_left
    · intro w'
      go_simp
      with_reducible rfl
    rotate_left
    · simp only [Act.put, List.setIfInBounds_toArray, List.set_cons_zero, List.set_cons_succ, i64_w, i32_w]
      rfl
    refine pure_ (i := 5) (N := some 19) (v := ?_) (a' := ?_) #[true, true, false, true, false, true, false, false, false, false, false, false, false, false, false, false] rfl rfl (by kernel_rfl) (fun _ _ _ h => h) (Or.inl ⟨by rfl, ?_⟩) ?_ ?_
    rotate_left
    · intro w'
      go_simp
      with_reducible rfl
    rotate_left
    · simp only [Act.put, List.setIfInBounds_toArray, List.set_cons_zero, List.set_cons_succ, i64_w, i32_w]
      rfl
    refine pure_ (i := 8) (N := some 22) (v := ?_) (a' := ?_) #[true, true, false, true, false, true, false, false, true, false, false, false, false, false, false, false] rfl rfl (by kernel_rfl) (fun _ _ _ h => h) (Or.inl ⟨by rfl, ?_⟩) ?_ ?_
    rotate_left
    · intro w'
      go_simp
      with_reducible rfl
    rotate_left
    · simp only [Act.put, List.setIfInBounds_toArray, List.set_cons_zero, List.set_cons_succ, i64_w, i32_w]
      rfl
    refine pure_ (i := 9) (N := some 23) (v := ?_) (a' := ?_) #[true, true, false, true, false, true, false, false, true, true, false, false, false, false, false, false] rfl rfl (by kernel_rfl) (fun _ _ _ h => h) (Or.inl ⟨by rfl, ?_⟩) ?_ ?_
    rotate_left
    · intro w'
      go_simp
      with_reducible rfl
    rotate_left
    · simp only [Act.put, List.setIfInBounds_toArray, List.set_cons_zero, List.set_cons_succ, i64_w, i32_w]
      rfl
    refine pure_ (i := 11) (N := some 25) (v := ?_) (a' := ?_) #[true, true, false, true, false, true, false, false, true, true, false, true, false, false, false, false] rfl rfl (by kernel_rfl) (fun _ _ _ h => h) (Or.inl ⟨by rfl, ?_⟩) ?_ ?_
    rotate_left
    · intro w'
      go_simp
      with_reducible rfl
    rotate_left
    · simp only [Act.put, List.setIfInBounds_toArray, List.set_cons_zero, List.set_cons_succ, i64_w, i32_w]
      rfl
    refine pure_ (i := 12) (N := some 26) (v := ?_) (a' := ?_) #[true, true, false, true, false, true, false, false, true, true, false, true, true, false, false, false] rfl rfl (by kernel_rfl) (fun _ _ _ h => h) (Or.inl ⟨by rfl, ?_⟩) ?_ ?_
    rotate_left
    · intro w'
      go_simp
      with_reducible rfl
    rotate_left
    · simp only [Act.put, List.setIfInBounds_toArray, List.set_cons_zero, List.set_cons_succ, i64_w, i32_w]
      rfl
    refine take_ (i := 2) (N := some 16) (v := ?_) (a' := ?_) #[true, true, true, true, false, true, false, false, true, true, false, true, true, false, false, false] rfl rfl (by kernel_rfl) (fun _ _ _ h => h) (Or.inl ⟨by rfl, ?_⟩) hHeld ?_ ?_
    rotate_left
    · rintro w' ⟨s0, s1, s2⟩
      go_simp
      with_reducible rfl
    rotate_left
    · simp only [Act.put, List.setIfInBounds_toArray, List.set_cons_zero, List.set_cons_succ, i64_w, i32_w]
      rfl
    refine take_ (i := 4) (N := some 18) (v := ?_) (a' := ?_) #[true, true, true, true, true, true, false, false, true, true, false, true, true, false, false, false] rfl rfl (by kernel_rfl) (fun _ _ _ h => h) (Or.inl ⟨by rfl, ?_⟩) hHeld ?_ ?_
    rotate_left
    · rintro w' ⟨s0, s1, s2⟩
      go_simp
      with_reducible rfl
    rotate_left
    · simp only [Act.put, List.setIfInBounds_toArray, List.set_cons_zero, List.set_cons_succ, i64_w, i32_w]
      rfl
    refine take_ (i := 6) (N := some 20) (v := ?_) (a' := ?_) #[true, true, true, true, true, true, true, false, true, true, false, true, true, false, false, false] rfl rfl (by kernel_rfl) (fun _ _ _ h => h) (Or.inl ⟨by rfl, ?_⟩) hHeld ?_ ?_
    rotate_left
    · rintro w' ⟨s0, s1, s2⟩
      go_simp
      with_reducible rfl
    rotate_left
    · simp only [Act.put, List.setIfInBounds_toArray, List.set_cons_zero, List.set_cons_succ, i64_w, i32_w]
      rfl
    refine pure_ (i := 7) (N := some 21) (v := ?_) (a' := ?_) #[true, true, true, true, true, true, true, true, true, true, false, true, true, false, false, false] rfl rfl (by kernel_rfl) (fun _ _ _ h => h) (Or.inl ⟨by rfl, ?_⟩) ?_ ?_
    rotate_left
    · intro w'
      go_simp
      with_reducible rfl
    rotate_left
    · simp only [Act.put, List.setIfInBounds_toArray, List.set_cons_zero, List.set_cons_succ, i64_w, i32_w]
      rfl
    refine take_ (i := 10) (N := some 24) (v := ?_) (a' := ?_) #[true, true, true, true, true, true, true, true, true, true, true, true, true, false, false, false] rfl rfl (by kernel_rfl) (fun _ _ _ h => h) (Or.inl ⟨by rfl, ?_⟩) hHeld ?_ ?_
    rotate_left
    · rintro w' ⟨s0, s1, s2⟩
      go_simp
      with_reducible rfl
    rotate_left
    · simp only [Act.put, List.setIfInBounds_toArray, List.set_cons_zero, List.set_cons_succ, i64_w, i32_w]
      rfl
    refine pure_ (i := 13) (N := some 27) (v := ?_) (a' := ?_) #[true, true, true, true, true, true, true, true, true, true, true, true, true, true, false, false] rfl rfl (by kernel_rfl) (fun _ _ _ h => h) (Or.inl ⟨by rfl, ?_⟩) ?_ ?_
    rotate_left
    · intro w'
      go_simp
      with_reducible rfl
    rotate_left
    · simp only [Act.put, List.setIfInBounds_toArray, List.set_cons_zero, List.set_cons_succ, i64_w, i32_w]
      rfl
    refine pure_ (i := 14) (N := some 28) (v := ?_) (a' := ?_) #[true, true, true, true, true, true, true, true, true, true, true, true, true, true, true, false] rfl rfl (by kernel_rfl) (fun _ _ _ h => h) (Or.inl ⟨by rfl, ?_⟩) ?_ ?_
    rotate_left
    · intro w'
      go_simp
      with_reducible rfl
    rotate_left
    · simp only [Act.put, List.setIfInBounds_toArray, List.set_cons_zero, List.set_cons_succ, i64_w, i32_w]
      rfl
    refine last_ (i := 15) (N := some 29) #[true, true, true, true, true, true, true, true, true, true, true, true, true, true, true, true] rfl rfl (by kernel_rfl) (by decide) (fun K hK => ?_)
    refine value_ (w1 := w5) (v := .int .i64 ((min (n2 - n2) (T - F) : Nat) : Int)) (by rfl) rfl (exec_copy (.tmp 21) (.tmp 28) ?_ ?_ ?_ CP.out) ?_
    · rfl
    · rfl
    · first | rfl | (have e0 : n2 - n2 = 0 := Nat.sub_self n2; rw [e0]; rfl)
    refine hK.out _ _ ?_
    clear hK K
    refine norm_ (a' := ?_) ?_ ?_
    rotate_left
    · show Act.put _ (some 29) _ = _
      simp only [Act.put, List.setIfInBounds_toArray, List.set_cons_zero, List.set_cons_succ, i64_w, i32_w]
      rfl
    refine done_ (by kernel_rfl) ?_
    go_wp2_with fail
    go_ret
    exact ⟨_, rfl, F5.out, SP.out.1, B5.out⟩

theorem may_no {f t a : Int} (h : mayP f t a = false) : ∀ xs ys, layL f t a xs ys = layB xs := fun xs ys => if_neg (by rw [h]; simp)
set_option maxRecDepth 100000 in
theorem lay_no (B f t a : Int) (xs ys : List Int) (A1 A2 : Option Addr) (n1 c1 n2 c2 : Nat) (w : World) (H1 : ReadsInt w .u8 A1 n1 xs) (hm : mayP f t a = false) :
    Calls Try.prog 22 #[.agg #[.int .u64 B, .int .i64 f, .int .i64 t, .int .i64 a], .slice A1 n1 c1, .slice A2 n2 c2] w fun e w' => ∃ g, e = .returned (.slice (some ⟨g, 0, none⟩) 256 256) ∧ w'.heap[g]? = some (.cells (nums .u8 (layL f t a xs ys)).toArray 5 (0, 0)) ∧ w.heap.size ≤ g ∧ Below w.heap.size w w' := by
  obtain ⟨w1, hw1, b1, f1, s1⟩ := made w #[.int .u64 B, .int .i64 f, .int .i64 t, .int .i64 a] 31
  obtain ⟨w2, hw2, b2, f2, s2⟩ := made w1 (madeCells #[.int .u8 0] 256) 5
  have hmk : ∀ W : World, (Instr.makeSlice 40 (.int .i64 256) (.int .i64 256)).run Try.prog W = .ok (.slice (some ⟨W.heap.size, 0, none⟩) 256 256) (W.alloc (.cells (madeCells #[.int .u8 0] 256) 5)) := made8 256 (by omega)
  have hz : madeCells #[Value.int .u8 0] 256 = (nums .u8 (List.replicate 256 (0 : Int))).toArray := by kernel_rfl
  rw [hz] at f2
  have bb2 : Below w.heap.size w w2 := below_then b1 b1.size b2
  obtain ⟨w3, hcp, f3, hb3⟩ := copy_over w1.heap.size 0 256 256 (some ⟨w1.heap.size, 0, none⟩) _ xs A1 n1 c1 w2 f2 (H1.below bb2) (fun _ => rfl) (by rw [List.length_replicate]; exact Nat.le_refl _)
  have F3 := Lib.hid (show w3.heap[w1.heap.size]? = some (.cells (nums .u8 (layB xs)).toArray 5 (0, 0)) from f3)
  have B3 := Lib.hid (hb3 w.heap.size w bb2 b1.size)
  have R3 := Lib.hid (show w3.heap[w.heap.size]? = some (.cells #[.int .u64 B, .int .i64 f, .int .i64 t, .int .i64 a] 31) from keep_row f1 (hb3 w1.heap.size w1 b2 (Nat.le_refl _)))
  have SP := Lib.hid (And.intro b1.size (show w.heap.size < w1.heap.size by omega))
  have HM := Lib.hid hm
  clear f1 b1 s1 f2 b2 s2 bb2 f3 hb3 hm H1 hz
  go_enter Try.func22, Try.ntmps22
  go_wp2_with ((with_reducible refine wpList_load_row rfl 31 (.tmp 3) rfl w.heap.size ?_ 31 _ _ _ R3.out Try.underlying31 ?_ (sizeP _ _ _ _) ?_); rfl; rfl)
  refine (may_any B f t a _).mono ?_; rintro e w4 ⟨rfl, hb4⟩
  rw [HM.out]
  have F4 := Lib.hid (keep_row F3.out hb4)
  have B4 := Lib.hid (below_then B3.out B3.out.size hb4)
  clear hb4 R3 F3 B3 hmk hcp hw1 hw2
  go_wp2_with fail
  go_ret
  exact ⟨_, rfl, by rw [may_no HM.out]; exact F4.out, SP.out.1, B4.out⟩
theorem lay_any (B f t a : Int) (xs ys : List Int) (A1 A2 : Option Addr) (n1 c1 n2 c2 : Nat) (w : World) (H1 : ReadsInt w .u8 A1 n1 xs) (H2 : ReadsInt w .u8 A2 n2 ys) (hc2 : n2 ≤ c2) :
    Calls Try.prog 22 #[.agg #[.int .u64 B, .int .i64 f, .int .i64 t, .int .i64 a], .slice A1 n1 c1, .slice A2 n2 c2] w fun e w' => ∃ g, e = .returned (.slice (some ⟨g, 0, none⟩) 256 256) ∧ w'.heap[g]? = some (.cells (nums .u8 (layL f t a xs ys)).toArray 5 (0, 0)) ∧ w.heap.size ≤ g ∧ Below w.heap.size w w' := by
  cases hm : mayP f t a with
  | false => exact lay_no B f t a xs ys A1 A2 n1 c1 n2 c2 w H1 hm
  | true =>
    have h := hm
    simp only [mayP, Bool.and_eq_true, decide_eq_true_eq] at h
    obtain ⟨F, rfl⟩ := Int.eq_ofNat_of_zero_le h.1.1.1
    obtain ⟨T, rfl⟩ := Int.eq_ofNat_of_zero_le (show (0 : Int) ≤ t by omega)
    obtain ⟨a', rfl⟩ := Int.eq_ofNat_of_zero_le h.2
    exact lay_may B F T a' xs ys A1 A2 n1 c1 n2 c2 w H1 H2 hm hc2
end Go.Proofs.Ytgmjpnampjkfeaa.Pie
