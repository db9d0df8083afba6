/- super.Take, by its contract (every input). -/
import Derived.Test.YtnnclfaibcedoaaSupC
set_option linter.unusedVariables false
set_option linter.unusedSimpArgs false
namespace Go.Proofs.Ytnnclfaibcedoaa.Sup
open Go Go.RowKit Go.Proofs.YtnnclfaibcedoaaW.PrintWords Go.Proofs.YtnnclfaibcedoaaW.PrintLast Go.Proofs.YtnnclfaibcedoaaW.PrintMore Base Odr

theorem load58 {w : World} {ad : Addr} {xs : List Int} (h : ReadsInt w .u8 (some ad) 64 xs) : (Instr.loadAt 58 (.pointer (some ad))).run Try.prog w = .ok (.agg (nums .u8 xs).toArray) w := by
  have hl : (nums .u8 xs).length = 64 := by rw [nums_length]; exact h.1
  have hc := run_loadCells_list (P := Try.prog) w ad (nums .u8 xs) (fun j v hv => by
    obtain ⟨ad', h', hc⟩ := h.2.2 (by omega)
    injection h' with h'
    subst h'
    have hj : j < xs.length := by have := (List.getElem?_eq_some_iff.1 hv).1; rwa [nums_length] at this
    rw [hc j (by have := h.1; omega)]
    simp [nums, hj] at hv
    rw [← hv]; simp [rd, hj])
  rw [hl] at hc
  have hagg : (isAgg 58).run Try.prog w = .ok true w := by kernel_rfl
  have hsz : (sizeOf 58).run Try.prog w = .ok 64 w := by kernel_rfl
  simp only [Instr.loadAt, Instr.sureAddr, Sem.run_bind, Sem.run_pure, Result.andThen_ok, loadVar, hagg, hsz, if_true, hc]
theorem arrayAt58 (ad : Addr) (c : Nat) : ∀ w : World, (Instr.arrayAt 58 (.slice (some ad) 64 c)).run Try.prog w = .ok (.pointer (some ad)) w := by intro w; kernel_rfl
theorem all_eq : ∀ (xs ys : List Int), xs.length = ys.length → ((List.range xs.length).all fun i => xs.getD i 0 == ys.getD i 0) = (xs == ys)
  | [], [], _ => rfl
  | x :: xs, y :: ys, h => by
    have ih := all_eq xs ys (by simpa using h)
    rw [List.length_cons, List.range_succ_eq_map, List.all_cons, List.all_map]
    simp only [List.getD_cons_zero, Function.comp_def, List.getD_cons_succ, ih]
    simp [List.cons_beq_cons]
  | [], _ :: _, h => by simp at h
  | _ :: _, [], h => by simp at h
theorem equalIn58 (w : World) (d : Nat) (xs ys : List Int) (hx : xs.length = 64) (hy : ys.length = 64) :
    (Op.equalIn (d + 2) 58 (.agg (nums .u8 xs).toArray) (.agg (nums .u8 ys).toArray)).run Try.prog w = .ok (xs == ys) w := by
  have hsz : ∀ w, (sizeOf 5).run Try.prog w = .ok 1 w := fun w => by kernel_rfl
  rw [← all_eq xs ys (hx.trans hy.symm), hx, List.range_eq_range', Op.equalIn]
  simp only [Sem.run_bind, run_underlying Try.underlying58, Result.andThen_ok, hsz, Std.Legacy.Range.forIn_eq_forIn_range', Std.Legacy.Range.size, Nat.sub_zero, Nat.add_sub_cancel, Nat.div_one]
  have hl : ∀ i ∈ List.range' 0 64 1, i < 64 := fun i hi => by simpa using (List.mem_range'_1.1 hi).2
  generalize List.range' 0 64 1 = l at hl ⊢
  induction l with
  | nil => simp
  | cons i l ih =>
    have hi : i < 64 := hl i (by simp)
    have px : (part 5 (nums .u8 xs).toArray (i * 1)).run Try.prog w = .ok (.int .u8 (xs.getD i 0)) w := by
      simp [part, isAgg, run_underlying Try.underlying5, nums, List.getD, List.getElem?_eq_getElem (show i < xs.length by omega)]
    have py : (part 5 (nums .u8 ys).toArray (i * 1)).run Try.prog w = .ok (.int .u8 (ys.getD i 0)) w := by
      simp [part, isAgg, run_underlying Try.underlying5, nums, List.getD, List.getElem?_eq_getElem (show i < ys.length by omega)]
    have pe : (Op.equalIn (d + 1) 5 (.int .u8 (xs.getD i 0)) (.int .u8 (ys.getD i 0))).run Try.prog w = .ok (xs.getD i 0 == ys.getD i 0) w := run_equalIn_int w d 5 .u8 .u8 _ _ Try.underlying5
    simp only [List.forIn_cons, Sem.run_bind, px, py, pe, Result.andThen_ok, List.all_cons]
    cases hb : (xs.getD i 0 == ys.getD i 0)
    · simp
    · simp only [Bool.not_true, Bool.false_eq_true, if_false, Sem.run_pure, Result.andThen_ok, Bool.true_and]
      exact ih fun j hj => hl j (by simp [hj])
theorem neq58 (w : World) (xs ys : List Int) (hx : xs.length = 64) (hy : ys.length = 64) :
    (binOp .neq 58 (.agg (nums .u8 xs).toArray) (.agg (nums .u8 ys).toArray)).run Try.prog w = .ok (.bool (!(xs == ys))) w := by
  rw [run_neq_struct, equalIn58 w 9998 xs ys hx hy]
  rfl
/-- What a superblock's bytes say: the error's number, and the numbers. -/
def n4 (b : List Int) (i : Nat) : Int := kth (b.drop 4) i
def takeE (b : List Int) : Int := if b.length < 64 then 4 else if 64 < b.length then 3 else if 1024 < n4 b 1 then 23 else if may (n4 b 0) (n4 b 1) (n4 b 2) (n4 b 3) = true ∧ formL (n4 b 0) (n4 b 1) (n4 b 2) (n4 b 3) = b then 0 else 23
def takeS (b : List Int) (i : Nat) : Int := if takeE b = 0 then n4 b i else 0
def sval (f : Nat → Int) : Value := .agg #[.int .u64 (f 0), .int .i64 (f 1), .int .u64 (f 2), .int .u64 (f 3)]
theorem ret_cell {R : Ending → World → Prop} {a : Act} {w : World} (g : Nat) (cs : Array Value) (fr : Nat × Nat) (hp : a.tmps.getD 2 undef = .pointer (some ⟨g, 0, none⟩)) (hg : w.heap[g]? = some (.cells cs 25 fr)) (hcs : cs.size = 4)
    (hd : a.defers = []) (hR : R (.returned (.tuple #[.agg cs, a.tmps.getD 3 undef])) w) : bodyPost Try.prog Try.f14 R .ret a w := by
  have h1 := run_loadVar_row (P := Try.prog) w g 25 25 cs fr _ hg Try.underlying25 rfl (by rw [hcs]; kernel_rfl)
  have hf : Try.f14.results = #[.cell 2 25, .tmp 3] := rfl
  have hp' : a.tmps[2]?.getD undef = .pointer (some ⟨g, 0, none⟩) := by simpa using hp
  refine bodyPost_ret (v := .tuple #[.agg cs, a.tmps.getD 3 undef]) ?_ hd hR
  simp [results, hf, hp', asAddr, h1]
theorem own_cell {w : World} {base g n c : Nat} {xs : List Int} {k : IntKind} {e : TypeId} (h : w.ownsRow base e 1 (.slice (some ⟨g, 0, none⟩) n c) n (nums k xs)) (i : Nat) (x : Int) (hi : i < n) (hx : xs[i]? = some x) : w.cell? ⟨g, i, none⟩ = some (.int k x) := by
  have h' := (own_at h (i : Int) (by omega) (by omega)).1
  rw [show rd xs (i : Int) = x by simp [rd, hx]] at h'
  exact h'
theorem exec_load_at {P : Program} {ev : Operand → Value} {o : Oper} {w : World} {p v : Value} (ty : TypeId) (x : Operand) (ho : o.op = .load ty x) (hx : ev x = p) (hr : (Instr.loadAt ty p).run P w = .ok v w) : (execOp ev o).run P w = .ok (.value v) w := by
  unfold execOp
  simp only [ho, hx, Sem.run_bind, Sem.run_pure, Result.andThen_ok, hr]
theorem exec_bin {P : Program} {ev : Operand → Value} {o : Oper} {w : World} {p q v : Value} (op : BinOp) (t : TypeId) (x y : Operand) (t2 : TypeId) (ho : o.op = .binOp op t x y t2) (hx : ev x = p) (hy : ev y = q) (hg : (eqGuard op t x y p q).run P w = .ok () w) (hr : (binOp op t p q).run P w = .ok v w) : (execOp ev o).run P w = .ok (.value v) w := by
  unfold execOp
  simp only [ho, hx, hy, Sem.run_bind, Sem.run_pure, Result.andThen_ok, hr, hg]
theorem guard58 (x y : Operand) (P Q : Array Value) (w : World) : (eqGuard .neq 58 x y (.agg P) (.agg Q)).run Try.prog w = .ok () w := run_eqGuard_agg w .neq 58 x y P Q (by kernel_rfl)
theorem one4 (G B D N : Int) : (#[Value.int .u64 G, .int .i64 B, .int .u64 D, .int .u64 N].all (·.oneCell')) = true := by simp [Value.oneCell']
theorem size4 (G B D N : Int) : (Try.prog.info? 25).map (·.size) = some (#[Value.int .u64 G, .int .i64 B, .int .u64 D, .int .u64 N]).size := by kernel_rfl
theorem ks_four (b : List Int) : ks (b.drop 4) 4 = [n4 b 0, n4 b 1, n4 b 2, n4 b 3] := rfl
theorem n4_range (b : List Int) (hl : b.length = 64) (hw : ∀ x ∈ b, (Lit.int .u8 x).wf = true) (i : Nat) (hi : i < 4) : 0 ≤ n4 b i ∧ n4 b i < 18446744073709551616 := by
  have h := getN_bound 8 (((b.drop 4).drop (8 * i)).take 8) (by rw [List.length_take, List.length_drop, List.length_drop]; omega) (fun x hx => hw x (List.mem_of_mem_drop (List.mem_of_mem_drop (List.mem_of_mem_take hx))))
  exact h
set_option maxRecDepth 100000 in
set_option maxHeartbeats 3200000 in
theorem take_64 (b : List Int) (A : Option Addr) (c : Nat) (w : World) (HR : ReadsInt w .u8 A 64 b) (hw : ∀ x ∈ b, (Lit.int .u8 x).wf = true) (hc : 64 ≤ c) :
    Calls Try.prog 14 #[.slice A 64 c] w fun e w' => e = .returned (.tuple #[sval (takeS b), .int .i64 (takeE b)]) ∧ Below w.heap.size w w' := by
  have hl := HR.1
  obtain ⟨ad, rfl⟩ : ∃ ad, A = some ad := by obtain ⟨ad, h, -⟩ := HR.2.2 (by omega); exact ⟨ad, h⟩
  obtain ⟨i0, hi0, hs0⟩ := info8'
  obtain ⟨A1, hA1, hr1⟩ := print_cut (P := Try.prog) 22 5 .i64 Try.underlying22 hi0 hs0 (some ad) 64 c 4 (by omega)
  have hA4 : ∀ W : World, (Instr.slice 22 (.slice (some ad) 64 c) (some (.int .i64 4)) none none).run Try.prog W = .ok (.slice A1 60 (c - 4)) W := hA1
  have R1 := Lib.hid (ReadsInt.below (hr1 _ _ _ hc HR) ((Below.refl _ _).alloc (Nat.le_refl _) (.cells #[.int .u64 0, .int .i64 0, .int .u64 0, .int .u64 0] 25)))
  have HRH := Lib.hid HR
  have HW := Lib.hid hw
  have HL := Lib.hid hl
  have x0 := n4_range b hl hw 0 (by omega)
  have x1 := n4_range b hl hw 1 (by omega)
  have x2 := n4_range b hl hw 2 (by omega)
  have x3 := n4_range b hl hw 3 (by omega)
  have hE : takeE b = if 1024 < n4 b 1 then 23 else if may (n4 b 0) (n4 b 1) (n4 b 2) (n4 b 3) = true ∧ formL (n4 b 0) (n4 b 1) (n4 b 2) (n4 b 3) = b then 0 else 23 := by
    unfold takeE; rw [if_neg (by omega), if_neg (by omega)]
  have hS : ∀ i, takeS b i = if takeE b = 0 then n4 b i else 0 := fun i => rfl
  have hks := ks_four b
  obtain ⟨G, hG⟩ : ∃ G, n4 b 0 = G := ⟨_, rfl⟩
  obtain ⟨B, hB⟩ : ∃ B, n4 b 1 = B := ⟨_, rfl⟩
  obtain ⟨D, hD⟩ : ∃ D, n4 b 2 = D := ⟨_, rfl⟩
  obtain ⟨N, hN⟩ : ∃ N, n4 b 3 = N := ⟨_, rfl⟩
  rw [hG, hB, hD, hN] at hks
  rw [hG, hB, hD, hN] at hE
  rw [hG] at x0
  rw [hB] at x1
  rw [hD] at x2
  rw [hN] at x3
  have HE := Lib.hid hE
  have HS := Lib.hid hS
  have HN4 := Lib.hid (And.intro hG (And.intro hB (And.intro hD hN)))
  have HKS := Lib.hid hks
  have X := Lib.hid (And.intro x0 (And.intro x1 (And.intro x2 x3)))
  obtain ⟨y0, y1⟩ := x1
  clear HR hw hl hA1 hr1 hi0 hs0 i0 hE hS hks hG hB hD hN x0 x2 x3
  go_enter Try.func14, Try.ntmps14
  go_wp2_with fail
  refine (numbers_any (b.drop 4) A1 60 (c - 4) (w.heap.size + 1) (w.alloc (.cells #[.int .u64 0, .int .i64 0, .int .u64 0, .int .u64 0] 25)) _ R1.out (fun x hx => HW.out x (List.mem_of_mem_drop hx)) (by omega) (by omega) ((Below.refl _ _).alloc (Nat.le_refl _) _) (by simp) (by rw [World.cell?_alloc_at _ _ _ _ (by simp)]; rfl) (World.frozen?_alloc_at _ _ _ _ (by simp))).mono ?_
  rintro e w2 ⟨A2, c2, rfl, ho, hb⟩
  rw [HKS.out] at ho
  obtain ⟨g, c2', he, -, -⟩ := ho.form (by omega)
  injection he with he1 he2 he3
  subst he1; subst he3
  have L0 := own_cell ho 0 G (by omega) rfl
  have L1 := own_cell ho 1 B (by omega) rfl
  have L2 := own_cell ho 2 D (by omega) rfl
  have L3 := own_cell ho 3 N (by omega) rfl
  have hz0 : w2.heap[w.heap.size]? = some (.cells #[.int .u64 0, .int .i64 0, .int .u64 0, .int .u64 0] 25 (0, 0)) := by
    rw [hb.block w.heap.size (by simp)]; exact heap_alloc_new _ _
  have hcap := own_cap ho
  have HB2 := Lib.hid (below_then ((Below.refl w.heap.size w).alloc (Nat.le_refl _) _) (by simp) hb)
  have HZ := Lib.hid hz0
  clear ho hb hz0
  by_cases h1024 : 1024 < B
  · have he : takeE b = 23 := by rw [HE.out, if_pos h1024]
    have HEE := Lib.hid he
    have q1 : decide (1024 < B) = true := decide_eq_true h1024
    clear he h1024
    go_wp2_with ((with_reducible refine wpList_store_row rfl 25 (.tmp 2) (.tmp 27) rfl w.heap.size #[.int .u64 0, .int .i64 0, .int .u64 0, .int .u64 0] ?_ ?_ 25 _ HZ.out (size4 _ _ _ _) ?_ (one4 _ _ _ _) ?_); rfl; rfl; rfl)
    refine ret_cell w.heap.size #[.int .u64 0, .int .i64 0, .int .u64 0, .int .u64 0] (0, 0) rfl (setRow_heap _ _ _ _ _ _ HZ.out) rfl rfl ⟨?_, below_setRow HB2.out (Nat.le_refl _) _⟩
    unfold sval
    rw [HS.out, HS.out, HS.out, HS.out, HEE.out]
    rfl
  have q1 : decide (1024 < B) = false := decide_eq_false h1024
  have i1024 : IntKind.i64.wrap B = B := IntWalk.i64_in _ (by omega)
  have HL4 := Lib.hid (And.intro L0 (And.intro L1 (And.intro L2 L3)))
  go_wp2_with fail
  clear L0 L1 L2 L3
  refine start_ (n := 16) (S := fun w' => w'.cell? ⟨g, 0, none⟩ = some (.int .u64 G) ∧ w'.cell? ⟨g, 1, none⟩ = some (.int .u64 B) ∧ w'.cell? ⟨g, 2, none⟩ = some (.int .u64 D) ∧ w'.cell? ⟨g, 3, none⟩ = some (.int .u64 N)) (ds := [15]) #[false, false, false, false, false, false, false, false, false, false, false, false, false, false, false, false] (by kernel_rfl) rfl rfl ⟨HL4.out.1, HL4.out.2.1, HL4.out.2.2.1, HL4.out.2.2.2⟩ (fun hHeld => ?_)
  refine pure_ (i := 0) (N := some 28) (v := ?_) (a' := ?_) #[true, false, false, false, false, false, false, false, false, false, false, false, false, false, false, false] rfl rfl (by kernel_rfl) (fun _ _ _ h => h) (Or.inl ⟨by rfl, ?_⟩) ?_ ?_
  rotate_left
  · intro w'
    go_simp
    with_reducible rfl
  rotate_left
  · simp only [Act.put, List.setIfInBounds_toArray, List.set_cons_zero, List.set_cons_succ, i64_w, i32_w]
    rfl
  refine pure_ (i := 1) (N := some 29) (v := ?_) (a' := ?_) #[true, true, false, false, false, false, false, false, false, false, false, false, false, false, false, false] rfl rfl (by kernel_rfl) (fun _ _ _ h => h) (Or.inl ⟨by rfl, ?_⟩) ?_ ?_
  rotate_left
  · intro w'
    go_simp
    with_reducible rfl
  rotate_left
  · simp only [Act.put, List.setIfInBounds_toArray, List.set_cons_zero, List.set_cons_succ, i64_w, i32_w]
    rfl
  refine pure_ (i := 3) (N := some 31) (v := ?_) (a' := ?_) #[true, true, false, true, false, false, false, false, false, false, false, false, false, false, false, false] rfl rfl (by kernel_rfl) (fun _ _ _ h => h) (Or.inl ⟨by rfl, ?_⟩) ?_ ?_
  rotate_left
  · intro w'
    go_simp
    with_reducible rfl
  rotate_left
  · simp only [Act.put, List.setIfInBounds_toArray, List.set_cons_zero, List.set_cons_succ, i64_w, i32_w]
    rfl
  refine pure_ (i := 4) (N := some 32) (v := ?_) (a' := ?_) #[true, true, false, true, true, false, false, false, false, false, false, false, false, false, false, false] rfl rfl (by kernel_rfl) (fun _ _ _ h => h) (Or.inl ⟨by rfl, ?_⟩) ?_ ?_
  rotate_left
  · intro w'
    go_simp
    with_reducible rfl
  rotate_left
  · simp only [Act.put, List.setIfInBounds_toArray, List.set_cons_zero, List.set_cons_succ, i64_w, i32_w]
    rfl
  refine pure_ (i := 7) (N := some 35) (v := ?_) (a' := ?_) #[true, true, false, true, true, false, false, true, false, false, false, false, false, false, false, false] rfl rfl (by kernel_rfl) (fun _ _ _ h => h) (Or.inl ⟨by rfl, ?_⟩) ?_ ?_
  rotate_left
  · intro w'
    go_simp
    with_reducible rfl
  rotate_left
  · simp only [Act.put, List.setIfInBounds_toArray, List.set_cons_zero, List.set_cons_succ, i64_w, i32_w]
    rfl
  refine pure_ (i := 8) (N := some 36) (v := ?_) (a' := ?_) #[true, true, false, true, true, false, false, true, true, false, false, false, false, false, false, false] rfl rfl (by kernel_rfl) (fun _ _ _ h => h) (Or.inl ⟨by rfl, ?_⟩) ?_ ?_
  rotate_left
  · intro w'
    go_simp
    with_reducible rfl
  rotate_left
  · simp only [Act.put, List.setIfInBounds_toArray, List.set_cons_zero, List.set_cons_succ, i64_w, i32_w]
    rfl
  refine pure_ (i := 10) (N := some 38) (v := ?_) (a' := ?_) #[true, true, false, true, true, false, false, true, true, false, true, false, false, false, false, false] rfl rfl (by kernel_rfl) (fun _ _ _ h => h) (Or.inl ⟨by rfl, ?_⟩) ?_ ?_
  rotate_left
  · intro w'
    go_simp
    with_reducible rfl
  rotate_left
  · simp only [Act.put, List.setIfInBounds_toArray, List.set_cons_zero, List.set_cons_succ, i64_w, i32_w]
    rfl
  refine pure_ (i := 11) (N := some 39) (v := ?_) (a' := ?_) #[true, true, false, true, true, false, false, true, true, false, true, true, false, false, false, false] rfl rfl (by kernel_rfl) (fun _ _ _ h => h) (Or.inl ⟨by rfl, ?_⟩) ?_ ?_
  rotate_left
  · intro w'
    go_simp
    with_reducible rfl
  rotate_left
  · simp only [Act.put, List.setIfInBounds_toArray, List.set_cons_zero, List.set_cons_succ, i64_w, i32_w]
    rfl
  refine take_ (i := 2) (N := some 30) (v := ?_) (a' := ?_) #[true, true, true, true, true, false, false, true, true, false, true, true, false, false, false, false] rfl rfl (by kernel_rfl) (fun _ _ _ h => h) (Or.inl ⟨by rfl, ?_⟩) hHeld ?_ ?_
  rotate_left
  · rintro w' ⟨s0, s1, s2, s3⟩
    go_simp
    with_reducible rfl
  rotate_left
  · simp only [Act.put, List.setIfInBounds_toArray, List.set_cons_zero, List.set_cons_succ, i64_w, i32_w]
    rfl
  refine take_ (i := 5) (N := some 33) (v := ?_) (a' := ?_) #[true, true, true, true, true, true, false, true, true, false, true, true, false, false, false, false] rfl rfl (by kernel_rfl) (fun _ _ _ h => h) (Or.inl ⟨by rfl, ?_⟩) hHeld ?_ ?_
  rotate_left
  · rintro w' ⟨s0, s1, s2, s3⟩
    go_simp
    with_reducible rfl
  rotate_left
  · simp only [Act.put, List.setIfInBounds_toArray, List.set_cons_zero, List.set_cons_succ, i64_w, i32_w]
    rfl
  refine pure_ (i := 6) (N := some 34) (v := ?_) (a' := ?_) #[true, true, true, true, true, true, true, true, true, false, true, true, false, false, false, false] rfl rfl (by kernel_rfl) (fun _ _ _ h => h) (Or.inl ⟨by rfl, ?_⟩) ?_ ?_
  rotate_left
  · intro w'
    go_simp
    with_reducible rfl
  rotate_left
  · simp only [Act.put, List.setIfInBounds_toArray, List.set_cons_zero, List.set_cons_succ, i64_w, i32_w]
    rfl
  refine take_ (i := 9) (N := some 37) (v := ?_) (a' := ?_) #[true, true, true, true, true, true, true, true, true, true, true, true, false, false, false, false] rfl rfl (by kernel_rfl) (fun _ _ _ h => h) (Or.inl ⟨by rfl, ?_⟩) hHeld ?_ ?_
  rotate_left
  · rintro w' ⟨s0, s1, s2, s3⟩
    go_simp
    with_reducible rfl
  rotate_left
  · simp only [Act.put, List.setIfInBounds_toArray, List.set_cons_zero, List.set_cons_succ, i64_w, i32_w]
    rfl
  refine take_ (i := 12) (N := some 40) (v := ?_) (a' := ?_) #[true, true, true, true, true, true, true, true, true, true, true, true, true, false, false, false] rfl rfl (by kernel_rfl) (fun _ _ _ h => h) (Or.inl ⟨by rfl, ?_⟩) hHeld ?_ ?_
  rotate_left
  · rintro w' ⟨s0, s1, s2, s3⟩
    go_simp
    with_reducible rfl
  rotate_left
  · simp only [Act.put, List.setIfInBounds_toArray, List.set_cons_zero, List.set_cons_succ, i64_w, i32_w]
    rfl
  refine pure_ (i := 13) (N := some 41) (v := ?_) (a' := ?_) #[true, true, true, true, true, true, true, true, true, true, true, true, true, true, false, false] rfl rfl (by kernel_rfl) (fun _ _ _ h => h) (Or.inl ⟨by rfl, ?_⟩) ?_ ?_
  rotate_left
  · intro w'
    go_simp
    with_reducible rfl
  rotate_left
  · simp only [Act.put, List.setIfInBounds_toArray, List.set_cons_zero, List.set_cons_succ, i64_w, i32_w]
    rfl
  refine one_ (i := 14) (N := some 5) #[true, true, true, true, true, true, true, true, true, true, true, true, true, true, true, false] rfl rfl (by kernel_rfl) (by decide) (fun K hK => ?_)
  refine value_ (w1 := ?_) (v := ?_) (by rfl) rfl ?_ ?_
  rotate_left 2
  · go_simp
    constructor
    · rfl
    · rfl
  refine hK.out _ _ ⟨alloc_cell hHeld.1 _, alloc_cell hHeld.2.1 _, alloc_cell hHeld.2.2.1 _, alloc_cell hHeld.2.2.2 _⟩ (fun hHeld => ?_)
  clear hK K
  refine norm_ (a' := ?_) ?_ ?_
  rotate_left
  · show Act.put _ (some 5) _ = _
    simp only [Act.put, List.setIfInBounds_toArray, List.set_cons_zero, List.set_cons_succ, i64_w, i32_w]
    rfl
  refine last_ (i := 15) (N := none) #[true, true, true, true, true, true, true, true, true, true, true, true, true, true, true, true] rfl rfl (by kernel_rfl) (by decide) (fun K hK => ?_)
  refine skip_ (w1 := (w2.drew.alloc (.cells #[.int .u64 0, .int .i64 0, .int .u64 0, .int .u64 0] 25)).setRow w2.heap.size #[.int .u64 G, .int .i64 B, .int .u64 D, .int .u64 N]) (by rfl) rfl (exec_store_row 25 _ _ rfl w2.heap.size #[.int .u64 G, .int .i64 B, .int .u64 D, .int .u64 N] (by rfl) (by rfl) 25 _ (heap_alloc_new _ _) (size4 _ _ _ _) rfl (one4 _ _ _ _)) ?_
  obtain ⟨w4, hw4⟩ : ∃ w4, w4 = (w2.drew.alloc (.cells #[.int .u64 0, .int .i64 0, .int .u64 0, .int .u64 0] 25)).setRow w2.heap.size #[.int .u64 G, .int .i64 B, .int .u64 D, .int .u64 N] := ⟨_, rfl⟩
  rw [← hw4]
  have HW4 := Lib.hid hw4
  clear hw4
  refine hK.out _ _ ?_
  clear hK K
  refine done_ (by kernel_rfl) ?_
  have hlt : w.heap.size < w2.heap.size := (Array.getElem?_eq_some_iff.1 HZ.out).1
  have h5 : w4.heap[w2.heap.size]? = some (.cells #[.int .u64 G, .int .i64 B, .int .u64 D, .int .u64 N] 25 (0, 0)) := by
    rw [HW4.out]; exact setRow_heap _ _ _ _ _ _ (heap_alloc_new _ _)
  have hz4 : w4.heap[w.heap.size]? = some (.cells #[.int .u64 0, .int .i64 0, .int .u64 0, .int .u64 0] 25 (0, 0)) := by
    rw [HW4.out, setRow_other _ _ _ _ (by omega)]; exact alloc_row HZ.out _
  have hb4 : Below w.heap.size w w4 := by
    rw [HW4.out]; exact below_setRow ((below_drew HB2.out).alloc (below_drew HB2.out).size _) (by omega) _
  have H5 := Lib.hid h5
  have HZ4 := Lib.hid hz4
  have HB4 := Lib.hid hb4
  clear h5 hz4 hb4 HW4 HZ HL4 hHeld
  by_cases hm : may G B D N = true
  · go_wp2_with (((with_reducible refine wpList_load_row rfl 25 (.tmp 5) rfl w2.heap.size ?_ 25 _ _ _ H5.out Try.underlying25 ?_ (size4 _ _ _ _) ?_); rfl; rfl))
    refine (put_ok G B D N _ hm).mono ?_
    rintro e w5 ⟨A6, c6, rfl, ho, hb⟩
    obtain ⟨ad6, rfl⟩ : ∃ ad6, A6 = some ad6 := by obtain ⟨g6, c', he, -, -⟩ := ho.form (by omega); injection he with h1; exact ⟨_, h1⟩
    have hfl : (formL G B D N).length = 64 := by have := ho.1; rw [nums_length] at this; exact this
    have hz5 : w5.heap[w.heap.size]? = some (.cells #[.int .u64 0, .int .i64 0, .int .u64 0, .int .u64 0] 25 (0, 0)) := by
      rw [hb.block _ (Array.getElem?_eq_some_iff.1 HZ4.out).1]; exact HZ4.out
    have hs5 : w5.heap[w2.heap.size]? = some (.cells #[.int .u64 G, .int .i64 B, .int .u64 D, .int .u64 N] 25 (0, 0)) := by
      rw [hb.block _ (Array.getElem?_eq_some_iff.1 H5.out).1]; exact H5.out
    have hb5 := below_drew (below_then HB4.out HB4.out.size hb)
    have l1 : (Instr.loadAt 58 (.pointer (some ad6))).run Try.prog w5.drew = .ok (.agg (nums .u8 (formL G B D N)).toArray) w5.drew := load58 (reads_drew (reads_of_own ho hfl rfl))
    have l2 : (Instr.loadAt 58 (.pointer (some ad))).run Try.prog w5.drew = .ok (.agg (nums .u8 b).toArray) w5.drew := load58 (ReadsInt.below HRH.out hb5)
    have n1 := neq58 w5.drew (formL G B D N) b hfl HL.out
    obtain ⟨P, hP⟩ : ∃ P, (nums .u8 (formL G B D N)).toArray = P := ⟨_, rfl⟩
    obtain ⟨Q, hQ⟩ : ∃ Q, (nums .u8 b).toArray = Q := ⟨_, rfl⟩
    rw [hP] at l1 n1
    rw [hQ] at l2 n1
    have HZ5 := Lib.hid (show w5.drew.heap[w.heap.size]? = some (.cells #[.int .u64 0, .int .i64 0, .int .u64 0, .int .u64 0] 25 (0, 0)) from hz5)
    have HS5 := Lib.hid (show w5.drew.heap[w2.heap.size]? = some (.cells #[.int .u64 G, .int .i64 B, .int .u64 D, .int .u64 N] 25 (0, 0)) from hs5)
    have HB5 := Lib.hid hb5
    have L1 := Lib.hid l1
    have L2 := Lib.hid l2
    have HM := Lib.hid hm
    clear ho hb hz5 hs5 hb5 l1 l2 hP hQ hm
    by_cases hq : formL G B D N = b
    · have he : takeE b = 0 := by rw [HE.out, if_neg (by omega), if_pos ⟨HM.out, hq⟩]
      have n2 : (!(formL G B D N == b)) = false := by simp [hq]
      rw [n2] at n1
      have N1 := Lib.hid n1
      have HEE := Lib.hid he
      clear n1 n2 hq he
      go_wp2_with fail
      refine start_ (n := 11) (S := fun w' => (Instr.arrayAt 58 (.slice (some ad6) 64 c6)).run Try.prog w' = .ok (.pointer (some ad6)) w' ∧ (Instr.loadAt 58 (.pointer (some ad6))).run Try.prog w' = .ok (.agg P) w' ∧ (Instr.arrayAt 58 (.slice (some ad) 64 c)).run Try.prog w' = .ok (.pointer (some ad)) w' ∧ (Instr.loadAt 58 (.pointer (some ad))).run Try.prog w' = .ok (.agg Q) w' ∧ (binOp .neq 58 (.agg P) (.agg Q)).run Try.prog w' = .ok (.bool false) w') (ds := []) #[false, false, false, false, false, false, false, false, false, false, false] (by kernel_rfl) rfl rfl ⟨arrayAt58 _ _ _, L1.out, arrayAt58 _ _ _, L2.out, N1.out⟩ (fun hHeld => ?_)
      refine pure_ (i := 0) (N := some 47) (v := ?_) (a' := ?_) #[true, false, false, false, false, false, false, false, false, false, false] rfl rfl (by kernel_rfl) (fun _ _ _ h => h) (Or.inl ⟨by rfl, ?_⟩) ?_ ?_
      rotate_left
      · intro w'
        go_simp
        with_reducible rfl
      rotate_left
      · simp only [Act.put, List.setIfInBounds_toArray, List.set_cons_zero, List.set_cons_succ, i64_w, i32_w]
        rfl
      refine pure_ (i := 1) (N := some 48) (v := ?_) (a' := ?_) #[true, true, false, false, false, false, false, false, false, false, false] rfl rfl (by kernel_rfl) (fun _ _ _ h => h) (Or.inl ⟨by rfl, ?_⟩) ?_ ?_
      rotate_left
      · intro w'
        go_simp
        with_reducible rfl
      rotate_left
      · simp only [Act.put, List.setIfInBounds_toArray, List.set_cons_zero, List.set_cons_succ, i64_w, i32_w]
        rfl
      refine pure_ (i := 2) (N := some 49) (v := ?_) (a' := ?_) #[true, true, true, false, false, false, false, false, false, false, false] rfl rfl (by kernel_rfl) (fun _ _ _ h => h) (Or.inl ⟨by rfl, ?_⟩) ?_ ?_
      rotate_left
      · intro w'
        go_simp
        with_reducible rfl
      rotate_left
      · simp only [Act.put, List.setIfInBounds_toArray, List.set_cons_zero, List.set_cons_succ, i64_w, i32_w]
        rfl
      refine pure_ (i := 3) (N := some 50) (v := ?_) (a' := ?_) #[true, true, true, true, false, false, false, false, false, false, false] rfl rfl (by kernel_rfl) (fun _ _ _ h => h) (Or.inl ⟨by rfl, ?_⟩) ?_ ?_
      rotate_left
      · intro w'
        go_simp
        with_reducible rfl
      rotate_left
      · simp only [Act.put, List.setIfInBounds_toArray, List.set_cons_zero, List.set_cons_succ, i64_w, i32_w]
        rfl
      refine pure_ (i := 6) (N := some 53) (v := ?_) (a' := ?_) #[true, true, true, true, false, false, true, false, false, false, false] rfl rfl (by kernel_rfl) (fun _ _ _ h => h) (Or.inl ⟨by rfl, ?_⟩) ?_ ?_
      rotate_left
      · intro w'
        go_simp
        with_reducible rfl
      rotate_left
      · simp only [Act.put, List.setIfInBounds_toArray, List.set_cons_zero, List.set_cons_succ, i64_w, i32_w]
        rfl
      refine take_ (i := 4) (N := some 51) (v := ?_) (a' := ?_) #[true, true, true, true, true, false, true, false, false, false, false] rfl rfl (by kernel_rfl) (fun _ _ _ h => h) (Or.inl ⟨by rfl, ?_⟩) hHeld ?_ ?_
      rotate_left
      · rintro w' ⟨s0, s1, s2, s3, s4⟩
        go_simp
        with_reducible rfl
      rotate_left
      · simp only [Act.put, List.setIfInBounds_toArray, List.set_cons_zero, List.set_cons_succ, i64_w, i32_w]
        rfl
      refine take_ (i := 5) (N := some 52) (v := ?_) (a' := ?_) #[true, true, true, true, true, true, true, false, false, false, false] rfl rfl (by kernel_rfl) (fun _ _ _ h => h) (Or.inl ⟨by rfl, ?_⟩) hHeld ?_ ?_
      rotate_left
      · rintro w' ⟨s0, s1, s2, s3, s4⟩
        refine exec_load_at (p := .pointer (some ad6)) (v := .agg P) 58 (.tmp 51) ?_ ?_ s1
        · rfl
        · rfl
      rotate_left
      · simp only [Act.put, List.setIfInBounds_toArray, List.set_cons_zero, List.set_cons_succ, i64_w, i32_w]
        rfl
      refine take_ (i := 7) (N := some 54) (v := ?_) (a' := ?_) #[true, true, true, true, true, true, true, true, false, false, false] rfl rfl (by kernel_rfl) (fun _ _ _ h => h) (Or.inl ⟨by rfl, ?_⟩) hHeld ?_ ?_
      rotate_left
      · rintro w' ⟨s0, s1, s2, s3, s4⟩
        go_simp
        with_reducible rfl
      rotate_left
      · simp only [Act.put, List.setIfInBounds_toArray, List.set_cons_zero, List.set_cons_succ, i64_w, i32_w]
        rfl
      refine take_ (i := 8) (N := some 55) (v := ?_) (a' := ?_) #[true, true, true, true, true, true, true, true, true, false, false] rfl rfl (by kernel_rfl) (fun _ _ _ h => h) (Or.inl ⟨by rfl, ?_⟩) hHeld ?_ ?_
      rotate_left
      · rintro w' ⟨s0, s1, s2, s3, s4⟩
        refine exec_load_at (p := .pointer (some ad)) (v := .agg Q) 58 (.tmp 54) ?_ ?_ s3
        · rfl
        · rfl
      rotate_left
      · simp only [Act.put, List.setIfInBounds_toArray, List.set_cons_zero, List.set_cons_succ, i64_w, i32_w]
        rfl
      refine take_ (i := 9) (N := some 56) (v := ?_) (a' := ?_) #[true, true, true, true, true, true, true, true, true, true, false] rfl rfl (by kernel_rfl) (fun _ _ _ h => h) (Or.inl ⟨by rfl, ?_⟩) hHeld ?_ ?_
      rotate_left
      · rintro w' ⟨s0, s1, s2, s3, s4⟩
        refine exec_bin (p := .agg P) (q := .agg Q) (v := .bool false) .neq 58 (.tmp 52) (.tmp 55) 58 ?_ ?_ ?_ (guard58 _ _ _ _ _) s4
        · rfl
        · rfl
        · rfl
      rotate_left
      · simp only [Act.put, List.setIfInBounds_toArray, List.set_cons_zero, List.set_cons_succ, i64_w, i32_w]
        rfl
      refine pure_ (i := 10) (N := some 57) (v := ?_) (a' := ?_) #[true, true, true, true, true, true, true, true, true, true, true] rfl rfl (by kernel_rfl) (fun _ _ _ h => h) (Or.inl ⟨by rfl, ?_⟩) ?_ ?_
      rotate_left
      · intro w'
        go_simp
        with_reducible rfl
      rotate_left
      · simp only [Act.put, List.setIfInBounds_toArray, List.set_cons_zero, List.set_cons_succ, i64_w, i32_w]
        rfl
      refine done_ (by kernel_rfl) ?_
      go_wp2_with (first | ((with_reducible refine wpList_load_row rfl 25 (.tmp 5) rfl w2.heap.size ?_ 25 _ _ _ HS5.out Try.underlying25 ?_ (size4 _ _ _ _) ?_); rfl; rfl) | ((with_reducible refine wpList_store_row rfl 25 (.tmp 2) (.tmp 59) rfl w.heap.size #[.int .u64 G, .int .i64 B, .int .u64 D, .int .u64 N] ?_ ?_ 25 _ HZ5.out (size4 _ _ _ _) ?_ (one4 _ _ _ _) ?_); rfl; rfl; rfl))
      refine ret_cell w.heap.size #[.int .u64 G, .int .i64 B, .int .u64 D, .int .u64 N] (0, 0) rfl (setRow_heap _ _ _ _ _ _ HZ5.out) rfl rfl ⟨?_, below_setRow HB5.out (Nat.le_refl _) _⟩
      unfold sval
      rw [HS.out, HS.out, HS.out, HS.out, HEE.out, HN4.out.1, HN4.out.2.1, HN4.out.2.2.1, HN4.out.2.2.2]
      rfl
    · have he : takeE b = 23 := by rw [HE.out, if_neg (by omega), if_neg (fun h => hq h.2)]
      have n2 : (!(formL G B D N == b)) = true := by simp [hq]
      rw [n2] at n1
      have N1 := Lib.hid n1
      have HEE := Lib.hid he
      clear n1 n2 hq he
      go_wp2_with fail
      refine start_ (n := 11) (S := fun w' => (Instr.arrayAt 58 (.slice (some ad6) 64 c6)).run Try.prog w' = .ok (.pointer (some ad6)) w' ∧ (Instr.loadAt 58 (.pointer (some ad6))).run Try.prog w' = .ok (.agg P) w' ∧ (Instr.arrayAt 58 (.slice (some ad) 64 c)).run Try.prog w' = .ok (.pointer (some ad)) w' ∧ (Instr.loadAt 58 (.pointer (some ad))).run Try.prog w' = .ok (.agg Q) w' ∧ (binOp .neq 58 (.agg P) (.agg Q)).run Try.prog w' = .ok (.bool true) w') (ds := []) #[false, false, false, false, false, false, false, false, false, false, false] (by kernel_rfl) rfl rfl ⟨arrayAt58 _ _ _, L1.out, arrayAt58 _ _ _, L2.out, N1.out⟩ (fun hHeld => ?_)
      refine pure_ (i := 0) (N := some 47) (v := ?_) (a' := ?_) #[true, false, false, false, false, false, false, false, false, false, false] rfl rfl (by kernel_rfl) (fun _ _ _ h => h) (Or.inl ⟨by rfl, ?_⟩) ?_ ?_
      rotate_left
      · intro w'
        go_simp
        with_reducible rfl
      rotate_left
      · simp only [Act.put, List.setIfInBounds_toArray, List.set_cons_zero, List.set_cons_succ, i64_w, i32_w]
        rfl
      refine pure_ (i := 1) (N := some 48) (v := ?_) (a' := ?_) #[true, true, false, false, false, false, false, false, false, false, false] rfl rfl (by kernel_rfl) (fun _ _ _ h => h) (Or.inl ⟨by rfl, ?_⟩) ?_ ?_
      rotate_left
      · intro w'
        go_simp
        with_reducible rfl
      rotate_left
      · simp only [Act.put, List.setIfInBounds_toArray, List.set_cons_zero, List.set_cons_succ, i64_w, i32_w]
        rfl
      refine pure_ (i := 2) (N := some 49) (v := ?_) (a' := ?_) #[true, true, true, false, false, false, false, false, false, false, false] rfl rfl (by kernel_rfl) (fun _ _ _ h => h) (Or.inl ⟨by rfl, ?_⟩) ?_ ?_
      rotate_left
      · intro w'
        go_simp
        with_reducible rfl
      rotate_left
      · simp only [Act.put, List.setIfInBounds_toArray, List.set_cons_zero, List.set_cons_succ, i64_w, i32_w]
        rfl
      refine pure_ (i := 3) (N := some 50) (v := ?_) (a' := ?_) #[true, true, true, true, false, false, false, false, false, false, false] rfl rfl (by kernel_rfl) (fun _ _ _ h => h) (Or.inl ⟨by rfl, ?_⟩) ?_ ?_
      rotate_left
      · intro w'
        go_simp
        with_reducible rfl
      rotate_left
      · simp only [Act.put, List.setIfInBounds_toArray, List.set_cons_zero, List.set_cons_succ, i64_w, i32_w]
        rfl
      refine pure_ (i := 6) (N := some 53) (v := ?_) (a' := ?_) #[true, true, true, true, false, false, true, false, false, false, false] rfl rfl (by kernel_rfl) (fun _ _ _ h => h) (Or.inl ⟨by rfl, ?_⟩) ?_ ?_
      rotate_left
      · intro w'
        go_simp
        with_reducible rfl
      rotate_left
      · simp only [Act.put, List.setIfInBounds_toArray, List.set_cons_zero, List.set_cons_succ, i64_w, i32_w]
        rfl
      refine take_ (i := 4) (N := some 51) (v := ?_) (a' := ?_) #[true, true, true, true, true, false, true, false, false, false, false] rfl rfl (by kernel_rfl) (fun _ _ _ h => h) (Or.inl ⟨by rfl, ?_⟩) hHeld ?_ ?_
      rotate_left
      · rintro w' ⟨s0, s1, s2, s3, s4⟩
        go_simp
        with_reducible rfl
      rotate_left
      · simp only [Act.put, List.setIfInBounds_toArray, List.set_cons_zero, List.set_cons_succ, i64_w, i32_w]
        rfl
      refine take_ (i := 5) (N := some 52) (v := ?_) (a' := ?_) #[true, true, true, true, true, true, true, false, false, false, false] rfl rfl (by kernel_rfl) (fun _ _ _ h => h) (Or.inl ⟨by rfl, ?_⟩) hHeld ?_ ?_
      rotate_left
      · rintro w' ⟨s0, s1, s2, s3, s4⟩
        refine exec_load_at (p := .pointer (some ad6)) (v := .agg P) 58 (.tmp 51) ?_ ?_ s1
        · rfl
        · rfl
      rotate_left
      · simp only [Act.put, List.setIfInBounds_toArray, List.set_cons_zero, List.set_cons_succ, i64_w, i32_w]
        rfl
      refine take_ (i := 7) (N := some 54) (v := ?_) (a' := ?_) #[true, true, true, true, true, true, true, true, false, false, false] rfl rfl (by kernel_rfl) (fun _ _ _ h => h) (Or.inl ⟨by rfl, ?_⟩) hHeld ?_ ?_
      rotate_left
      · rintro w' ⟨s0, s1, s2, s3, s4⟩
        go_simp
        with_reducible rfl
      rotate_left
      · simp only [Act.put, List.setIfInBounds_toArray, List.set_cons_zero, List.set_cons_succ, i64_w, i32_w]
        rfl
      refine take_ (i := 8) (N := some 55) (v := ?_) (a' := ?_) #[true, true, true, true, true, true, true, true, true, false, false] rfl rfl (by kernel_rfl) (fun _ _ _ h => h) (Or.inl ⟨by rfl, ?_⟩) hHeld ?_ ?_
      rotate_left
      · rintro w' ⟨s0, s1, s2, s3, s4⟩
        refine exec_load_at (p := .pointer (some ad)) (v := .agg Q) 58 (.tmp 54) ?_ ?_ s3
        · rfl
        · rfl
      rotate_left
      · simp only [Act.put, List.setIfInBounds_toArray, List.set_cons_zero, List.set_cons_succ, i64_w, i32_w]
        rfl
      refine take_ (i := 9) (N := some 56) (v := ?_) (a' := ?_) #[true, true, true, true, true, true, true, true, true, true, false] rfl rfl (by kernel_rfl) (fun _ _ _ h => h) (Or.inl ⟨by rfl, ?_⟩) hHeld ?_ ?_
      rotate_left
      · rintro w' ⟨s0, s1, s2, s3, s4⟩
        refine exec_bin (p := .agg P) (q := .agg Q) (v := .bool true) .neq 58 (.tmp 52) (.tmp 55) 58 ?_ ?_ ?_ (guard58 _ _ _ _ _) s4
        · rfl
        · rfl
        · rfl
      rotate_left
      · simp only [Act.put, List.setIfInBounds_toArray, List.set_cons_zero, List.set_cons_succ, i64_w, i32_w]
        rfl
      refine pure_ (i := 10) (N := some 57) (v := ?_) (a' := ?_) #[true, true, true, true, true, true, true, true, true, true, true] rfl rfl (by kernel_rfl) (fun _ _ _ h => h) (Or.inl ⟨by rfl, ?_⟩) ?_ ?_
      rotate_left
      · intro w'
        go_simp
        with_reducible rfl
      rotate_left
      · simp only [Act.put, List.setIfInBounds_toArray, List.set_cons_zero, List.set_cons_succ, i64_w, i32_w]
        rfl
      refine done_ (by kernel_rfl) ?_
      go_wp2_with ((with_reducible refine wpList_store_row rfl 25 (.tmp 2) (.tmp 58) rfl w.heap.size #[.int .u64 0, .int .i64 0, .int .u64 0, .int .u64 0] ?_ ?_ 25 _ HZ5.out (size4 _ _ _ _) ?_ (one4 _ _ _ _) ?_); rfl; rfl; rfl)
      refine ret_cell w.heap.size #[.int .u64 0, .int .i64 0, .int .u64 0, .int .u64 0] (0, 0) rfl (setRow_heap _ _ _ _ _ _ HZ5.out) rfl rfl ⟨?_, below_setRow HB5.out (Nat.le_refl _) _⟩
      unfold sval
      rw [HS.out, HS.out, HS.out, HS.out, HEE.out]
      rfl
  · have hm' : may G B D N = false := by simpa using hm
    have he : takeE b = 23 := by rw [HE.out, if_neg (by omega), if_neg (fun h => hm h.1)]
    have HEE := Lib.hid he
    have HM := Lib.hid hm'
    clear he hm hm'
    go_wp2_with (((with_reducible refine wpList_load_row rfl 25 (.tmp 5) rfl w2.heap.size ?_ 25 _ _ _ H5.out Try.underlying25 ?_ (size4 _ _ _ _) ?_); rfl; rfl))
    refine (put_no G B D N _ HM.out).mono ?_
    rintro e w5 ⟨rfl, hb⟩
    have hz5 : w5.heap[w.heap.size]? = some (.cells #[.int .u64 0, .int .i64 0, .int .u64 0, .int .u64 0] 25 (0, 0)) := by
      rw [hb.block _ (Array.getElem?_eq_some_iff.1 HZ4.out).1]; exact HZ4.out
    have HZ5 := Lib.hid (alloc_row hz5)
    have HB5 := Lib.hid (below_drew (below_then HB4.out HB4.out.size hb))
    have HZD := Lib.hid (show w5.drew.heap[w.heap.size]? = some (.cells #[.int .u64 0, .int .i64 0, .int .u64 0, .int .u64 0] 25 (0, 0)) from hz5)
    clear hz5 hb
    go_wp2_with fail
    refine start_ (n := 11) (S := fun w' => True) (ds := []) #[false, false, false, false, false, false, false, false, false, false, false] (by kernel_rfl) rfl rfl trivial (fun hHeld => ?_)
    refine pure_ (i := 0) (N := some 47) (v := ?_) (a' := ?_) #[true, false, false, false, false, false, false, false, false, false, false] rfl rfl (by kernel_rfl) (fun _ _ _ h => h) (Or.inl ⟨by rfl, ?_⟩) ?_ ?_
    rotate_left
    · intro w'
      go_simp
      with_reducible rfl
    rotate_left
    · simp only [Act.put, List.setIfInBounds_toArray, List.set_cons_zero, List.set_cons_succ, i64_w, i32_w]
      rfl
    refine pure_ (i := 1) (N := some 48) (v := ?_) (a' := ?_) #[true, true, false, false, false, false, false, false, false, false, false] rfl rfl (by kernel_rfl) (fun _ _ _ h => h) (Or.inl ⟨by rfl, ?_⟩) ?_ ?_
    rotate_left
    · intro w'
      go_simp
      with_reducible rfl
    rotate_left
    · simp only [Act.put, List.setIfInBounds_toArray, List.set_cons_zero, List.set_cons_succ, i64_w, i32_w]
      rfl
    refine pure_ (i := 2) (N := some 49) (v := ?_) (a' := ?_) #[true, true, true, false, false, false, false, false, false, false, false] rfl rfl (by kernel_rfl) (fun _ _ _ h => h) (Or.inl ⟨by rfl, ?_⟩) ?_ ?_
    rotate_left
    · intro w'
      go_simp
      with_reducible rfl
    rotate_left
    · simp only [Act.put, List.setIfInBounds_toArray, List.set_cons_zero, List.set_cons_succ, i64_w, i32_w]
      rfl
    refine pure_ (i := 3) (N := some 50) (v := undef) (a' := ?_) #[true, true, true, true, false, false, false, false, false, false, false] rfl rfl (by kernel_rfl) (fun _ _ _ h => h) (Or.inr ⟨by rfl, rfl⟩) ?_ ?_
    rotate_left
    · simp only [Act.put, List.setIfInBounds_toArray, List.set_cons_zero, List.set_cons_succ, i64_w, i32_w]
      rfl
    refine pure_ (i := 4) (N := some 51) (v := undef) (a' := ?_) #[true, true, true, true, true, false, false, false, false, false, false] rfl rfl (by kernel_rfl) (fun _ _ _ h => h) (Or.inr ⟨by rfl, rfl⟩) ?_ ?_
    rotate_left
    · simp only [Act.put, List.setIfInBounds_toArray, List.set_cons_zero, List.set_cons_succ, i64_w, i32_w]
      rfl
    refine pure_ (i := 5) (N := some 52) (v := undef) (a' := ?_) #[true, true, true, true, true, true, false, false, false, false, false] rfl rfl (by kernel_rfl) (fun _ _ _ h => h) (Or.inr ⟨by rfl, rfl⟩) ?_ ?_
    rotate_left
    · simp only [Act.put, List.setIfInBounds_toArray, List.set_cons_zero, List.set_cons_succ, i64_w, i32_w]
      rfl
    refine pure_ (i := 6) (N := some 53) (v := undef) (a' := ?_) #[true, true, true, true, true, true, true, false, false, false, false] rfl rfl (by kernel_rfl) (fun _ _ _ h => h) (Or.inr ⟨by rfl, rfl⟩) ?_ ?_
    rotate_left
    · simp only [Act.put, List.setIfInBounds_toArray, List.set_cons_zero, List.set_cons_succ, i64_w, i32_w]
      rfl
    refine pure_ (i := 7) (N := some 54) (v := undef) (a' := ?_) #[true, true, true, true, true, true, true, true, false, false, false] rfl rfl (by kernel_rfl) (fun _ _ _ h => h) (Or.inr ⟨by rfl, rfl⟩) ?_ ?_
    rotate_left
    · simp only [Act.put, List.setIfInBounds_toArray, List.set_cons_zero, List.set_cons_succ, i64_w, i32_w]
      rfl
    refine pure_ (i := 8) (N := some 55) (v := undef) (a' := ?_) #[true, true, true, true, true, true, true, true, true, false, false] rfl rfl (by kernel_rfl) (fun _ _ _ h => h) (Or.inr ⟨by rfl, rfl⟩) ?_ ?_
    rotate_left
    · simp only [Act.put, List.setIfInBounds_toArray, List.set_cons_zero, List.set_cons_succ, i64_w, i32_w]
      rfl
    refine pure_ (i := 9) (N := some 56) (v := undef) (a' := ?_) #[true, true, true, true, true, true, true, true, true, true, false] rfl rfl (by kernel_rfl) (fun _ _ _ h => h) (Or.inr ⟨by rfl, rfl⟩) ?_ ?_
    rotate_left
    · simp only [Act.put, List.setIfInBounds_toArray, List.set_cons_zero, List.set_cons_succ, i64_w, i32_w]
      rfl
    refine pure_ (i := 10) (N := some 57) (v := ?_) (a' := ?_) #[true, true, true, true, true, true, true, true, true, true, true] rfl rfl (by kernel_rfl) (fun _ _ _ h => h) (Or.inl ⟨by rfl, ?_⟩) ?_ ?_
    rotate_left
    · intro w'
      go_simp
      with_reducible rfl
    rotate_left
    · simp only [Act.put, List.setIfInBounds_toArray, List.set_cons_zero, List.set_cons_succ, i64_w, i32_w]
      rfl
    refine done_ (by kernel_rfl) ?_
    go_wp2_with ((with_reducible refine wpList_store_row rfl 25 (.tmp 2) (.tmp 58) rfl w.heap.size #[.int .u64 0, .int .i64 0, .int .u64 0, .int .u64 0] ?_ ?_ 25 _ HZD.out (size4 _ _ _ _) ?_ (one4 _ _ _ _) ?_); rfl; rfl; rfl)
    refine ret_cell w.heap.size #[.int .u64 0, .int .i64 0, .int .u64 0, .int .u64 0] (0, 0) rfl (setRow_heap _ _ _ _ _ _ HZD.out) rfl rfl ⟨?_, below_setRow HB5.out (Nat.le_refl _) _⟩
    unfold sval
    rw [HS.out, HS.out, HS.out, HS.out, HEE.out]
    rfl
set_option maxRecDepth 100000 in
set_option maxHeartbeats 3200000 in
theorem take_any (b : List Int) (A : Option Addr) (n c : Nat) (w : World) (HR : ReadsInt w .u8 A n b) (hw : ∀ x ∈ b, (Lit.int .u8 x).wf = true) (hc : n ≤ c) :
    Calls Try.prog 14 #[.slice A n c] w fun e w' => e = .returned (.tuple #[sval (takeS b), .int .i64 (takeE b)]) ∧ Below w.heap.size w w' := by
  have hl := HR.1
  subst hl
  by_cases hs : b.length < 64
  · have he : takeE b = 4 := if_pos hs
    have hS : ∀ i, takeS b i = 0 := fun i => if_neg (by rw [he]; decide)
    have hs' : decide ((b.length : Int) < 64) = true := decide_eq_true (by omega)
    have HE := Lib.hid he
    have HS := Lib.hid hS
    clear he HR hS hw hc
    go_enter Try.func14, Try.ntmps14
    go_wp2_with fail
    refine ret_cell _ #[.int .u64 0, .int .i64 0, .int .u64 0, .int .u64 0] (0, 0) rfl (heap_alloc_new _ _) rfl rfl ⟨?_, (Below.refl _ _).alloc (Nat.le_refl _) _⟩
    unfold sval
    rw [HE.out, HS.out, HS.out, HS.out, HS.out]
    rfl
  by_cases hg : 64 < b.length
  · have he : takeE b = 3 := by rw [takeE, if_neg hs, if_pos hg]
    have hS : ∀ i, takeS b i = 0 := fun i => if_neg (by rw [he]; decide)
    have HE := Lib.hid he
    have HS := Lib.hid hS
    have hs2 : decide ((b.length : Int) < 64) = false := decide_eq_false (by omega)
    have hg2 : decide (64 < (b.length : Int)) = true := decide_eq_true (by omega)
    clear he HR hs hg hc hw hS
    obtain ⟨N, hN⟩ : ∃ N, N = b.length := ⟨_, rfl⟩
    rw [← hN] at hs2 hg2 ⊢
    have HN := Lib.hid hN
    clear hN
    go_enter Try.func14, Try.ntmps14
    go_wp2_with fail
    refine ret_cell _ #[.int .u64 0, .int .i64 0, .int .u64 0, .int .u64 0] (0, 0) rfl (heap_alloc_new _ _) rfl rfl ⟨?_, (Below.refl _ _).alloc (Nat.le_refl _) _⟩
    unfold sval
    rw [HE.out, HS.out, HS.out, HS.out, HS.out]
    rfl
  have hl : b.length = 64 := by omega
  clear hs hg
  rw [hl] at HR hc ⊢
  exact take_64 b A c w HR hw hc
end Go.Proofs.Ytnnclfaibcedoaa.Sup
