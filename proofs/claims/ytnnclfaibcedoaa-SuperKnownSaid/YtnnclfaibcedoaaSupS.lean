/- torn, by its contract (every input). -/
import Derived.Test.YtnnclfaibcedoaaSupR
set_option linter.unusedVariables false
set_option linter.unusedSimpArgs false
namespace Go.Proofs.Ytnnclfaibcedoaa.Sup
open Go Go.RowKit Go.Proofs.YtnnclfaibcedoaaW.PrintWords Go.Proofs.YtnnclfaibcedoaaW.PrintLast Go.Proofs.YtnnclfaibcedoaaW.PrintMore Base Odr

/-- 'append(v, ys...)', v a row of the call's own (perhaps empty, but with an address), ys bytes that are read: its run. -/
theorem run_append_bytes {w : World} {base g n cap m c : Nat} {A : Option Addr} {xs ys : List Int} (hown : w.ownsRow base 5 1 (.slice (some ⟨g, 0, none⟩) n cap) n (nums .u8 xs)) (HR : ReadsInt w .u8 A m ys) (hs : n + m ≤ 100000) (hb : base ≤ w.heap.size) :
    ∃ g' c' w', (∀ ty, (Builtin.append_ #[22, 22] ty #[.slice (some ⟨g, 0, none⟩) n cap, .slice A m c]).run Try.prog w = .ok (.slice (some ⟨g', 0, none⟩) (n + m) c') w') ∧ w'.ownsRow base 5 1 (.slice (some ⟨g', 0, none⟩) (n + m) c') (n + m) (nums .u8 (xs ++ ys)) ∧ w.grownBy w' (some g) := by
  obtain ⟨i, hi, hzz⟩ := Option.map_eq_some_iff.1 info8
  simp only [Prod.mk.injEq] at hzz
  obtain ⟨hz0, hz1, hz2⟩ := hzz
  have hm : ys.length = m := HR.1
  have hnc : n ≤ cap := own_cap hown
  rcases A with _ | ad
  · have h0 : m = 0 := by
      rcases Nat.eq_zero_or_pos m with h0 | h0
      · exact h0
      · obtain ⟨ad, h, _⟩ := HR.2.2 h0; cases h
    subst h0
    obtain rfl : ys = [] := List.eq_nil_of_length_eq_zero hm
    refine ⟨g, cap, w, fun ty => ?_, by simpa using hown, World.grownBy.refl w _⟩
    simp [Builtin.append_, run_underlying Try.underlying22, sizeOf, typeInfo, hi, Builtin.lenOf, Builtin.firstCells, hnc, storeCells]
  · have hcells : ∀ j u, (nums .u8 ys)[j]? = some u → w.cell? (ad.add j) = some u := by
      intro j u hu
      have hj : j < ys.length := by have := (List.getElem?_eq_some_iff.1 hu).1; rwa [nums_length] at this
      obtain ⟨ad', h', hc⟩ := HR.2.2 (by omega)
      injection h' with h'
      subst h'
      rw [hc j (by omega)]
      simp [nums, hj] at hu
      rw [← hu]; simp [rd, hj]
    obtain ⟨v1, w1, hr, h2, h3, h4, h5⟩ := run_append_own_at (P := Try.prog) w base 22 0 5 i (.int .u8 0) 1 1 Try.underlying22 hi hz0 hz1 hz2 rfl (by omega) (.slice (some ⟨g, 0, none⟩) n cap) n (nums .u8 xs) hown ad m c (nums .u8 ys) (by rw [nums_length]; omega) hcells
      (by intro u hu; simp only [nums, List.mem_map] at hu; obtain ⟨q, _, rfl⟩ := hu; rfl) (by simp only [maxLen]; omega) (by omega) hb
    have e2 : nums .u8 xs ++ nums .u8 ys = nums .u8 (xs ++ ys) := by simp [nums]
    rw [e2] at h2
    have hf := h2.2
    rcases hf with ⟨h, -⟩ | ⟨g', cap', cur, rfl, -⟩
    · exact absurd (h4.1 h).1 (by simp)
    · refine ⟨g', cap', w1, fun ty => ?_, h2, h3⟩
      have : (Builtin.append_ #[22, 22] ty #[.slice (some ⟨g, 0, none⟩) n cap, .slice (some ad) m c]) = (Builtin.append_ #[22, 22] 0 #[.slice (some ⟨g, 0, none⟩) n cap, .slice (some ad) m c]) := rfl
      rw [this]; exact hr
theorem exec_append {ev : Operand → Value} {o : Oper} {w w' : World} {v u r : Value} (s x : Operand) (ho : o.op = .call { callee := .builtin .append, args := #[s, x], argTypes := #[22, 22] }) (hs : ev s = v) (hx : ev x = u)
    (hr : ∀ ty, (Builtin.append_ #[22, 22] ty #[v, u]).run Try.prog w = .ok r w') : (execOp ev o).run Try.prog w = .ok (.value r) w' := by
  unfold execOp
  simp only [ho, resolve, invoke, builtin, Sem.run_bind, Sem.run_pure, Result.andThen_ok, List.map_toArray, List.map_cons, List.map_nil, hs, hx, hr]
set_option maxRecDepth 100000 in
set_option maxHeartbeats 1600000 in
theorem torn_any (xs ys : List Int) (A1 A2 : Option Addr) (c1 c2 n : Nat) (w : World) (H1 : ReadsInt w .u8 A1 64 xs) (H2 : ReadsInt w .u8 A2 64 ys) (hc1 : 64 ≤ c1) (hc2 : 64 ≤ c2) (hn : n ≤ 64) :
    Calls Try.prog 15 #[.slice A1 64 c1, .slice A2 64 c2, .int .i64 (n : Int)] w fun e w' => ∃ A' c', e = .returned (.slice A' 64 c') ∧ w'.ownsRow w.heap.size 5 1 (.slice A' 64 c') 64 (nums .u8 (xs.take n ++ ys.drop n)) ∧ Below w.heap.size w w' := by
  obtain ⟨i0, hi0, hs0⟩ := info8'
  obtain ⟨A3, hA3, hr3⟩ := print_cut (P := Try.prog) 22 5 .i64 Try.underlying22 hi0 hs0 A2 64 c2 n hn
  have hnc : n ≤ c1 := by omega
  have b0 : Below w.heap.size w (w.drew.alloc (.cells #[] 5)) := (below_drew (Below.refl _ _)).alloc (Nat.le_refl _) _
  have o0 : (w.drew.alloc (.cells #[] 5)).ownsRow w.heap.size 5 1 (.slice (some ⟨w.heap.size, 0, none⟩) 0 0) 0 (nums .u8 []) := own_lit w.drew w.heap.size 5 .u8 [] (Nat.le_refl _) (by simp)
  obtain ⟨g1, k1, w1, r1, o1, q1⟩ := run_append_bytes (c := c1) o0 (ReadsInt.below (H1.take_ n hn) b0) (by omega) b0.size
  have b1 : Below w.heap.size w w1 := pw_below_grown b0 _ b0.size q1 (fun k hk => own_base o0 k hk)
  obtain ⟨g2, k2, w2, r2, o2, q2⟩ := run_append_bytes (c := c2 - n) o1 (ReadsInt.below (hr3 _ _ _ hc2 H2) b1) (by omega) b1.size
  have b2 : Below w.heap.size w w2 := pw_below_grown b1 _ b1.size q2 (fun k hk => own_base o1 k hk)
  rw [Nat.zero_add] at r1 r2 o1 o2
  rw [show n + (64 - n) = 64 by omega, List.nil_append] at o2
  rw [show n + (64 - n) = 64 by omega] at r2
  have R1 := Lib.hid r1
  have R2 := Lib.hid r2
  have O2 := Lib.hid o2
  have B2 := Lib.hid b2
  clear r1 r2 o0 o1 o2 b0 b1 b2 q1 q2 hr3 hi0 hs0 i0 H1 H2
  go_enter Try.func15, Try.ntmps15
  go_wp2_with fail
  refine start_ (n := 10) (S := fun w' => True) (ds := [8]) #[false, false, false, false, false, false, false, false, false, false] (by kernel_rfl) rfl rfl trivial (fun hHeld => ?_)
  refine pure_ (i := 1) (N := some 8) (v := ?_) (a' := ?_) #[false, true, false, false, false, false, false, false, false, false] rfl rfl (by kernel_rfl) (fun _ _ _ h => h) (Or.inl ⟨by rfl, ?_⟩) ?_ ?_
  rotate_left
  · intro w'
    go_simp
    with_reducible rfl
  rotate_left
  · simp only [Act.put, List.setIfInBounds_toArray, List.set_cons_zero, List.set_cons_succ, i64_w, i32_w]
    rfl
  refine pure_ (i := 2) (N := some 9) (v := ?_) (a' := ?_) #[false, true, true, false, false, false, false, false, false, false] rfl rfl (by kernel_rfl) (fun _ _ _ h => h) (Or.inl ⟨by rfl, ?_⟩) ?_ ?_
  rotate_left
  · intro w'
    go_simp
    with_reducible rfl
  rotate_left
  · simp only [Act.put, List.setIfInBounds_toArray, List.set_cons_zero, List.set_cons_succ, i64_w, i32_w]
    rfl
  refine pure_ (i := 3) (N := some 10) (v := ?_) (a' := ?_) #[false, true, true, true, false, false, false, false, false, false] rfl rfl (by kernel_rfl) (fun _ _ _ h => h) (Or.inl ⟨by rfl, ?_⟩) ?_ ?_
  rotate_left
  · intro w'
    go_simp
    with_reducible rfl
  rotate_left
  · simp only [Act.put, List.setIfInBounds_toArray, List.set_cons_zero, List.set_cons_succ, i64_w, i32_w]
    rfl
  refine pure_ (i := 5) (N := some 12) (v := ?_) (a' := ?_) #[false, true, true, true, false, true, false, false, false, false] rfl rfl (by kernel_rfl) (fun _ _ _ h => h) (Or.inl ⟨by rfl, ?_⟩) ?_ ?_
  rotate_left
  · intro w'
    go_simp
    with_reducible rfl
  rotate_left
  · simp only [Act.put, List.setIfInBounds_toArray, List.set_cons_zero, List.set_cons_succ, i64_w, i32_w]
    rfl
  refine pure_ (i := 6) (N := some 13) (v := ?_) (a' := ?_) #[false, true, true, true, false, true, true, false, false, false] rfl rfl (by kernel_rfl) (fun _ _ _ h => h) (Or.inl ⟨by rfl, ?_⟩) ?_ ?_
  rotate_left
  · intro w'
    go_simp
    with_reducible rfl
  rotate_left
  · simp only [Act.put, List.setIfInBounds_toArray, List.set_cons_zero, List.set_cons_succ, i64_w, i32_w]
    rfl
  refine pure_ (i := 7) (N := some 14) (v := ?_) (a' := ?_) #[false, true, true, true, false, true, true, true, false, false] rfl rfl (by kernel_rfl) (fun _ _ _ h => h) (Or.inl ⟨by rfl, ?_⟩) ?_ ?_
  rotate_left
  · intro w'
    go_simp
    with_reducible rfl
  rotate_left
  · simp only [Act.put, List.setIfInBounds_toArray, List.set_cons_zero, List.set_cons_succ, i64_w, i32_w]
    rfl
  refine one_ (i := 0) (N := some 7) #[true, true, true, true, false, true, true, true, false, false] rfl rfl (by kernel_rfl) (by decide) (fun K hK => ?_)
  refine value_ (w1 := ?_) (v := ?_) (by rfl) rfl ?_ ?_
  rotate_left 2
  · go_simp
    constructor
    · rfl
    · rfl
  refine hK.out _ _ trivial (fun hHeld => ?_)
  clear hK K
  refine norm_ (a' := ?_) ?_ ?_
  rotate_left
  · show Act.put _ (some 7) _ = _
    simp only [Act.put, List.setIfInBounds_toArray, List.set_cons_zero, List.set_cons_succ, i64_w, i32_w]
    rfl
  refine one_ (i := 4) (N := some 11) #[true, true, true, true, true, true, true, true, false, false] rfl rfl (by kernel_rfl) (by decide) (fun K hK => ?_)
  refine value_ (w1 := w1) (v := .slice (some ⟨g1, 0, none⟩) n k1) (by rfl) rfl (exec_append (.tmp 7) (.tmp 10) ?_ ?_ ?_ R1.out) ?_
  · rfl
  · rfl
  · rfl
  refine hK.out _ _ trivial (fun hHeld => ?_)
  clear hK K
  refine norm_ (a' := ?_) ?_ ?_
  rotate_left
  · show Act.put _ (some 11) _ = _
    simp only [Act.put, List.setIfInBounds_toArray, List.set_cons_zero, List.set_cons_succ, i64_w, i32_w]
    rfl
  refine last_ (i := 8) (N := some 15) #[true, true, true, true, true, true, true, true, true, false] rfl rfl (by kernel_rfl) (by decide) (fun K hK => ?_)
  refine value_ (w1 := w2) (v := .slice (some ⟨g2, 0, none⟩) 64 k2) (by rfl) rfl (exec_append (.tmp 11) (.tmp 14) ?_ ?_ ?_ R2.out) ?_
  · rfl
  · rfl
  · rfl
  refine hK.out _ _ ?_
  clear hK K
  refine norm_ (a' := ?_) ?_ ?_
  rotate_left
  · show Act.put _ (some 15) _ = _
    simp only [Act.put, List.setIfInBounds_toArray, List.set_cons_zero, List.set_cons_succ, i64_w, i32_w]
    rfl
  refine pure_ (i := 9) (N := some 6) (v := ?_) (a' := ?_) #[true, true, true, true, true, true, true, true, true, true] rfl rfl (by kernel_rfl) (fun _ _ _ h => h) (Or.inl ⟨by rfl, ?_⟩) ?_ ?_
  rotate_left
  · intro w'
    go_simp
    with_reducible rfl
  rotate_left
  · simp only [Act.put, List.setIfInBounds_toArray, List.set_cons_zero, List.set_cons_succ, i64_w, i32_w]
    rfl
  refine done_ (by kernel_rfl) ?_
  go_wp2_with fail
  go_ret
  exact ⟨_, _, rfl, O2.out, B2.out⟩
end Go.Proofs.Ytnnclfaibcedoaa.Sup
