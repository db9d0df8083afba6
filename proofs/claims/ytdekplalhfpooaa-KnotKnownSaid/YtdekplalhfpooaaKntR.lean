/- Knots: the document's Split, by its contract (every input). -/
import Derived.BigQuiet
import Derived.Test.YtdekplalhfpooaaKntQ
set_option linter.unusedVariables false
set_option linter.unusedSimpArgs false
namespace Go.Proofs.Ytdekplalhfpooaa.Knt
open Go Go.RowKit Go.Proofs.YtdekplalhfpooaaW.PrintWords Go.Proofs.YtdekplalhfpooaaW.PrintLast Go.Proofs.YtdekplalhfpooaaW.PrintMore Base Odr Hlp Nod

theorem wrap_small {n : Nat} (h : n < 17592186044417) : wrap64 (n : Int) = (n : Int) ∧ IntKind.i64.wrap (n : Int) = (n : Int) := by
  have h1 : wrap64 (n : Int) = (n : Int) := by unfold wrap64; omega
  exact ⟨h1, by rw [i64_w]; exact h1⟩
set_option maxRecDepth 100000 in
set_option maxHeartbeats 6400000 in
theorem rsplit_at (L : Bool) (Ks Vs : List Int) (ak av : Option Addr) (nk ck nv cv m h d : Nat) (w : World) (HK : ReadsInt w .u64 ak nk Ks) (HV : ReadsInt w .u64 av nv Vs) (hm : min nk nv = m) (hh : (m + 1) / 2 = h) (hd : m - h = d) (hs : m * 8 ≤ 140737488355328) :
    Calls Try.prog 24 #[.agg #[.bool L, .slice ak nk ck, .slice av nv cv]] w fun e w' => N2 w w' e L h d (cut Ks 0 h) (cut Vs 0 h) (cut Ks h m) (cut Vs h m) := by
  obtain ⟨w1, hw1, b1, f1, s1⟩ := made w #[.bool L, .slice ak nk ck, .slice av nv cv] 24
  obtain ⟨w2, hw2, b2, f2, s2⟩ := made w1 #[.bool false, .slice none 0 0, .slice none 0 0] 24
  obtain ⟨w3, hw3, b3, f3, s3⟩ := made w2 #[.bool false, .slice none 0 0, .slice none 0 0] 24
  have B3 := Lib.hid (below_then' (below_then' b1 b2) b3)
  have P3 := Lib.hid (keep_row (keep_row f1 b2) b3)
  have Q3 := Lib.hid (keep_row f2 b3)
  have F3 := Lib.hid f3
  have SZ := Lib.hid (show w.heap.size ≤ w1.heap.size ∧ w1.heap.size < w2.heap.size ∧ w2.heap.size < w3.heap.size by omega)
  have RK := Lib.hid (And.intro (HK.below B3.out) (HV.below B3.out))
  have HM := Lib.hid (And.intro hm (And.intro HK.2.1 HV.2.1))
  have HE := Lib.hid (show h ≤ nk ∧ h ≤ nv ∧ m ≤ nk ∧ m ≤ nv ∧ h + d = m ∧ h * 8 ≤ 140737488355328 by omega)
  have HS := Lib.hid hs
  obtain ⟨x, hx⟩ : ∃ x, m / 2 = x := ⟨_, rfl⟩
  have qx : (m : Int) / 2 = (x : Int) := by omega
  have qx2 : Int.tdiv (m : Int) 2 = (x : Int) := by rw [Int.tdiv_eq_ediv_of_nonneg (by omega)]; exact qx
  have qh : (m : Int) - (x : Int) = (h : Int) := by omega
  have bx : x < 17592186044417 := by omega
  have bh : h < 17592186044417 := by omega
  obtain ⟨wx, ix⟩ := wrap_small bx
  obtain ⟨wh, ih⟩ := wrap_small bh
  clear bx bh
  clear b1 f1 s1 b2 f2 s2 b3 f3 s3 HK HV hm hh hd hs hx
  go_enter Try.func24, Try.ntmps24
  go_wp2_with fail
  clear hw1 hw2 hw3
  refine start_ (n := 7) (S := fun w' => w'.cell? ⟨w.heap.size, 0, none⟩ = some (.bool L) ∧ w'.cell? ⟨w.heap.size, 1, none⟩ = some (.slice ak nk ck) ∧ w'.cell? ⟨w.heap.size, 2, none⟩ = some (.slice av nv cv)) (ds := []) #[false, false, false, false, false, false, false] (by kernel_rfl) rfl rfl ⟨cell_row P3.out rfl, cell_row P3.out rfl, cell_row P3.out rfl⟩ (fun hHeld => ?_)
  refine take_ (i := 0) (N := some 5) (v := ?_) (a' := ?_) #[true, false, false, false, false, false, false] rfl rfl (by kernel_rfl) (fun _ _ _ h => h) (Or.inl ⟨by rfl, ?_⟩) hHeld ?_ ?_
  rotate_left
  · rintro w' ⟨s0, s1, s2⟩
    go_simp
    with_reducible rfl
  rotate_left
  · simp only [Act.put, List.setIfInBounds_toArray, List.set_cons_zero, List.set_cons_succ, i64_w, i32_w]
    rfl
  refine take_ (i := 2) (N := some 7) (v := ?_) (a' := ?_) #[true, false, true, false, false, false, false] rfl rfl (by kernel_rfl) (fun _ _ _ h => h) (Or.inl ⟨by rfl, ?_⟩) hHeld ?_ ?_
  rotate_left
  · rintro w' ⟨s0, s1, s2⟩
    go_simp
    with_reducible rfl
  rotate_left
  · simp only [Act.put, List.setIfInBounds_toArray, List.set_cons_zero, List.set_cons_succ, i64_w, i32_w]
    rfl
  refine one_ (i := 1) (N := some 6) #[true, true, true, false, false, false, false] rfl rfl (by kernel_rfl) (by decide) (fun K hK => ?_)
  refine goes_ Try.func46 (by kernel_rfl) rfl #[.agg #[.bool L, .slice ak nk ck, .slice av nv cv]] (by rfl) rfl rfl (by simp only [List.map_toArray, List.map_cons, List.map_nil]; rfl) ?_
  with_reducible refine (pairs_at L ak av nk ck nv cv m _ HM.out.1 HM.out.2.1 HM.out.2.2).mono ?_
  rintro e w4 ⟨rfl, hb⟩
  refine ⟨_, rfl, ?_⟩
  have B4 := Lib.hid (below_then (below_drew (Below.refl w3.heap.size w3)) (Nat.le_refl _) hb)
  clear hb
  refine hK.out _ _ ⟨cell_row (keep_row P3.out B4.out) rfl, cell_row (keep_row P3.out B4.out) rfl, cell_row (keep_row P3.out B4.out) rfl⟩ (fun hHeld => ?_)
  clear hK K
  refine norm_ (a' := ?_) ?_ ?_
  rotate_left
  · show Act.put _ (some 6) _ = _
    simp only [Act.put, List.setIfInBounds_toArray, List.set_cons_zero, List.set_cons_succ, i64_w, i32_w]
    rfl
  refine one_ (i := 3) (N := some 8) #[true, true, true, true, false, false, false] rfl rfl (by kernel_rfl) (by decide) (fun K hK => ?_)
  refine goes_ Try.func46 (by kernel_rfl) rfl #[.agg #[.bool L, .slice ak nk ck, .slice av nv cv]] (by rfl) rfl rfl (by simp only [List.map_toArray, List.map_cons, List.map_nil]; rfl) ?_
  with_reducible refine (pairs_at L ak av nk ck nv cv m _ HM.out.1 HM.out.2.1 HM.out.2.2).mono ?_
  rintro e w5 ⟨rfl, hb⟩
  refine ⟨_, rfl, ?_⟩
  have B5 := Lib.hid (below_then' B4.out hb)
  clear hb
  refine hK.out _ _ ⟨cell_row (keep_row P3.out B5.out) rfl, cell_row (keep_row P3.out B5.out) rfl, cell_row (keep_row P3.out B5.out) rfl⟩ (fun hHeld => ?_)
  clear hK K
  refine norm_ (a' := ?_) ?_ ?_
  rotate_left
  · show Act.put _ (some 8) _ = _
    simp only [Act.put, List.setIfInBounds_toArray, List.set_cons_zero, List.set_cons_succ, i64_w, i32_w]
    rfl
  refine pure_ (i := 4) (N := some 9) (v := ?_) (a' := ?_) #[true, true, true, true, true, false, false] rfl rfl (by kernel_rfl) (fun _ _ _ h => h) (Or.inl ⟨by rfl, ?_⟩) ?_ ?_
  rotate_left
  · intro w'
    go_simp
    with_reducible rfl
  rotate_left
  · simp only [Act.put, List.setIfInBounds_toArray, List.set_cons_zero, List.set_cons_succ, i64_w, i32_w]
    rfl
  refine pure_ (i := 5) (N := some 10) (v := ?_) (a' := ?_) #[true, true, true, true, true, true, false] rfl rfl (by kernel_rfl) (fun _ _ _ h => h) (Or.inl ⟨by rfl, ?_⟩) ?_ ?_
  rotate_left
  · intro w'
    go_simp
    with_reducible rfl
  rotate_left
  · simp only [Act.put, List.setIfInBounds_toArray, List.set_cons_zero, List.set_cons_succ, i64_w, i32_w]
    rfl
  refine pure_ (i := 6) (N := some 4) (v := ?_) (a' := ?_) #[true, true, true, true, true, true, true] rfl rfl (by kernel_rfl) (fun _ _ _ h => h) (Or.inl ⟨by rfl, ?_⟩) ?_ ?_
  rotate_left
  · intro w'
    go_simp
    with_reducible rfl
  rotate_left
  · simp only [Act.put, List.setIfInBounds_toArray, List.set_cons_zero, List.set_cons_succ, i64_w, i32_w]
    rfl
  refine done_ (by kernel_rfl) ?_
  clear hHeld qx qx2 qh wx wh ix ih
  go_wp2_with fail
  refine start_ (n := 10) (S := fun w' => w'.cell? ⟨w.heap.size, 0, none⟩ = some (.bool L) ∧ w'.cell? ⟨w.heap.size, 1, none⟩ = some (.slice ak nk ck) ∧ w'.cell? ⟨w.heap.size, 2, none⟩ = some (.slice av nv cv)) (ds := [8, 9]) #[false, false, false, false, false, false, false, false, false, false] (by kernel_rfl) rfl rfl ⟨cell_row (keep_row P3.out (below_drew B5.out)) rfl, cell_row (keep_row P3.out (below_drew B5.out)) rfl, cell_row (keep_row P3.out (below_drew B5.out)) rfl⟩ (fun hHeld => ?_)
  refine pure_ (i := 1) (N := some 12) (v := ?_) (a' := ?_) #[false, true, false, false, false, false, false, false, false, false] rfl rfl (by kernel_rfl) (fun _ _ _ h => h) (Or.inl ⟨by rfl, ?_⟩) ?_ ?_
  rotate_left
  · intro w'
    go_simp
    with_reducible rfl
  rotate_left
  · simp only [Act.put, List.setIfInBounds_toArray, List.set_cons_zero, List.set_cons_succ, i64_w, i32_w]
    rfl
  refine pure_ (i := 4) (N := some 15) (v := ?_) (a' := ?_) #[false, true, false, false, true, false, false, false, false, false] rfl rfl (by kernel_rfl) (fun _ _ _ h => h) (Or.inl ⟨by rfl, ?_⟩) ?_ ?_
  rotate_left
  · intro w'
    go_simp
    with_reducible rfl
  rotate_left
  · simp only [Act.put, List.setIfInBounds_toArray, List.set_cons_zero, List.set_cons_succ, i64_w, i32_w]
    rfl
  refine take_ (i := 0) (N := some 11) (v := ?_) (a' := ?_) #[true, true, false, false, true, false, false, false, false, false] rfl rfl (by kernel_rfl) (fun _ _ _ h => h) (Or.inl ⟨by rfl, ?_⟩) hHeld ?_ ?_
  rotate_left
  · rintro w' ⟨s0, s1, s2⟩
    go_simp
    with_reducible rfl
  rotate_left
  · simp only [Act.put, List.setIfInBounds_toArray, List.set_cons_zero, List.set_cons_succ, i64_w, i32_w]
    rfl
  refine take_ (i := 3) (N := some 14) (v := ?_) (a' := ?_) #[true, true, false, true, true, false, false, false, false, false] rfl rfl (by kernel_rfl) (fun _ _ _ h => h) (Or.inl ⟨by rfl, ?_⟩) hHeld ?_ ?_
  rotate_left
  · rintro w' ⟨s0, s1, s2⟩
    go_simp
    with_reducible rfl
  rotate_left
  · simp only [Act.put, List.setIfInBounds_toArray, List.set_cons_zero, List.set_cons_succ, i64_w, i32_w]
    rfl
  refine take_ (i := 5) (N := some 16) (v := ?_) (a' := ?_) #[true, true, false, true, true, true, false, false, false, false] rfl rfl (by kernel_rfl) (fun _ _ _ h => h) (Or.inl ⟨by rfl, ?_⟩) hHeld ?_ ?_
  rotate_left
  · rintro w' ⟨s0, s1, s2⟩
    go_simp
    with_reducible rfl
  rotate_left
  · simp only [Act.put, List.setIfInBounds_toArray, List.set_cons_zero, List.set_cons_succ, i64_w, i32_w]
    rfl
  refine one_ (i := 2) (N := some 13) #[true, true, true, true, true, true, false, false, false, false] rfl rfl (by kernel_rfl) (by decide) (fun K hK => ?_)
  refine goes_ Try.func52 (by kernel_rfl) rfl #[.agg #[.bool L, .slice ak nk ck, .slice av nv cv], .int .i64 0, .int .i64 (h : Int)] (by rfl) rfl rfl (by simp only [List.map_toArray, List.map_cons, List.map_nil]; rfl) ?_
  with_reducible refine (part_all L Ks Vs ak av nk ck nv cv h _ (RK.out.1.below (below_drew B5.out)) (RK.out.2.below (below_drew B5.out)) HE.out.1 HE.out.2.1 HE.out.2.2.2.2.2).mono ?_
  rintro e w6 ⟨A6, c6, A6x, c6x, rfl, ho1, ho2, hl1, hl2, hap, hb⟩
  refine ⟨_, rfl, ?_⟩
  have B6 := Lib.hid (below_then (below_drew B5.out) B5.out.size hb)
  have O6 := Lib.hid (And.intro ho1 (And.intro ho2 (And.intro hl1 (And.intro hl2 hap))))
  have S6 := Lib.hid hb.size
  clear hb ho1 ho2 hl1 hl2 hap
  refine hK.out _ _ ⟨cell_row (keep_row P3.out B6.out) rfl, cell_row (keep_row P3.out B6.out) rfl, cell_row (keep_row P3.out B6.out) rfl⟩ (fun hHeld => ?_)
  clear hK K
  refine norm_ (a' := ?_) ?_ ?_
  rotate_left
  · show Act.put _ (some 13) _ = _
    simp only [Act.put, List.setIfInBounds_toArray, List.set_cons_zero, List.set_cons_succ, i64_w, i32_w]
    rfl
  refine one_ (i := 6) (N := some 17) #[true, true, true, true, true, true, true, false, false, false] rfl rfl (by kernel_rfl) (by decide) (fun K hK => ?_)
  refine goes_ Try.func46 (by kernel_rfl) rfl #[.agg #[.bool L, .slice ak nk ck, .slice av nv cv]] (by rfl) rfl rfl (by simp only [List.map_toArray, List.map_cons, List.map_nil]; rfl) ?_
  with_reducible refine (pairs_at L ak av nk ck nv cv m _ HM.out.1 HM.out.2.1 HM.out.2.2).mono ?_
  rintro e w7 ⟨rfl, hb⟩
  refine ⟨_, rfl, ?_⟩
  have B7 := Lib.hid (below_then' B6.out hb)
  have C7 := Lib.hid hb
  clear hb
  refine hK.out _ _ ⟨cell_row (keep_row P3.out B7.out) rfl, cell_row (keep_row P3.out B7.out) rfl, cell_row (keep_row P3.out B7.out) rfl⟩ (fun hHeld => ?_)
  clear hK K
  refine norm_ (a' := ?_) ?_ ?_
  rotate_left
  · show Act.put _ (some 17) _ = _
    simp only [Act.put, List.setIfInBounds_toArray, List.set_cons_zero, List.set_cons_succ, i64_w, i32_w]
    rfl
  refine one_ (i := 7) (N := some 18) #[true, true, true, true, true, true, true, true, false, false] rfl rfl (by kernel_rfl) (by decide) (fun K hK => ?_)
  refine goes_ Try.func52 (by kernel_rfl) rfl #[.agg #[.bool L, .slice ak nk ck, .slice av nv cv], .int .i64 (h : Int), .int .i64 (m : Int)] (by rfl) rfl rfl (by simp only [List.map_toArray, List.map_cons, List.map_nil]; rfl) ?_
  with_reducible refine (part_own L Ks Vs ak av nk ck nv cv h m d _ (RK.out.1.below B7.out) (RK.out.2.below B7.out) HE.out.2.2.2.2.1 HE.out.2.2.1 HE.out.2.2.2.1 HS.out).mono ?_
  rintro e w8 ⟨A8, c8, A8x, c8x, rfl, ho1, ho2, hl1, hl2, hap, hb⟩
  refine ⟨_, rfl, ?_⟩
  have B8 := Lib.hid (below_then' B7.out hb)
  have C8 := Lib.hid hb
  have O8 := Lib.hid (And.intro ho1 (And.intro ho2 (And.intro hl1 (And.intro hl2 hap))))
  clear hb ho1 ho2 hl1 hl2 hap
  refine hK.out _ _ ⟨cell_row (keep_row P3.out B8.out) rfl, cell_row (keep_row P3.out B8.out) rfl, cell_row (keep_row P3.out B8.out) rfl⟩ (fun hHeld => ?_)
  clear hK K
  refine norm_ (a' := ?_) ?_ ?_
  rotate_left
  · show Act.put _ (some 18) _ = _
    simp only [Act.put, List.setIfInBounds_toArray, List.set_cons_zero, List.set_cons_succ, i64_w, i32_w]
    rfl
  refine last_ (i := 8) (N := none) #[true, true, true, true, true, true, true, true, true, false] rfl rfl (by kernel_rfl) (by decide) (fun K hK => ?_)
  refine skip_ (w1 := w8.setRow w1.heap.size #[.bool L, .slice A6 h c6, .slice A6x h c6x]) (by rfl) rfl (exec_store_row 24 _ _ rfl w1.heap.size #[.bool L, .slice A6 h c6, .slice A6x h c6x] (by rfl) (by rfl) 24 _ (keep_row Q3.out B8.out) (size3 _ _ _) rfl (one3 _ _ _ _ _ _ _)) ?_
  obtain ⟨w9, hw9⟩ : ∃ y, w8.setRow w1.heap.size #[.bool L, .slice A6 h c6, .slice A6x h c6x] = y := ⟨_, rfl⟩
  rw [hw9]
  have F9 := Lib.hid (show w9.heap[w2.heap.size]? = some (.cells #[.bool false, .slice none 0 0, .slice none 0 0] 24) by rw [← hw9, setRow_other _ _ _ _ (by have := SZ.out; omega)]; exact keep_row F3.out B8.out)
  have Q9 := Lib.hid (show w9.heap[w1.heap.size]? = some (.cells #[.bool L, .slice A6 h c6, .slice A6x h c6x] 24) by rw [← hw9]; exact setRow_heap _ _ _ _ _ _ (keep_row Q3.out B8.out))
  have HW9 := Lib.hid hw9
  clear hw9
  refine hK.out _ _ ?_
  clear hK K
  refine last_ (i := 9) (N := none) #[true, true, true, true, true, true, true, true, true, true] rfl rfl (by kernel_rfl) (by decide) (fun K hK => ?_)
  refine skip_ (w1 := w9.setRow w2.heap.size #[.bool L, .slice A8 d c8, .slice A8x d c8x]) (by rfl) rfl (exec_store_row 24 _ _ rfl w2.heap.size #[.bool L, .slice A8 d c8, .slice A8x d c8x] (by rfl) (by rfl) 24 _ F9.out (size3 _ _ _) rfl (one3 _ _ _ _ _ _ _)) ?_
  obtain ⟨w10, hw10⟩ : ∃ y, w9.setRow w2.heap.size #[.bool L, .slice A8 d c8, .slice A8x d c8x] = y := ⟨_, rfl⟩
  rw [hw10]
  have HW10 := Lib.hid hw10
  clear hw10
  refine hK.out _ _ ?_
  clear hK K
  refine done_ (by kernel_rfl) ?_
  have q10 : w10.heap[w1.heap.size]? = some (.cells #[.bool L, .slice A6 h c6, .slice A6x h c6x] 24) := by rw [← HW10.out, setRow_other _ _ _ _ (by have := SZ.out; omega)]; exact Q9.out
  have f10 : w10.heap[w2.heap.size]? = some (.cells #[.bool L, .slice A8 d c8, .slice A8x d c8x] 24) := by rw [← HW10.out]; exact setRow_heap _ _ _ _ _ _ F9.out
  have l1 : w1.heap.size < w6.heap.size ∧ w2.heap.size < w6.heap.size := by have h1 := SZ.out; have h2 := B6.out.size; omega
  have l2 : w1.heap.size < w3.heap.size ∧ w2.heap.size < w3.heap.size ∧ w.heap.size ≤ w3.heap.size ∧ w.heap.size ≤ w1.heap.size ∧ w.heap.size ≤ w2.heap.size := by have h1 := SZ.out; omega
  have l3 : w3.heap.size ≤ w5.heap.size ∧ w6.heap.size ≤ w7.heap.size := ⟨B5.out.size, C7.out.size⟩
  have o6 : Own2 w6 w5.heap.size A6 c6 A6x c6x h h (cut Ks 0 h) (cut Vs 0 h) := ⟨mine_all O6.out.1 O6.out.2.2.1, mine_all O6.out.2.1 O6.out.2.2.2.1, far_apart O6.out.2.2.2.2 _ _, own_cap O6.out.1, own_cap O6.out.2.1, own_nilc O6.out.1, own_nilc O6.out.2.1⟩
  have o8 : Own2 w8 w7.heap.size A8 c8 A8x c8x d d (cut Ks h m) (cut Vs h m) := ⟨mine_all O8.out.1 O8.out.2.2.1, mine_all O8.out.2.1 O8.out.2.2.2.1, far_apart O8.out.2.2.2.2 _ _, own_cap O8.out.1, own_cap O8.out.2.1, own_nilc O8.out.1, own_nilc O8.out.2.1⟩
  have fa := And.intro (far_mine o6.k o8.k C7.out.size) (And.intro (far_mine o6.k o8.v C7.out.size) (And.intro (far_mine o6.v o8.k C7.out.size) (far_mine o6.v o8.v C7.out.size)))
  have o6b := own2_setRow (own2_setRow (own2_below (own2_below o6 C7.out) C8.out) (show w1.heap.size < w5.heap.size by omega) #[.bool L, .slice A6 h c6, .slice A6x h c6x]) (show w2.heap.size < w5.heap.size by omega) #[.bool L, .slice A8 d c8, .slice A8x d c8x]
  have o8b := own2_setRow (own2_setRow o8 (show w1.heap.size < w7.heap.size by omega) #[.bool L, .slice A6 h c6, .slice A6x h c6x]) (show w2.heap.size < w7.heap.size by omega) #[.bool L, .slice A8 d c8, .slice A8x d c8x]
  have b10 : Below w.heap.size w w10 := by rw [← HW10.out, ← HW9.out]; exact below_setRow (below_setRow (below_then' B3.out B8.out) l2.2.2.2.1 _) l2.2.2.2.2 _
  rw [HW9.out, HW10.out] at o6b o8b
  clear hHeld
  go_wp2_with fail
  exact ret_cc 2 3 rfl w1.heap.size w2.heap.size _ _ (0, 0) (0, 0) rfl rfl q10 f10 rfl rfl rfl ⟨A6, c6, A6x, c6x, A8, c8, A8x, c8x, rfl, own2_weaken o6b (by omega), own2_weaken o8b (by omega), fa.1, fa.2.1, fa.2.2.1, fa.2.2.2, b10⟩
end Go.Proofs.Ytdekplalhfpooaa.Knt
