/- The walk of the law NodePuts: the call returns true, nothing that was there is changed. -/
import Derived.Test.YtdekplalhfpooaaNodK
set_option linter.unusedVariables false
set_option linter.unusedSimpArgs false
namespace Go.Proofs.Ytdekplalhfpooaa.Nod
open Go Go.RowKit Go.Proofs.YtdekplalhfpooaaW.PrintWords Go.Proofs.YtdekplalhfpooaaW.PrintLast Go.Proofs.YtdekplalhfpooaaW.PrintMore Base Odr Hlp

set_option maxRecDepth 100000 in
set_option maxHeartbeats 6400000 in
theorem puts_walk (L : Bool) (ak : Option Addr) (ck : Nat) (K : List Int) (w : World) (hrk : ReadsInt w .u64 ak K.length K) (hlk : K.length * 8 ≤ 140737488351232) (hwk : ∀ x ∈ K, (Lit.int .u64 x).wf = true) (hck : K.length ≤ ck)
    (av : Option Addr) (cv : Nat) (V : List Int) (hrv : ReadsInt w .u64 av V.length V) (hlv : V.length * 8 ≤ 140737488351232) (hwv : ∀ x ∈ V, (Lit.int .u64 x).wf = true) (hcv : V.length ≤ cv) :
    Calls Try.prog 6 #[.agg #[.bool L, .slice ak K.length ck, .slice av V.length cv]] w fun e w' => e = .returned (.bool true) ∧ Below w.heap.size w w' := by
  obtain ⟨nk, hnk⟩ : ∃ n, n = K.length := ⟨_, rfl⟩
  obtain ⟨nv, hnv⟩ : ∃ n, n = V.length := ⟨_, rfl⟩
  rw [← hnk] at hrk hlk ⊢
  rw [← hnv] at hrv hlv ⊢
  clear hck hcv
  obtain ⟨w1, hw1, b1, f1, s1⟩ := made w #[.bool L, .slice ak nk ck, .slice av nv cv] 24
  have F1 := Lib.hid f1
  have B1 := Lib.hid b1
  have WK := Lib.hid hwk
  have WV := Lib.hid hwv
  have LK := Lib.hid hlk
  have LV := Lib.hid hlv
  have RK0 := Lib.hid hrk
  have RV0 := Lib.hid hrv
  have S1 := Lib.hid s1
  clear b1 f1 s1 hwk hwv hlk hlv hrk hrv hnk hnv
  go_enter Try.func6, Try.ntmps6
  go_wp2_with ((with_reducible refine wpList_load_row rfl 24 (.tmp 1) rfl w.heap.size ?_ 24 _ _ _ F1.out Try.underlying24 ?_ (size3 _ _ _) ?_); rfl; rfl)
  refine (own_any L K V ak av nk ck nv cv _ (ReadsInt.below RK0.out B1.out) (ReadsInt.below RV0.out B1.out) LK.out LV.out).mono ?_; rintro e w2 ⟨A2, c2, A3, c3, rfl, ho1, ho2, hb⟩
  obtain ⟨w3, hw3, b3, f3, s3⟩ := made w2 #[.bool false, .slice none 0 0, .slice none 0 0] 24
  obtain ⟨w4, hw4⟩ : ∃ w4, w3.setRow w2.heap.size #[.bool L, .slice A2 nk c2, .slice A3 nv c3] = w4 := ⟨_, rfl⟩
  have F3 := Lib.hid f3
  have OW4 := Lib.hid (show w4.heap[w2.heap.size]? = some (.cells #[.bool L, .slice A2 nk c2, .slice A3 nv c3] 24 (0, 0)) by rw [← hw4]; exact setRow_heap _ _ _ _ _ _ f3)
  have b23 := below_then hb hb.size b3
  have BX4 := Lib.hid (show w4.heap[w.heap.size]? = some (.cells #[.bool L, .slice ak nk ck, .slice av nv cv] 24 (0, 0)) by rw [← hw4, setRow_other _ _ _ _ (by have := hb.size; have := S1.out; omega)]; exact keep_row F1.out b23)
  have B4 := Lib.hid (show Below w.heap.size w w4 by rw [← hw4]; exact below_setRow (below_then B1.out B1.out.size b23) (Nat.le_trans B1.out.size hb.size) _)
  have K4 := Lib.hid (show ReadsInt w4 .u64 A2 nk K from reads_own_of (show w4.ownsRow w1.heap.size 25 1 (.slice A2 nk c2) nk (nums .u64 K) by rw [← hw4]; exact own_setRow (pw_own_below ho1 b3) (fun he => by have := own_lt ho1 _ he.symm; omega) _) RK0.out.1 rfl)
  have V4 := Lib.hid (show ReadsInt w4 .u64 A3 nv V from reads_own_of (show w4.ownsRow w1.heap.size 25 1 (.slice A3 nv c3) nv (nums .u64 V) by rw [← hw4]; exact own_setRow (pw_own_below ho2 b3) (fun he => by have := own_lt ho2 _ he.symm; omega) _) RV0.out.1 rfl)
  have RK4 := Lib.hid (ReadsInt.below RK0.out B4.out)
  have RV4 := Lib.hid (ReadsInt.below RV0.out B4.out)
  clear ho1 ho2 hb b3 f3 s3 b23 F1 hw1
  obtain ⟨N, hN⟩ : ∃ N, 2 + 16 * nk = N := ⟨_, rfl⟩
  obtain ⟨F, hF⟩ : ∃ F, formN L K V = F := ⟨_, rfl⟩
  have HN := Lib.hid hN
  have HF := Lib.hid hF
  clear hN hF
  by_cases hm : mayN K V = true
  · have HM := Lib.hid hm
    have FW := Lib.hid (show ∀ x ∈ F, (Lit.int .u8 x).wf = true by rw [← HF.out]; exact form_wf L K V (may_le hm).2.1)
    have FL := Lib.hid (show F.length = N by rw [← HF.out, form_len, ← HN.out, RK0.out.1])
    clear hm
    go_wp2_with (first | ((with_reducible refine wpList_store_row rfl 24 (.tmp 3) (.tmp 9) rfl w2.heap.size #[.bool L, .slice A2 nk c2, .slice A3 nv c3] ?_ ?_ 24 _ F3.out (size3 _ _ _) ?_ (one3 _ _ _ _ _ _ _) ?_); rfl; rfl; rfl; rw [hw4]) | ((with_reducible refine wpList_load_row rfl 24 (.tmp 3) rfl w2.heap.size ?_ 24 _ _ _ OW4.out Try.underlying24 ?_ (size3 _ _ _) ?_); rfl; rfl))
    clear hw4 hw3
    refine (put_at L _ K4.out V4.out HM.out HN.out HF.out).mono ?_; rintro e w5 ⟨A5, c5, rfl, ho, hb⟩
    have P5 := Lib.hid (reads_own_of ho FL.out rfl)
    have D5 := Lib.hid hb
    have BX5 := Lib.hid (keep_row BX4.out hb)
    clear ho hb
    go_wp2_with ((with_reducible refine wpList_load_row rfl 24 (.tmp 1) rfl w.heap.size ?_ 24 _ _ _ BX5.out Try.underlying24 ?_ (size3 _ _ _) ?_); rfl; rfl)
    refine (rput_at L _ (ReadsInt.below RK4.out D5.out) (ReadsInt.below RV4.out D5.out) WK.out WV.out HM.out HN.out HF.out).mono ?_; rintro e w6 ⟨A6, c6, rfl, ho, hb⟩
    have Q6 := Lib.hid (reads_own_of ho FL.out rfl)
    have P6 := Lib.hid (ReadsInt.below P5.out hb)
    have D6 := Lib.hid (below_then D5.out D5.out.size hb)
    clear ho hb
    have X6 := Lib.hid D6.out
    have OW6 := Lib.hid (keep_row OW4.out D6.out)
    have BX6 := Lib.hid (keep_row BX4.out D6.out)
    have K6 := Lib.hid (ReadsInt.below K4.out D6.out)
    have V6 := Lib.hid (ReadsInt.below V4.out D6.out)
    have RK6 := Lib.hid (ReadsInt.below RK4.out D6.out)
    have RV6 := Lib.hid (ReadsInt.below RV4.out D6.out)
    have B6 := Lib.hid (below_then B4.out B4.out.size D6.out)
    clear X6
    go_wp2_with fail
    refine start_ (n := 24) (S := fun w' => w'.heap[w2.heap.size]? = some (.cells #[.bool L, .slice A2 nk c2, .slice A3 nv c3] 24 (0, 0)) ∧ w'.heap[w.heap.size]? = some (.cells #[.bool L, .slice ak nk ck, .slice av nv cv] 24 (0, 0))) (ds := [21]) #[false, false, false, false, false, false, false, false, false, false, false, false, false, false, false, false, false, false, false, false, false, false, false, false] (by kernel_rfl) rfl rfl ⟨OW6.out, BX6.out⟩ (fun hHeld => ?_)
    refine one_ (i := 0) (N := some 20) #[true, false, false, false, false, false, false, false, false, false, false, false, false, false, false, false, false, false, false, false, false, false, false, false] rfl rfl (by kernel_rfl) (by decide) (fun K hK => ?_)
    refine goes_ Try.func31 (by kernel_rfl) rfl #[] (by rfl) rfl rfl (by simp only [List.map_toArray, List.map_cons, List.map_nil]) ?_
    with_reducible refine (awake_any _).mono ?_
    rintro e w7 ⟨rfl, hb⟩
    refine ⟨_, rfl, ?_⟩
    have X7 := Lib.hid (below_then (below_drew (Below.refl w6.heap.size w6)) (Nat.le_refl _) hb)
    clear hb
    refine hK.out _ _ ⟨keep_row OW6.out X7.out, keep_row BX6.out X7.out⟩ (fun hHeld => ?_)
    clear hK K
    refine norm_ (a' := ?_) ?_ ?_
    rotate_left
    · show Act.put _ (some 20) _ = _
      simp only [Act.put, List.setIfInBounds_toArray, List.set_cons_zero, List.set_cons_succ, i64_w, i32_w]
      rfl
    refine pure_ (i := 1) (N := some 21) (v := ?_) (a' := ?_) #[true, true, false, false, false, false, false, false, false, false, false, false, false, false, false, false, false, false, false, false, false, false, false, false] rfl rfl (by kernel_rfl) (fun _ _ _ h => h) (Or.inl ⟨by rfl, ?_⟩) ?_ ?_
    rotate_left
    · intro w'
      go_simp
      with_reducible rfl
    rotate_left
    · simp only [Act.put, List.setIfInBounds_toArray, List.set_cons_zero, List.set_cons_succ, i64_w, i32_w]
      rfl
    refine pure_ (i := 2) (N := some 22) (v := ?_) (a' := ?_) #[true, true, true, false, false, false, false, false, false, false, false, false, false, false, false, false, false, false, false, false, false, false, false, false] rfl rfl (by kernel_rfl) (fun _ _ _ h => h) (Or.inl ⟨by rfl, ?_⟩) ?_ ?_
    rotate_left
    · intro w'
      go_simp
      with_reducible rfl
    rotate_left
    · simp only [Act.put, List.setIfInBounds_toArray, List.set_cons_zero, List.set_cons_succ, i64_w, i32_w]
      rfl
    refine pure_ (i := 3) (N := some 23) (v := ?_) (a' := ?_) #[true, true, true, true, false, false, false, false, false, false, false, false, false, false, false, false, false, false, false, false, false, false, false, false] rfl rfl (by kernel_rfl) (fun _ _ _ h => h) (Or.inl ⟨by rfl, ?_⟩) ?_ ?_
    rotate_left
    · intro w'
      go_simp
      with_reducible rfl
    rotate_left
    · simp only [Act.put, List.setIfInBounds_toArray, List.set_cons_zero, List.set_cons_succ, i64_w, i32_w]
      rfl
    refine one_ (i := 4) (N := some 24) #[true, true, true, true, true, false, false, false, false, false, false, false, false, false, false, false, false, false, false, false, false, false, false, false] rfl rfl (by kernel_rfl) (by decide) (fun K hK => ?_)
    refine goes_ Try.func32 (by kernel_rfl) rfl #[.slice A5 N c5, .slice A6 N c6] (by rfl) rfl rfl (by simp only [List.map_toArray, List.map_cons, List.map_nil]; rfl) ?_
    with_reducible refine (equal_same F _ (ReadsInt.below P6.out X7.out) (ReadsInt.below Q6.out X7.out) FW.out).mono ?_
    rintro e w8 ⟨rfl, rfl⟩
    refine ⟨_, rfl, ?_⟩
    refine hK.out _ _ ⟨keep_row OW6.out X7.out, keep_row BX6.out X7.out⟩ (fun hHeld => ?_)
    clear hK K
    refine norm_ (a' := ?_) ?_ ?_
    rotate_left
    · show Act.put _ (some 24) _ = _
      simp only [Act.put, List.setIfInBounds_toArray, List.set_cons_zero, List.set_cons_succ, i64_w, i32_w]
      rfl
    refine pure_ (i := 5) (N := some 25) (v := ?_) (a' := ?_) #[true, true, true, true, true, true, false, false, false, false, false, false, false, false, false, false, false, false, false, false, false, false, false, false] rfl rfl (by kernel_rfl) (fun _ _ _ h => h) (Or.inl ⟨by rfl, ?_⟩) ?_ ?_
    rotate_left
    · intro w'
      go_simp
      with_reducible rfl
    rotate_left
    · simp only [Act.put, List.setIfInBounds_toArray, List.set_cons_zero, List.set_cons_succ, i64_w, i32_w]
      rfl
    refine pure_ (i := 6) (N := some 26) (v := ?_) (a' := ?_) #[true, true, true, true, true, true, true, false, false, false, false, false, false, false, false, false, false, false, false, false, false, false, false, false] rfl rfl (by kernel_rfl) (fun _ _ _ h => h) (Or.inl ⟨by rfl, ?_⟩) ?_ ?_
    rotate_left
    · intro w'
      go_simp
      with_reducible rfl
    rotate_left
    · simp only [Act.put, List.setIfInBounds_toArray, List.set_cons_zero, List.set_cons_succ, i64_w, i32_w]
      rfl
    refine pure_ (i := 7) (N := some 27) (v := ?_) (a' := ?_) #[true, true, true, true, true, true, true, true, false, false, false, false, false, false, false, false, false, false, false, false, false, false, false, false] rfl rfl (by kernel_rfl) (fun _ _ _ h => h) (Or.inl ⟨by rfl, ?_⟩) ?_ ?_
    rotate_left
    · intro w'
      go_simp
      with_reducible rfl
    rotate_left
    · simp only [Act.put, List.setIfInBounds_toArray, List.set_cons_zero, List.set_cons_succ, i64_w, i32_w]
      rfl
    refine pure_ (i := 8) (N := some 28) (v := ?_) (a' := ?_) #[true, true, true, true, true, true, true, true, true, false, false, false, false, false, false, false, false, false, false, false, false, false, false, false] rfl rfl (by kernel_rfl) (fun _ _ _ h => h) (Or.inl ⟨by rfl, ?_⟩) ?_ ?_
    rotate_left
    · intro w'
      go_simp
      with_reducible rfl
    rotate_left
    · simp only [Act.put, List.setIfInBounds_toArray, List.set_cons_zero, List.set_cons_succ, i64_w, i32_w]
      rfl
    refine pure_ (i := 9) (N := some 29) (v := ?_) (a' := ?_) #[true, true, true, true, true, true, true, true, true, true, false, false, false, false, false, false, false, false, false, false, false, false, false, false] rfl rfl (by kernel_rfl) (fun _ _ _ h => h) (Or.inl ⟨by rfl, ?_⟩) ?_ ?_
    rotate_left
    · intro w'
      go_simp
      with_reducible rfl
    rotate_left
    · simp only [Act.put, List.setIfInBounds_toArray, List.set_cons_zero, List.set_cons_succ, i64_w, i32_w]
      rfl
    refine pure_ (i := 10) (N := some 30) (v := ?_) (a' := ?_) #[true, true, true, true, true, true, true, true, true, true, true, false, false, false, false, false, false, false, false, false, false, false, false, false] rfl rfl (by kernel_rfl) (fun _ _ _ h => h) (Or.inl ⟨by rfl, ?_⟩) ?_ ?_
    rotate_left
    · intro w'
      go_simp
      with_reducible rfl
    rotate_left
    · simp only [Act.put, List.setIfInBounds_toArray, List.set_cons_zero, List.set_cons_succ, i64_w, i32_w]
      rfl
    refine pure_ (i := 11) (N := some 31) (v := ?_) (a' := ?_) #[true, true, true, true, true, true, true, true, true, true, true, true, false, false, false, false, false, false, false, false, false, false, false, false] rfl rfl (by kernel_rfl) (fun _ _ _ h => h) (Or.inl ⟨by rfl, ?_⟩) ?_ ?_
    rotate_left
    · intro w'
      go_simp
      with_reducible rfl
    rotate_left
    · simp only [Act.put, List.setIfInBounds_toArray, List.set_cons_zero, List.set_cons_succ, i64_w, i32_w]
      rfl
    refine take_ (i := 12) (N := some 32) (v := ?_) (a' := ?_) #[true, true, true, true, true, true, true, true, true, true, true, true, true, false, false, false, false, false, false, false, false, false, false, false] rfl rfl (by kernel_rfl) (fun _ _ _ h => h) (Or.inl ⟨by rfl, ?_⟩) hHeld ?_ ?_
    rotate_left
    · rintro w' ⟨s0, s1⟩
      refine exec_load_row 24 (.tmp 3) ?_ w2.heap.size ?_ 24 _ _ _ s0 Try.underlying24 ?_ ?_
      · rfl
      · rfl
      · rfl
      · exact size3 _ _ _
    rotate_left
    · simp only [Act.put, List.setIfInBounds_toArray, List.set_cons_zero, List.set_cons_succ, i64_w, i32_w]
      rfl
    refine take_ (i := 14) (N := some 34) (v := ?_) (a' := ?_) #[true, true, true, true, true, true, true, true, true, true, true, true, true, false, true, false, false, false, false, false, false, false, false, false] rfl rfl (by kernel_rfl) (fun _ _ _ h => h) (Or.inl ⟨by rfl, ?_⟩) hHeld ?_ ?_
    rotate_left
    · rintro w' ⟨s0, s1⟩
      refine exec_load_row 24 (.tmp 1) ?_ w.heap.size ?_ 24 _ _ _ s1 Try.underlying24 ?_ ?_
      · rfl
      · rfl
      · rfl
      · exact size3 _ _ _
    rotate_left
    · simp only [Act.put, List.setIfInBounds_toArray, List.set_cons_zero, List.set_cons_succ, i64_w, i32_w]
      rfl
    refine one_ (i := 13) (N := some 33) #[true, true, true, true, true, true, true, true, true, true, true, true, true, true, true, false, false, false, false, false, false, false, false, false] rfl rfl (by kernel_rfl) (by decide) (fun K hK => ?_)
    refine goes_ Try.func33 (by kernel_rfl) rfl #[.agg #[.bool L, .slice A2 nk c2, .slice A3 nv c3]] (by rfl) rfl rfl (by simp only [List.map_toArray, List.map_cons, List.map_nil]; rfl) ?_
    with_reducible refine (may_at L _ (ReadsInt.below K6.out X7.out) (ReadsInt.below V6.out X7.out) HM.out).mono ?_
    rintro e w9 ⟨rfl, hb⟩
    refine ⟨_, rfl, ?_⟩
    have X9 := Lib.hid (below_then X7.out X7.out.size hb)
    clear hb
    refine hK.out _ _ ⟨keep_row OW6.out X9.out, keep_row BX6.out X9.out⟩ (fun hHeld => ?_)
    clear hK K
    refine norm_ (a' := ?_) ?_ ?_
    rotate_left
    · show Act.put _ (some 33) _ = _
      simp only [Act.put, List.setIfInBounds_toArray, List.set_cons_zero, List.set_cons_succ, i64_w, i32_w]
      rfl
    refine one_ (i := 15) (N := some 35) #[true, true, true, true, true, true, true, true, true, true, true, true, true, true, true, true, false, false, false, false, false, false, false, false] rfl rfl (by kernel_rfl) (by decide) (fun K hK => ?_)
    refine goes_ Try.func34 (by kernel_rfl) rfl #[.agg #[.bool L, .slice ak nk ck, .slice av nv cv]] (by rfl) rfl rfl (by simp only [List.map_toArray, List.map_cons, List.map_nil]; rfl) ?_
    with_reducible refine (rmay_at L _ (ReadsInt.below RK6.out X9.out) (ReadsInt.below RV6.out X9.out) WV.out HM.out).mono ?_
    rintro e w10 ⟨rfl, hb⟩
    refine ⟨_, rfl, ?_⟩
    have X10 := Lib.hid (below_then X9.out X9.out.size hb)
    clear hb
    refine hK.out _ _ ⟨keep_row OW6.out X10.out, keep_row BX6.out X10.out⟩ (fun hHeld => ?_)
    clear hK K
    refine norm_ (a' := ?_) ?_ ?_
    rotate_left
    · show Act.put _ (some 35) _ = _
      simp only [Act.put, List.setIfInBounds_toArray, List.set_cons_zero, List.set_cons_succ, i64_w, i32_w]
      rfl
    refine pure_ (i := 16) (N := some 36) (v := ?_) (a' := ?_) #[true, true, true, true, true, true, true, true, true, true, true, true, true, true, true, true, true, false, false, false, false, false, false, false] rfl rfl (by kernel_rfl) (fun _ _ _ h => h) (Or.inl ⟨by rfl, ?_⟩) ?_ ?_
    rotate_left
    · intro w'
      go_simp
      with_reducible rfl
    rotate_left
    · simp only [Act.put, List.setIfInBounds_toArray, List.set_cons_zero, List.set_cons_succ, i64_w, i32_w]
      rfl
    refine pure_ (i := 17) (N := some 37) (v := ?_) (a' := ?_) #[true, true, true, true, true, true, true, true, true, true, true, true, true, true, true, true, true, true, false, false, false, false, false, false] rfl rfl (by kernel_rfl) (fun _ _ _ h => h) (Or.inl ⟨by rfl, ?_⟩) ?_ ?_
    rotate_left
    · intro w'
      go_simp
      with_reducible rfl
    rotate_left
    · simp only [Act.put, List.setIfInBounds_toArray, List.set_cons_zero, List.set_cons_succ, i64_w, i32_w]
      rfl
    refine pure_ (i := 18) (N := some 38) (v := ?_) (a' := ?_) #[true, true, true, true, true, true, true, true, true, true, true, true, true, true, true, true, true, true, true, false, false, false, false, false] rfl rfl (by kernel_rfl) (fun _ _ _ h => h) (Or.inl ⟨by rfl, ?_⟩) ?_ ?_
    rotate_left
    · intro w'
      go_simp
      with_reducible rfl
    rotate_left
    · simp only [Act.put, List.setIfInBounds_toArray, List.set_cons_zero, List.set_cons_succ, i64_w, i32_w]
      rfl
    refine take_ (i := 19) (N := some 39) (v := ?_) (a' := ?_) #[true, true, true, true, true, true, true, true, true, true, true, true, true, true, true, true, true, true, true, true, false, false, false, false] rfl rfl (by kernel_rfl) (fun _ _ _ h => h) (Or.inl ⟨by rfl, ?_⟩) hHeld ?_ ?_
    rotate_left
    · rintro w' ⟨s0, s1⟩
      refine exec_load_row 24 (.tmp 3) ?_ w2.heap.size ?_ 24 _ _ _ s0 Try.underlying24 ?_ ?_
      · rfl
      · rfl
      · rfl
      · exact size3 _ _ _
    rotate_left
    · simp only [Act.put, List.setIfInBounds_toArray, List.set_cons_zero, List.set_cons_succ, i64_w, i32_w]
      rfl
    refine take_ (i := 20) (N := some 40) (v := ?_) (a' := ?_) #[true, true, true, true, true, true, true, true, true, true, true, true, true, true, true, true, true, true, true, true, true, false, false, false] rfl rfl (by kernel_rfl) (fun _ _ _ h => h) (Or.inl ⟨by rfl, ?_⟩) hHeld ?_ ?_
    rotate_left
    · rintro w' ⟨s0, s1⟩
      refine exec_load_row 24 (.tmp 1) ?_ w.heap.size ?_ 24 _ _ _ s1 Try.underlying24 ?_ ?_
      · rfl
      · rfl
      · rfl
      · exact size3 _ _ _
    rotate_left
    · simp only [Act.put, List.setIfInBounds_toArray, List.set_cons_zero, List.set_cons_succ, i64_w, i32_w]
      rfl
    refine last_ (i := 21) (N := some 41) #[true, true, true, true, true, true, true, true, true, true, true, true, true, true, true, true, true, true, true, true, true, true, false, false] rfl rfl (by kernel_rfl) (by decide) (fun K hK => ?_)
    refine goes_ Try.func26 (by kernel_rfl) rfl #[.agg #[.bool L, .slice A2 nk c2, .slice A3 nv c3], .agg #[.bool L, .slice ak nk ck, .slice av nv cv]] (by rfl) rfl rfl (by simp only [List.map_toArray, List.map_cons, List.map_nil]; rfl) ?_
    with_reducible refine (rsame_at _ (ReadsInt.below K6.out X10.out) (ReadsInt.below V6.out X10.out) (ReadsInt.below RK6.out X10.out) (ReadsInt.below RV6.out X10.out) (same_refl _ _ _)).mono ?_
    rintro e w11 ⟨rfl, hb⟩
    refine ⟨_, rfl, ?_⟩
    have X11 := Lib.hid (below_then X10.out X10.out.size hb)
    clear hb
    refine hK.out _ _ ?_
    clear hK K
    refine norm_ (a' := ?_) ?_ ?_
    rotate_left
    · show Act.put _ (some 41) _ = _
      simp only [Act.put, List.setIfInBounds_toArray, List.set_cons_zero, List.set_cons_succ, i64_w, i32_w]
      rfl
    refine pure_ (i := 22) (N := some 42) (v := ?_) (a' := ?_) #[true, true, true, true, true, true, true, true, true, true, true, true, true, true, true, true, true, true, true, true, true, true, true, false] rfl rfl (by kernel_rfl) (fun _ _ _ h => h) (Or.inl ⟨by rfl, ?_⟩) ?_ ?_
    rotate_left
    · intro w'
      go_simp
      with_reducible rfl
    rotate_left
    · simp only [Act.put, List.setIfInBounds_toArray, List.set_cons_zero, List.set_cons_succ, i64_w, i32_w]
      rfl
    refine pure_ (i := 23) (N := some 2) (v := ?_) (a' := ?_) #[true, true, true, true, true, true, true, true, true, true, true, true, true, true, true, true, true, true, true, true, true, true, true, true] rfl rfl (by kernel_rfl) (fun _ _ _ h => h) (Or.inl ⟨by rfl, ?_⟩) ?_ ?_
    rotate_left
    · intro w'
      go_simp
      with_reducible rfl
    rotate_left
    · simp only [Act.put, List.setIfInBounds_toArray, List.set_cons_zero, List.set_cons_succ, i64_w, i32_w]
      rfl
    refine done_ (by kernel_rfl) ?_
    go_wp2_with fail
    go_ret
    exact ⟨rfl, below_then B6.out B6.out.size X11.out⟩
  · have HM := Lib.hid (show mayN K V = false by simpa using hm)
    clear hm
    go_wp2_with (first | ((with_reducible refine wpList_store_row rfl 24 (.tmp 3) (.tmp 9) rfl w2.heap.size #[.bool L, .slice A2 nk c2, .slice A3 nv c3] ?_ ?_ 24 _ F3.out (size3 _ _ _) ?_ (one3 _ _ _ _ _ _ _) ?_); rfl; rfl; rfl; rw [hw4]) | ((with_reducible refine wpList_load_row rfl 24 (.tmp 3) rfl w2.heap.size ?_ 24 _ _ _ OW4.out Try.underlying24 ?_ (size3 _ _ _) ?_); rfl; rfl))
    clear hw4 hw3
    refine (put_no L K V A2 A3 nk c2 nv c3 _ K4.out V4.out HM.out).mono ?_; rintro e w5 ⟨rfl, hb⟩
    have D5 := Lib.hid hb
    have BX5 := Lib.hid (keep_row BX4.out hb)
    clear hb
    go_wp2_with ((with_reducible refine wpList_load_row rfl 24 (.tmp 1) rfl w.heap.size ?_ 24 _ _ _ BX5.out Try.underlying24 ?_ (size3 _ _ _) ?_); rfl; rfl)
    refine (rput_no L K V ak av nk ck nv cv _ (ReadsInt.below RK4.out D5.out) (ReadsInt.below RV4.out D5.out) WV.out HM.out).mono ?_; rintro e w6 ⟨rfl, hb⟩
    have D6 := Lib.hid (below_then D5.out D5.out.size hb)
    clear hb
    have X6 := Lib.hid D6.out
    have OW6 := Lib.hid (keep_row OW4.out D6.out)
    have BX6 := Lib.hid (keep_row BX4.out D6.out)
    have K6 := Lib.hid (ReadsInt.below K4.out D6.out)
    have V6 := Lib.hid (ReadsInt.below V4.out D6.out)
    have RK6 := Lib.hid (ReadsInt.below RK4.out D6.out)
    have RV6 := Lib.hid (ReadsInt.below RV4.out D6.out)
    have B6 := Lib.hid (below_then B4.out B4.out.size D6.out)
    clear X6
    go_wp2_with fail
    refine start_ (n := 24) (S := fun w' => w'.heap[w2.heap.size]? = some (.cells #[.bool L, .slice A2 nk c2, .slice A3 nv c3] 24 (0, 0)) ∧ w'.heap[w.heap.size]? = some (.cells #[.bool L, .slice ak nk ck, .slice av nv cv] 24 (0, 0))) (ds := [21]) #[false, false, false, false, false, false, false, false, false, false, false, false, false, false, false, false, false, false, false, false, false, false, false, false] (by kernel_rfl) rfl rfl ⟨OW6.out, BX6.out⟩ (fun hHeld => ?_)
    refine one_ (i := 0) (N := some 20) #[true, false, false, false, false, false, false, false, false, false, false, false, false, false, false, false, false, false, false, false, false, false, false, false] rfl rfl (by kernel_rfl) (by decide) (fun K hK => ?_)
    refine goes_ Try.func31 (by kernel_rfl) rfl #[] (by rfl) rfl rfl (by simp only [List.map_toArray, List.map_cons, List.map_nil]) ?_
    with_reducible refine (awake_any _).mono ?_
    rintro e w7 ⟨rfl, hb⟩
    refine ⟨_, rfl, ?_⟩
    have X7 := Lib.hid (below_then (below_drew (Below.refl w6.heap.size w6)) (Nat.le_refl _) hb)
    clear hb
    refine hK.out _ _ ⟨keep_row OW6.out X7.out, keep_row BX6.out X7.out⟩ (fun hHeld => ?_)
    clear hK K
    refine norm_ (a' := ?_) ?_ ?_
    rotate_left
    · show Act.put _ (some 20) _ = _
      simp only [Act.put, List.setIfInBounds_toArray, List.set_cons_zero, List.set_cons_succ, i64_w, i32_w]
      rfl
    refine pure_ (i := 1) (N := some 21) (v := ?_) (a' := ?_) #[true, true, false, false, false, false, false, false, false, false, false, false, false, false, false, false, false, false, false, false, false, false, false, false] rfl rfl (by kernel_rfl) (fun _ _ _ h => h) (Or.inl ⟨by rfl, ?_⟩) ?_ ?_
    rotate_left
    · intro w'
      go_simp
      with_reducible rfl
    rotate_left
    · simp only [Act.put, List.setIfInBounds_toArray, List.set_cons_zero, List.set_cons_succ, i64_w, i32_w]
      rfl
    refine pure_ (i := 2) (N := some 22) (v := ?_) (a' := ?_) #[true, true, true, false, false, false, false, false, false, false, false, false, false, false, false, false, false, false, false, false, false, false, false, false] rfl rfl (by kernel_rfl) (fun _ _ _ h => h) (Or.inl ⟨by rfl, ?_⟩) ?_ ?_
    rotate_left
    · intro w'
      go_simp
      with_reducible rfl
    rotate_left
    · simp only [Act.put, List.setIfInBounds_toArray, List.set_cons_zero, List.set_cons_succ, i64_w, i32_w]
      rfl
    refine pure_ (i := 3) (N := some 23) (v := ?_) (a' := ?_) #[true, true, true, true, false, false, false, false, false, false, false, false, false, false, false, false, false, false, false, false, false, false, false, false] rfl rfl (by kernel_rfl) (fun _ _ _ h => h) (Or.inl ⟨by rfl, ?_⟩) ?_ ?_
    rotate_left
    · intro w'
      go_simp
      with_reducible rfl
    rotate_left
    · simp only [Act.put, List.setIfInBounds_toArray, List.set_cons_zero, List.set_cons_succ, i64_w, i32_w]
      rfl
    refine one_ (i := 4) (N := some 24) #[true, true, true, true, true, false, false, false, false, false, false, false, false, false, false, false, false, false, false, false, false, false, false, false] rfl rfl (by kernel_rfl) (by decide) (fun K hK => ?_)
    refine goes_ Try.func32 (by kernel_rfl) rfl #[.slice none 0 0, .slice none 0 0] (by rfl) rfl rfl (by simp only [List.map_toArray, List.map_cons, List.map_nil]; rfl) ?_
    with_reducible refine (equal_same [] _ (reads_nil _ _ _) (reads_nil _ _ _) (fun x hx => absurd hx (List.not_mem_nil))).mono ?_
    rintro e w8 ⟨rfl, rfl⟩
    refine ⟨_, rfl, ?_⟩
    refine hK.out _ _ ⟨keep_row OW6.out X7.out, keep_row BX6.out X7.out⟩ (fun hHeld => ?_)
    clear hK K
    refine norm_ (a' := ?_) ?_ ?_
    rotate_left
    · show Act.put _ (some 24) _ = _
      simp only [Act.put, List.setIfInBounds_toArray, List.set_cons_zero, List.set_cons_succ, i64_w, i32_w]
      rfl
    refine pure_ (i := 5) (N := some 25) (v := ?_) (a' := ?_) #[true, true, true, true, true, true, false, false, false, false, false, false, false, false, false, false, false, false, false, false, false, false, false, false] rfl rfl (by kernel_rfl) (fun _ _ _ h => h) (Or.inl ⟨by rfl, ?_⟩) ?_ ?_
    rotate_left
    · intro w'
      go_simp
      with_reducible rfl
    rotate_left
    · simp only [Act.put, List.setIfInBounds_toArray, List.set_cons_zero, List.set_cons_succ, i64_w, i32_w]
      rfl
    refine pure_ (i := 6) (N := some 26) (v := ?_) (a' := ?_) #[true, true, true, true, true, true, true, false, false, false, false, false, false, false, false, false, false, false, false, false, false, false, false, false] rfl rfl (by kernel_rfl) (fun _ _ _ h => h) (Or.inl ⟨by rfl, ?_⟩) ?_ ?_
    rotate_left
    · intro w'
      go_simp
      with_reducible rfl
    rotate_left
    · simp only [Act.put, List.setIfInBounds_toArray, List.set_cons_zero, List.set_cons_succ, i64_w, i32_w]
      rfl
    refine pure_ (i := 7) (N := some 27) (v := ?_) (a' := ?_) #[true, true, true, true, true, true, true, true, false, false, false, false, false, false, false, false, false, false, false, false, false, false, false, false] rfl rfl (by kernel_rfl) (fun _ _ _ h => h) (Or.inl ⟨by rfl, ?_⟩) ?_ ?_
    rotate_left
    · intro w'
      go_simp
      with_reducible rfl
    rotate_left
    · simp only [Act.put, List.setIfInBounds_toArray, List.set_cons_zero, List.set_cons_succ, i64_w, i32_w]
      rfl
    refine pure_ (i := 8) (N := some 28) (v := ?_) (a' := ?_) #[true, true, true, true, true, true, true, true, true, false, false, false, false, false, false, false, false, false, false, false, false, false, false, false] rfl rfl (by kernel_rfl) (fun _ _ _ h => h) (Or.inl ⟨by rfl, ?_⟩) ?_ ?_
    rotate_left
    · intro w'
      go_simp
      with_reducible rfl
    rotate_left
    · simp only [Act.put, List.setIfInBounds_toArray, List.set_cons_zero, List.set_cons_succ, i64_w, i32_w]
      rfl
    refine pure_ (i := 9) (N := some 29) (v := ?_) (a' := ?_) #[true, true, true, true, true, true, true, true, true, true, false, false, false, false, false, false, false, false, false, false, false, false, false, false] rfl rfl (by kernel_rfl) (fun _ _ _ h => h) (Or.inl ⟨by rfl, ?_⟩) ?_ ?_
    rotate_left
    · intro w'
      go_simp
      with_reducible rfl
    rotate_left
    · simp only [Act.put, List.setIfInBounds_toArray, List.set_cons_zero, List.set_cons_succ, i64_w, i32_w]
      rfl
    refine pure_ (i := 10) (N := some 30) (v := ?_) (a' := ?_) #[true, true, true, true, true, true, true, true, true, true, true, false, false, false, false, false, false, false, false, false, false, false, false, false] rfl rfl (by kernel_rfl) (fun _ _ _ h => h) (Or.inl ⟨by rfl, ?_⟩) ?_ ?_
    rotate_left
    · intro w'
      go_simp
      with_reducible rfl
    rotate_left
    · simp only [Act.put, List.setIfInBounds_toArray, List.set_cons_zero, List.set_cons_succ, i64_w, i32_w]
      rfl
    refine pure_ (i := 11) (N := some 31) (v := ?_) (a' := ?_) #[true, true, true, true, true, true, true, true, true, true, true, true, false, false, false, false, false, false, false, false, false, false, false, false] rfl rfl (by kernel_rfl) (fun _ _ _ h => h) (Or.inl ⟨by rfl, ?_⟩) ?_ ?_
    rotate_left
    · intro w'
      go_simp
      with_reducible rfl
    rotate_left
    · simp only [Act.put, List.setIfInBounds_toArray, List.set_cons_zero, List.set_cons_succ, i64_w, i32_w]
      rfl
    refine take_ (i := 12) (N := some 32) (v := ?_) (a' := ?_) #[true, true, true, true, true, true, true, true, true, true, true, true, true, false, false, false, false, false, false, false, false, false, false, false] rfl rfl (by kernel_rfl) (fun _ _ _ h => h) (Or.inl ⟨by rfl, ?_⟩) hHeld ?_ ?_
    rotate_left
    · rintro w' ⟨s0, s1⟩
      refine exec_load_row 24 (.tmp 3) ?_ w2.heap.size ?_ 24 _ _ _ s0 Try.underlying24 ?_ ?_
      · rfl
      · rfl
      · rfl
      · exact size3 _ _ _
    rotate_left
    · simp only [Act.put, List.setIfInBounds_toArray, List.set_cons_zero, List.set_cons_succ, i64_w, i32_w]
      rfl
    refine take_ (i := 14) (N := some 34) (v := ?_) (a' := ?_) #[true, true, true, true, true, true, true, true, true, true, true, true, true, false, true, false, false, false, false, false, false, false, false, false] rfl rfl (by kernel_rfl) (fun _ _ _ h => h) (Or.inl ⟨by rfl, ?_⟩) hHeld ?_ ?_
    rotate_left
    · rintro w' ⟨s0, s1⟩
      refine exec_load_row 24 (.tmp 1) ?_ w.heap.size ?_ 24 _ _ _ s1 Try.underlying24 ?_ ?_
      · rfl
      · rfl
      · rfl
      · exact size3 _ _ _
    rotate_left
    · simp only [Act.put, List.setIfInBounds_toArray, List.set_cons_zero, List.set_cons_succ, i64_w, i32_w]
      rfl
    refine one_ (i := 13) (N := some 33) #[true, true, true, true, true, true, true, true, true, true, true, true, true, true, true, false, false, false, false, false, false, false, false, false] rfl rfl (by kernel_rfl) (by decide) (fun K hK => ?_)
    refine goes_ Try.func33 (by kernel_rfl) rfl #[.agg #[.bool L, .slice A2 nk c2, .slice A3 nv c3]] (by rfl) rfl rfl (by simp only [List.map_toArray, List.map_cons, List.map_nil]; rfl) ?_
    with_reducible refine (may_at L _ (ReadsInt.below K6.out X7.out) (ReadsInt.below V6.out X7.out) HM.out).mono ?_
    rintro e w9 ⟨rfl, hb⟩
    refine ⟨_, rfl, ?_⟩
    have X9 := Lib.hid (below_then X7.out X7.out.size hb)
    clear hb
    refine hK.out _ _ ⟨keep_row OW6.out X9.out, keep_row BX6.out X9.out⟩ (fun hHeld => ?_)
    clear hK K
    refine norm_ (a' := ?_) ?_ ?_
    rotate_left
    · show Act.put _ (some 33) _ = _
      simp only [Act.put, List.setIfInBounds_toArray, List.set_cons_zero, List.set_cons_succ, i64_w, i32_w]
      rfl
    refine one_ (i := 15) (N := some 35) #[true, true, true, true, true, true, true, true, true, true, true, true, true, true, true, true, false, false, false, false, false, false, false, false] rfl rfl (by kernel_rfl) (by decide) (fun K hK => ?_)
    refine goes_ Try.func34 (by kernel_rfl) rfl #[.agg #[.bool L, .slice ak nk ck, .slice av nv cv]] (by rfl) rfl rfl (by simp only [List.map_toArray, List.map_cons, List.map_nil]; rfl) ?_
    with_reducible refine (rmay_at L _ (ReadsInt.below RK6.out X9.out) (ReadsInt.below RV6.out X9.out) WV.out HM.out).mono ?_
    rintro e w10 ⟨rfl, hb⟩
    refine ⟨_, rfl, ?_⟩
    have X10 := Lib.hid (below_then X9.out X9.out.size hb)
    clear hb
    refine hK.out _ _ ⟨keep_row OW6.out X10.out, keep_row BX6.out X10.out⟩ (fun hHeld => ?_)
    clear hK K
    refine norm_ (a' := ?_) ?_ ?_
    rotate_left
    · show Act.put _ (some 35) _ = _
      simp only [Act.put, List.setIfInBounds_toArray, List.set_cons_zero, List.set_cons_succ, i64_w, i32_w]
      rfl
    refine pure_ (i := 16) (N := some 36) (v := ?_) (a' := ?_) #[true, true, true, true, true, true, true, true, true, true, true, true, true, true, true, true, true, false, false, false, false, false, false, false] rfl rfl (by kernel_rfl) (fun _ _ _ h => h) (Or.inl ⟨by rfl, ?_⟩) ?_ ?_
    rotate_left
    · intro w'
      go_simp
      with_reducible rfl
    rotate_left
    · simp only [Act.put, List.setIfInBounds_toArray, List.set_cons_zero, List.set_cons_succ, i64_w, i32_w]
      rfl
    refine pure_ (i := 17) (N := some 37) (v := ?_) (a' := ?_) #[true, true, true, true, true, true, true, true, true, true, true, true, true, true, true, true, true, true, false, false, false, false, false, false] rfl rfl (by kernel_rfl) (fun _ _ _ h => h) (Or.inl ⟨by rfl, ?_⟩) ?_ ?_
    rotate_left
    · intro w'
      go_simp
      with_reducible rfl
    rotate_left
    · simp only [Act.put, List.setIfInBounds_toArray, List.set_cons_zero, List.set_cons_succ, i64_w, i32_w]
      rfl
    refine pure_ (i := 18) (N := some 38) (v := ?_) (a' := ?_) #[true, true, true, true, true, true, true, true, true, true, true, true, true, true, true, true, true, true, true, false, false, false, false, false] rfl rfl (by kernel_rfl) (fun _ _ _ h => h) (Or.inl ⟨by rfl, ?_⟩) ?_ ?_
    rotate_left
    · intro w'
      go_simp
      with_reducible rfl
    rotate_left
    · simp only [Act.put, List.setIfInBounds_toArray, List.set_cons_zero, List.set_cons_succ, i64_w, i32_w]
      rfl
    refine take_ (i := 19) (N := some 39) (v := ?_) (a' := ?_) #[true, true, true, true, true, true, true, true, true, true, true, true, true, true, true, true, true, true, true, true, false, false, false, false] rfl rfl (by kernel_rfl) (fun _ _ _ h => h) (Or.inl ⟨by rfl, ?_⟩) hHeld ?_ ?_
    rotate_left
    · rintro w' ⟨s0, s1⟩
      refine exec_load_row 24 (.tmp 3) ?_ w2.heap.size ?_ 24 _ _ _ s0 Try.underlying24 ?_ ?_
      · rfl
      · rfl
      · rfl
      · exact size3 _ _ _
    rotate_left
    · simp only [Act.put, List.setIfInBounds_toArray, List.set_cons_zero, List.set_cons_succ, i64_w, i32_w]
      rfl
    refine take_ (i := 20) (N := some 40) (v := ?_) (a' := ?_) #[true, true, true, true, true, true, true, true, true, true, true, true, true, true, true, true, true, true, true, true, true, false, false, false] rfl rfl (by kernel_rfl) (fun _ _ _ h => h) (Or.inl ⟨by rfl, ?_⟩) hHeld ?_ ?_
    rotate_left
    · rintro w' ⟨s0, s1⟩
      refine exec_load_row 24 (.tmp 1) ?_ w.heap.size ?_ 24 _ _ _ s1 Try.underlying24 ?_ ?_
      · rfl
      · rfl
      · rfl
      · exact size3 _ _ _
    rotate_left
    · simp only [Act.put, List.setIfInBounds_toArray, List.set_cons_zero, List.set_cons_succ, i64_w, i32_w]
      rfl
    refine last_ (i := 21) (N := some 41) #[true, true, true, true, true, true, true, true, true, true, true, true, true, true, true, true, true, true, true, true, true, true, false, false] rfl rfl (by kernel_rfl) (by decide) (fun K hK => ?_)
    refine goes_ Try.func26 (by kernel_rfl) rfl #[.agg #[.bool L, .slice A2 nk c2, .slice A3 nv c3], .agg #[.bool L, .slice ak nk ck, .slice av nv cv]] (by rfl) rfl rfl (by simp only [List.map_toArray, List.map_cons, List.map_nil]; rfl) ?_
    with_reducible refine (rsame_at _ (ReadsInt.below K6.out X10.out) (ReadsInt.below V6.out X10.out) (ReadsInt.below RK6.out X10.out) (ReadsInt.below RV6.out X10.out) (same_refl _ _ _)).mono ?_
    rintro e w11 ⟨rfl, hb⟩
    refine ⟨_, rfl, ?_⟩
    have X11 := Lib.hid (below_then X10.out X10.out.size hb)
    clear hb
    refine hK.out _ _ ?_
    clear hK K
    refine norm_ (a' := ?_) ?_ ?_
    rotate_left
    · show Act.put _ (some 41) _ = _
      simp only [Act.put, List.setIfInBounds_toArray, List.set_cons_zero, List.set_cons_succ, i64_w, i32_w]
      rfl
    refine pure_ (i := 22) (N := some 42) (v := ?_) (a' := ?_) #[true, true, true, true, true, true, true, true, true, true, true, true, true, true, true, true, true, true, true, true, true, true, true, false] rfl rfl (by kernel_rfl) (fun _ _ _ h => h) (Or.inl ⟨by rfl, ?_⟩) ?_ ?_
    rotate_left
    · intro w'
      go_simp
      with_reducible rfl
    rotate_left
    · simp only [Act.put, List.setIfInBounds_toArray, List.set_cons_zero, List.set_cons_succ, i64_w, i32_w]
      rfl
    refine pure_ (i := 23) (N := some 2) (v := ?_) (a' := ?_) #[true, true, true, true, true, true, true, true, true, true, true, true, true, true, true, true, true, true, true, true, true, true, true, true] rfl rfl (by kernel_rfl) (fun _ _ _ h => h) (Or.inl ⟨by rfl, ?_⟩) ?_ ?_
    rotate_left
    · intro w'
      go_simp
      with_reducible rfl
    rotate_left
    · simp only [Act.put, List.setIfInBounds_toArray, List.set_cons_zero, List.set_cons_succ, i64_w, i32_w]
      rfl
    refine done_ (by kernel_rfl) ?_
    go_wp2_with fail
    go_ret
    exact ⟨rfl, below_then B6.out B6.out.size X11.out⟩
end Go.Proofs.Ytdekplalhfpooaa.Nod
