/- The walk of the law NodeSame: the call returns true, nothing that was there is changed. -/
import Derived.Test.YtdekplalhfpooaaNodK
set_option linter.unusedVariables false
set_option linter.unusedSimpArgs false
namespace Go.Proofs.Ytdekplalhfpooaa.Nod
open Go Go.RowKit Go.Proofs.YtdekplalhfpooaaW.PrintWords Go.Proofs.YtdekplalhfpooaaW.PrintLast Go.Proofs.YtdekplalhfpooaaW.PrintMore Base Odr Hlp

set_option maxRecDepth 100000 in
set_option maxHeartbeats 6400000 in
theorem same_walk (L : Bool) (ak : Option Addr) (ck : Nat) (K : List Int) (w : World) (hrk : ReadsInt w .u64 ak K.length K) (hlk : K.length * 8 ≤ 140737488351232) (hwk : ∀ x ∈ K, (Lit.int .u64 x).wf = true) (hck : K.length ≤ ck)
    (av : Option Addr) (cv : Nat) (V : List Int) (hrv : ReadsInt w .u64 av V.length V) (hlv : V.length * 8 ≤ 140737488351232) (hwv : ∀ x ∈ V, (Lit.int .u64 x).wf = true) (hcv : V.length ≤ cv)
    (Lp : Bool) (akp : Option Addr) (ckp : Nat) (Kp : List Int) (hrkp : ReadsInt w .u64 akp Kp.length Kp) (hlkp : Kp.length * 8 ≤ 140737488351232) (hwkp : ∀ x ∈ Kp, (Lit.int .u64 x).wf = true) (hckp : Kp.length ≤ ckp)
    (avp : Option Addr) (cvp : Nat) (Vp : List Int) (hrvp : ReadsInt w .u64 avp Vp.length Vp) (hlvp : Vp.length * 8 ≤ 140737488351232) (hwvp : ∀ x ∈ Vp, (Lit.int .u64 x).wf = true) (hcvp : Vp.length ≤ cvp) :
    Calls Try.prog 8 #[.agg #[.bool L, .slice ak K.length ck, .slice av V.length cv], .agg #[.bool Lp, .slice akp Kp.length ckp, .slice avp Vp.length cvp]] w fun e w' => e = .returned (.bool true) ∧ Below w.heap.size w w' := by
  obtain ⟨nk, hnk⟩ : ∃ n, n = K.length := ⟨_, rfl⟩
  obtain ⟨nv, hnv⟩ : ∃ n, n = V.length := ⟨_, rfl⟩
  obtain ⟨nkp, hnkp⟩ : ∃ n, n = Kp.length := ⟨_, rfl⟩
  obtain ⟨nvp, hnvp⟩ : ∃ n, n = Vp.length := ⟨_, rfl⟩
  rw [← hnk] at hrk hlk ⊢
  rw [← hnv] at hrv hlv ⊢
  rw [← hnkp] at hrkp ⊢
  rw [← hnvp] at hrvp ⊢
  obtain ⟨b, hbs⟩ : ∃ b, sameN L Lp K V Kp Vp = b := ⟨_, rfl⟩
  obtain ⟨w1, hw1, b1, f1, s1⟩ := made w #[.bool L, .slice ak nk ck, .slice av nv cv] 24
  obtain ⟨w2, hw2, b2, f2, s2⟩ := made w1 #[.bool Lp, .slice akp nkp ckp, .slice avp nvp cvp] 24
  have X2 := Lib.hid (below_then b1 b1.size b2)
  have R1 := Lib.hid (show w2.heap[w.heap.size]? = some (.cells #[.bool L, .slice ak nk ck, .slice av nv cv] 24 (0, 0)) from keep_row f1 b2)
  have R2 := Lib.hid (show w2.heap[w1.heap.size]? = some (.cells #[.bool Lp, .slice akp nkp ckp, .slice avp nvp cvp] 24 (0, 0)) from f2)
  have RK := Lib.hid (ReadsInt.below hrk X2.out)
  have RV := Lib.hid (ReadsInt.below hrv X2.out)
  have RKp := Lib.hid (ReadsInt.below hrkp X2.out)
  have RVp := Lib.hid (ReadsInt.below hrvp X2.out)
  have LK := Lib.hid hlk
  have LV := Lib.hid hlv
  have HB := Lib.hid hbs
  have HL := Lib.hid (show K.length = nk ∧ V.length = nv from ⟨hnk.symm, hnv.symm⟩)
  have hbb : (b == b) = true := by simp
  clear hck hcv hckp hcvp b1 f1 s1 b2 f2 s2 hrk hrv hrkp hrvp hlk hlv hlkp hlvp hwk hwv hwkp hwvp hnk hnv hnkp hnvp hbs
  go_enter Try.func8, Try.ntmps8
  go_wp2_with fail
  refine start_ (n := 17) (S := fun w' => w'.heap[w.heap.size]? = some (.cells #[.bool L, .slice ak nk ck, .slice av nv cv] 24 (0, 0)) ∧ w'.heap[w1.heap.size]? = some (.cells #[.bool Lp, .slice akp nkp ckp, .slice avp nvp cvp] 24 (0, 0))) (ds := [14]) #[false, false, false, false, false, false, false, false, false, false, false, false, false, false, false, false, false] (by kernel_rfl) rfl rfl ⟨R1.out, R2.out⟩ (fun hHeld => ?_)
  refine one_ (i := 0) (N := some 5) #[true, false, false, false, false, false, false, false, false, false, false, false, false, false, false, false, false] rfl rfl (by kernel_rfl) (by decide) (fun K hK => ?_)
  refine goes_ Try.func31 (by kernel_rfl) rfl #[] (by rfl) rfl rfl (by simp only [List.map_toArray, List.map_cons, List.map_nil]) ?_
  with_reducible refine (awake_any _).mono ?_
  rintro e w7 ⟨rfl, hb⟩
  refine ⟨_, rfl, ?_⟩
  have X7 := Lib.hid (below_then (below_drew (Below.refl w2.heap.size w2)) (Nat.le_refl _) hb)
  clear hb
  refine hK.out _ _ ⟨keep_row R1.out X7.out, keep_row R2.out X7.out⟩ (fun hHeld => ?_)
  clear hK K
  refine norm_ (a' := ?_) ?_ ?_
  rotate_left
  · show Act.put _ (some 5) _ = _
    simp only [Act.put, List.setIfInBounds_toArray, List.set_cons_zero, List.set_cons_succ, i64_w, i32_w]
    rfl
  refine pure_ (i := 1) (N := some 6) (v := ?_) (a' := ?_) #[true, true, false, false, false, false, false, false, false, false, false, false, false, false, false, false, false] rfl rfl (by kernel_rfl) (fun _ _ _ h => h) (Or.inl ⟨by rfl, ?_⟩) ?_ ?_
  rotate_left
  · intro w'
    go_simp
    with_reducible rfl
  rotate_left
  · simp only [Act.put, List.setIfInBounds_toArray, List.set_cons_zero, List.set_cons_succ, i64_w, i32_w]
    rfl
  refine take_ (i := 2) (N := some 7) (v := ?_) (a' := ?_) #[true, true, true, false, false, false, false, false, false, false, false, false, false, false, false, false, false] rfl rfl (by kernel_rfl) (fun _ _ _ h => h) (Or.inl ⟨by rfl, ?_⟩) hHeld ?_ ?_
  rotate_left
  · rintro w' ⟨s0, s1⟩
    refine exec_load_row 24 (.tmp 2) ?_ w.heap.size ?_ 24 _ _ _ s0 Try.underlying24 ?_ ?_
    · rfl
    · rfl
    · rfl
    · exact size3 _ _ _
  rotate_left
  · simp only [Act.put, List.setIfInBounds_toArray, List.set_cons_zero, List.set_cons_succ, i64_w, i32_w]
    rfl
  refine take_ (i := 3) (N := some 8) (v := ?_) (a' := ?_) #[true, true, true, true, false, false, false, false, false, false, false, false, false, false, false, false, false] rfl rfl (by kernel_rfl) (fun _ _ _ h => h) (Or.inl ⟨by rfl, ?_⟩) hHeld ?_ ?_
  rotate_left
  · rintro w' ⟨s0, s1⟩
    refine exec_load_row 24 (.tmp 3) ?_ w1.heap.size ?_ 24 _ _ _ s1 Try.underlying24 ?_ ?_
    · rfl
    · rfl
    · rfl
    · exact size3 _ _ _
  rotate_left
  · simp only [Act.put, List.setIfInBounds_toArray, List.set_cons_zero, List.set_cons_succ, i64_w, i32_w]
    rfl
  refine take_ (i := 5) (N := some 10) (v := ?_) (a' := ?_) #[true, true, true, true, false, true, false, false, false, false, false, false, false, false, false, false, false] rfl rfl (by kernel_rfl) (fun _ _ _ h => h) (Or.inl ⟨by rfl, ?_⟩) hHeld ?_ ?_
  rotate_left
  · rintro w' ⟨s0, s1⟩
    refine exec_load_row 24 (.tmp 2) ?_ w.heap.size ?_ 24 _ _ _ s0 Try.underlying24 ?_ ?_
    · rfl
    · rfl
    · rfl
    · exact size3 _ _ _
  rotate_left
  · simp only [Act.put, List.setIfInBounds_toArray, List.set_cons_zero, List.set_cons_succ, i64_w, i32_w]
    rfl
  refine take_ (i := 6) (N := some 11) (v := ?_) (a' := ?_) #[true, true, true, true, false, true, true, false, false, false, false, false, false, false, false, false, false] rfl rfl (by kernel_rfl) (fun _ _ _ h => h) (Or.inl ⟨by rfl, ?_⟩) hHeld ?_ ?_
  rotate_left
  · rintro w' ⟨s0, s1⟩
    refine exec_load_row 24 (.tmp 3) ?_ w1.heap.size ?_ 24 _ _ _ s1 Try.underlying24 ?_ ?_
    · rfl
    · rfl
    · rfl
    · exact size3 _ _ _
  rotate_left
  · simp only [Act.put, List.setIfInBounds_toArray, List.set_cons_zero, List.set_cons_succ, i64_w, i32_w]
    rfl
  refine one_ (i := 4) (N := some 9) #[true, true, true, true, true, true, true, false, false, false, false, false, false, false, false, false, false] rfl rfl (by kernel_rfl) (by decide) (fun K hK => ?_)
  refine goes_ Try.func37 (by kernel_rfl) rfl #[.agg #[.bool L, .slice ak nk ck, .slice av nv cv], .agg #[.bool Lp, .slice akp nkp ckp, .slice avp nvp cvp]] (by rfl) rfl rfl (by simp only [List.map_toArray, List.map_cons, List.map_nil]; rfl) ?_
  with_reducible refine (same_at _ (ReadsInt.below RK.out X7.out) (ReadsInt.below RV.out X7.out) (ReadsInt.below RKp.out X7.out) (ReadsInt.below RVp.out X7.out) HB.out).mono ?_
  rintro e w8 ⟨rfl, hb⟩
  refine ⟨_, rfl, ?_⟩
  have X8 := Lib.hid (below_then X7.out X7.out.size hb)
  clear hb
  refine hK.out _ _ ⟨keep_row R1.out X8.out, keep_row R2.out X8.out⟩ (fun hHeld => ?_)
  clear hK K
  refine norm_ (a' := ?_) ?_ ?_
  rotate_left
  · show Act.put _ (some 9) _ = _
    simp only [Act.put, List.setIfInBounds_toArray, List.set_cons_zero, List.set_cons_succ, i64_w, i32_w]
    rfl
  refine one_ (i := 7) (N := some 12) #[true, true, true, true, true, true, true, true, false, false, false, false, false, false, false, false, false] rfl rfl (by kernel_rfl) (by decide) (fun K hK => ?_)
  refine goes_ Try.func26 (by kernel_rfl) rfl #[.agg #[.bool L, .slice ak nk ck, .slice av nv cv], .agg #[.bool Lp, .slice akp nkp ckp, .slice avp nvp cvp]] (by rfl) rfl rfl (by simp only [List.map_toArray, List.map_cons, List.map_nil]; rfl) ?_
  with_reducible refine (rsame_at _ (ReadsInt.below RK.out X8.out) (ReadsInt.below RV.out X8.out) (ReadsInt.below RKp.out X8.out) (ReadsInt.below RVp.out X8.out) HB.out).mono ?_
  rintro e w9 ⟨rfl, hb⟩
  refine ⟨_, rfl, ?_⟩
  have X9 := Lib.hid (below_then X8.out X8.out.size hb)
  clear hb
  refine hK.out _ _ ⟨keep_row R1.out X9.out, keep_row R2.out X9.out⟩ (fun hHeld => ?_)
  clear hK K
  refine norm_ (a' := ?_) ?_ ?_
  rotate_left
  · show Act.put _ (some 12) _ = _
    simp only [Act.put, List.setIfInBounds_toArray, List.set_cons_zero, List.set_cons_succ, i64_w, i32_w]
    rfl
  refine pure_ (i := 8) (N := some 13) (v := ?_) (a' := ?_) #[true, true, true, true, true, true, true, true, true, false, false, false, false, false, false, false, false] rfl rfl (by kernel_rfl) (fun _ _ _ h => h) (Or.inl ⟨by rfl, ?_⟩) ?_ ?_
  rotate_left
  · intro w'
    go_simp
    with_reducible rfl
  rotate_left
  · simp only [Act.put, List.setIfInBounds_toArray, List.set_cons_zero, List.set_cons_succ, i64_w, i32_w]
    rfl
  refine pure_ (i := 9) (N := some 14) (v := ?_) (a' := ?_) #[true, true, true, true, true, true, true, true, true, true, false, false, false, false, false, false, false] rfl rfl (by kernel_rfl) (fun _ _ _ h => h) (Or.inl ⟨by rfl, ?_⟩) ?_ ?_
  rotate_left
  · intro w'
    go_simp
    with_reducible rfl
  rotate_left
  · simp only [Act.put, List.setIfInBounds_toArray, List.set_cons_zero, List.set_cons_succ, i64_w, i32_w]
    rfl
  refine pure_ (i := 10) (N := some 15) (v := ?_) (a' := ?_) #[true, true, true, true, true, true, true, true, true, true, true, false, false, false, false, false, false] rfl rfl (by kernel_rfl) (fun _ _ _ h => h) (Or.inl ⟨by rfl, ?_⟩) ?_ ?_
  rotate_left
  · intro w'
    go_simp
    with_reducible rfl
  rotate_left
  · simp only [Act.put, List.setIfInBounds_toArray, List.set_cons_zero, List.set_cons_succ, i64_w, i32_w]
    rfl
  refine take_ (i := 11) (N := some 16) (v := ?_) (a' := ?_) #[true, true, true, true, true, true, true, true, true, true, true, true, false, false, false, false, false] rfl rfl (by kernel_rfl) (fun _ _ _ h => h) (Or.inl ⟨by rfl, ?_⟩) hHeld ?_ ?_
  rotate_left
  · rintro w' ⟨s0, s1⟩
    refine exec_load_row 24 (.tmp 2) ?_ w.heap.size ?_ 24 _ _ _ s0 Try.underlying24 ?_ ?_
    · rfl
    · rfl
    · rfl
    · exact size3 _ _ _
  rotate_left
  · simp only [Act.put, List.setIfInBounds_toArray, List.set_cons_zero, List.set_cons_succ, i64_w, i32_w]
    rfl
  refine take_ (i := 12) (N := some 17) (v := ?_) (a' := ?_) #[true, true, true, true, true, true, true, true, true, true, true, true, true, false, false, false, false] rfl rfl (by kernel_rfl) (fun _ _ _ h => h) (Or.inl ⟨by rfl, ?_⟩) hHeld ?_ ?_
  rotate_left
  · rintro w' ⟨s0, s1⟩
    refine exec_load_row 24 (.tmp 2) ?_ w.heap.size ?_ 24 _ _ _ s0 Try.underlying24 ?_ ?_
    · rfl
    · rfl
    · rfl
    · exact size3 _ _ _
  rotate_left
  · simp only [Act.put, List.setIfInBounds_toArray, List.set_cons_zero, List.set_cons_succ, i64_w, i32_w]
    rfl
  refine one_ (i := 13) (N := some 18) #[true, true, true, true, true, true, true, true, true, true, true, true, true, true, false, false, false] rfl rfl (by kernel_rfl) (by decide) (fun K hK => ?_)
  refine goes_ Try.func20 (by kernel_rfl) rfl #[.agg #[.bool L, .slice ak nk ck, .slice av nv cv]] (by rfl) rfl rfl (by simp only [List.map_toArray, List.map_cons, List.map_nil]; rfl) ?_
  with_reducible refine (own_any L _ _ ak av nk ck nv cv _ (ReadsInt.below RK.out X9.out) (ReadsInt.below RV.out X9.out) LK.out LV.out).mono ?_
  rintro e w10 ⟨A8, c8, A9, c9, rfl, ho1, ho2, hb⟩
  refine ⟨_, rfl, ?_⟩
  have X10 := Lib.hid (below_then X9.out X9.out.size hb)
  have O1 := Lib.hid (reads_own_of ho1 HL.out.1 rfl)
  have O2 := Lib.hid (reads_own_of ho2 HL.out.2 rfl)
  clear ho1 ho2 hb
  refine hK.out _ _ ⟨keep_row R1.out X10.out, keep_row R2.out X10.out⟩ (fun hHeld => ?_)
  clear hK K
  refine norm_ (a' := ?_) ?_ ?_
  rotate_left
  · show Act.put _ (some 18) _ = _
    simp only [Act.put, List.setIfInBounds_toArray, List.set_cons_zero, List.set_cons_succ, i64_w, i32_w]
    rfl
  refine last_ (i := 14) (N := some 19) #[true, true, true, true, true, true, true, true, true, true, true, true, true, true, true, false, false] rfl rfl (by kernel_rfl) (by decide) (fun K hK => ?_)
  refine goes_ Try.func37 (by kernel_rfl) rfl #[.agg #[.bool L, .slice ak nk ck, .slice av nv cv], .agg #[.bool L, .slice A8 nk c8, .slice A9 nv c9]] (by rfl) rfl rfl (by simp only [List.map_toArray, List.map_cons, List.map_nil]; rfl) ?_
  with_reducible refine (same_at _ (ReadsInt.below RK.out X10.out) (ReadsInt.below RV.out X10.out) O1.out O2.out (same_refl _ _ _)).mono ?_
  rintro e w11 ⟨rfl, hb⟩
  refine ⟨_, rfl, ?_⟩
  have X11 := Lib.hid (below_then X10.out X10.out.size hb)
  clear hb
  refine hK.out _ _ ?_
  clear hK K
  refine norm_ (a' := ?_) ?_ ?_
  rotate_left
  · show Act.put _ (some 19) _ = _
    simp only [Act.put, List.setIfInBounds_toArray, List.set_cons_zero, List.set_cons_succ, i64_w, i32_w]
    rfl
  refine pure_ (i := 15) (N := some 20) (v := ?_) (a' := ?_) #[true, true, true, true, true, true, true, true, true, true, true, true, true, true, true, true, false] rfl rfl (by kernel_rfl) (fun _ _ _ h => h) (Or.inl ⟨by rfl, ?_⟩) ?_ ?_
  rotate_left
  · intro w'
    go_simp
    with_reducible rfl
  rotate_left
  · simp only [Act.put, List.setIfInBounds_toArray, List.set_cons_zero, List.set_cons_succ, i64_w, i32_w]
    rfl
  refine pure_ (i := 16) (N := some 4) (v := ?_) (a' := ?_) #[true, true, true, true, true, true, true, true, true, true, true, true, true, true, true, true, true] rfl rfl (by kernel_rfl) (fun _ _ _ h => h) (Or.inl ⟨by rfl, ?_⟩) ?_ ?_
  rotate_left
  · intro w'
    go_simp
    with_reducible rfl
  rotate_left
  · simp only [Act.put, List.setIfInBounds_toArray, List.set_cons_zero, List.set_cons_succ, i64_w, i32_w]
    rfl
  refine done_ (by kernel_rfl) ?_
  go_wp2_with fail
  go_ret
  exact ⟨rfl, below_then X2.out X2.out.size X11.out⟩
end Go.Proofs.Ytdekplalhfpooaa.Nod
