/- Knots: pairs are put in, changed, taken out as the document says: the walk. -/
import Derived.BigQuiet
import Derived.Test.YtdekplalhfpooaaKntZ
set_option linter.unusedVariables false
set_option linter.unusedSimpArgs false
namespace Go.Proofs.Ytdekplalhfpooaa.Knt
open Go Go.RowKit Go.Proofs.YtdekplalhfpooaaW.PrintWords Go.Proofs.YtdekplalhfpooaaW.PrintLast Go.Proofs.YtdekplalhfpooaaW.PrintMore Base Odr Hlp Nod Go.Proofs.Ytdekplalhfpooaa.Inv

set_option maxRecDepth 100000 in
set_option maxHeartbeats 12800000 in
theorem changes_walk (L : Bool) (ak : Option Addr) (ck : Nat) (Ks : List Int) (w : World) (hrk : ReadsInt w .u64 ak Ks.length Ks) (hlk : Ks.length * 8 ≤ 140737488351232) (hwk : ∀ x ∈ Ks, (Lit.int .u64 x).wf = true) (hck : Ks.length ≤ ck)
    (av : Option Addr) (cv : Nat) (Vs : List Int) (hrv : ReadsInt w .u64 av Vs.length Vs) (hlv : Vs.length * 8 ≤ 140737488351232) (hwv : ∀ x ∈ Vs, (Lit.int .u64 x).wf = true) (hcv : Vs.length ≤ cv) (pa pk pv : Int) :
    Calls Try.prog 11 #[.agg #[.bool L, .slice ak Ks.length ck, .slice av Vs.length cv], .agg #[.int .i64 pa, .int .u64 pk, .int .u64 pv]] w fun e w' => e = .returned (.bool true) ∧ Below w.heap.size w w' := by
  clear hwk hwv hck hcv
  obtain ⟨nk, hnk⟩ : ∃ n, Ks.length = n := ⟨_, rfl⟩
  obtain ⟨nv, hnv⟩ : ∃ n, Vs.length = n := ⟨_, rfl⟩
  rw [hnk] at hrk hlk ⊢
  rw [hnv] at hrv hlv ⊢
  obtain ⟨w1, hw1, b1, f1, s1⟩ := made w #[.bool L, .slice ak nk ck, .slice av nv cv] 24
  obtain ⟨w2, hw2, b2, f2, s2⟩ := made w1 #[.int .i64 pa, .int .u64 pk, .int .u64 pv] 58
  have H0 := Lib.hid (((Hold.start w).box 2 b1 f1 (Nat.le_refl _)).box 3 b2 f2 (Nat.le_refl _))
  have RN := Lib.hid (And.intro hrk hrv)
  have HL := Lib.hid (And.intro hlk hlv)
  clear b1 f1 s1 b2 f2 s2 hrk hrv hlk hlv
  go_enter Try.func11, Try.ntmps11
  go_wp2_with fail
  clear hw1 hw2
  refine (awake_any _).mono ?_; rintro e w3 ⟨rfl, hb⟩
  have H1 := Lib.hid (H0.out.below hb)
  clear hb H0
  have P2_2 := Lib.hid (H1.out.row 2 _ _ rfl).1
  go_wp2_with (first | ((with_reducible refine wpList_load_row rfl 24 (.tmp 2) rfl w.heap.size ?_ 24 _ _ _ P2_2.out Try.underlying24 ?_ (size3 _ _ _) ?_); rfl; rfl))
  clear P2_2
  by_cases h1 : 3000 < nk ∨ 3000 < nv
  · have d1 : decide (3000 < nk ∨ 3000 < nv) = true := decide_eq_true h1
    refine (long_any L ak av nk ck nv cv _).mono ?_; rintro e w4 ⟨rfl, hb⟩
    rw [d1]
    have H3 := Lib.hid (H1.out.below hb)
    clear hb h1 d1
    go_wp2_with fail
    go_ret
    exact ⟨rfl, H3.out.bel⟩
  have d1 : decide (3000 < nk ∨ 3000 < nv) = false := decide_eq_false h1
  refine (long_any L ak av nk ck nv cv _).mono ?_; rintro e w4 ⟨rfl, hb⟩
  rw [d1]
  have H4 := Lib.hid (H1.out.below hb)
  have HN1 := Lib.hid h1
  clear hb h1 d1 H1
  have P2_4 := Lib.hid (H4.out.row 2 _ _ rfl).1
  go_wp2_with (first | ((with_reducible refine wpList_load_row rfl 24 (.tmp 2) rfl w.heap.size ?_ 24 _ _ _ P2_4.out Try.underlying24 ?_ (size3 _ _ _) ?_); rfl; rfl))
  clear P2_4
  refine (own_at L Ks Vs ak av nk ck nv cv _ (RN.out.1.below H4.out.bel) (RN.out.2.below H4.out.bel) HL.out.1 HL.out.2).mono ?_; rintro e w5 ⟨A5, c5, B5, e5, rfl, o1, hb⟩
  have H5 := Lib.hid (H4.out.node 10 11 hb o1)
  have CA := Lib.hid (And.intro (And.intro o1.lk o1.lv) (And.intro (fun h => (o1.nk h).2) (fun h => (o1.nv h).2)))
  clear hb o1 H4
  obtain ⟨ya, hya⟩ : ∃ x, w5.alloc (.cells #[.bool false, .slice none 0 0, .slice none 0 0] 24) = x := ⟨_, rfl⟩
  obtain ⟨yb, hyb⟩ : ∃ x, ya.setRow w5.heap.size #[.bool L, .slice A5 nk c5, .slice B5 nv e5] = x := ⟨_, rfl⟩
  have X5 := Lib.hid (one_row hya hyb)
  have H6 := Lib.hid (H5.out.one 5 hya hyb)
  go_wp2_with (first | ((with_reducible refine wpList_store_row rfl 24 (.tmp 5) (.tmp 15) rfl w5.heap.size #[.bool L, .slice A5 nk c5, .slice B5 nv e5] ?_ ?_ 24 _ X5.out.2.1 (size3 _ _ _) ?_ (one3 _ _ _ _ _ _ _) ?_); rfl; rfl; rfl; rw [hyb]))
  clear hya hyb X5 H5
  obtain ⟨m, hm⟩ : ∃ m, min nk nv = m := ⟨_, rfl⟩
  obtain ⟨q, hq⟩ : ∃ q, remN m pa = q := ⟨_, rfl⟩
  obtain ⟨i, hi⟩ : ∃ i, min pa.toNat m = i := ⟨_, rfl⟩
  obtain ⟨XI, hxi⟩ : ∃ x, insL (Ks.take m) pa pk = x := ⟨_, rfl⟩
  obtain ⟨YI, hyi⟩ : ∃ x, insL (Vs.take m) pa pv = x := ⟨_, rfl⟩
  obtain ⟨XS, hxs⟩ : ∃ x, setL (Ks.take m) pa pk = x := ⟨_, rfl⟩
  obtain ⟨YS, hys⟩ : ∃ x, setL (Vs.take m) pa pv = x := ⟨_, rfl⟩
  obtain ⟨XR, hxr⟩ : ∃ x, remL (Ks.take m) pa = x := ⟨_, rfl⟩
  obtain ⟨YR, hyr⟩ : ∃ x, remL (Vs.take m) pa = x := ⟨_, rfl⟩
  have HM := Lib.hid (And.intro hm (And.intro hq hi))
  have HI := Lib.hid (And.intro hxi hyi)
  have HS := Lib.hid (And.intro hxs hys)
  have HR := Lib.hid (And.intro hxr hyr)
  have HB := Lib.hid (show (m + 1) * 8 ≤ 140737488355328 ∧ m * 8 ≤ 140737488355328 by have h3 := HN1.out; omega)
  clear hm hq hi hxi hyi hxs hys hxr hyr
  obtain ⟨RTa, DTa, HTa, ra_2, ra_3, ra_5, ra_BX, ta_10, ta_11⟩ : ∃ (RTa : Rows) (DTa : Its), Hold w RTa DTa yb ∧ RTa 2 = some (w.heap.size, .cells #[.bool L, .slice ak nk ck, .slice av nv cv] 24) ∧ RTa 3 = some (w1.heap.size, .cells #[.int .i64 pa, .int .u64 pk, .int .u64 pv] 58) ∧ RTa 5 = some (w5.heap.size, .cells #[.bool L, .slice A5 nk c5, .slice B5 nv e5] 24) ∧ RTa BX = none ∧ DTa 10 = some (A5, nk, Ks) ∧ DTa 11 = some (B5, nv, Vs) := ⟨_, _, H6.out, rfl, rfl, rfl, rfl, rfl, rfl⟩
  have HTa' := Lib.hid HTa
  have ra_2' := Lib.hid ra_2
  have ra_3' := Lib.hid ra_3
  have ra_5' := Lib.hid ra_5
  have ra_BX' := Lib.hid ra_BX
  have ta_10' := Lib.hid ta_10
  have ta_11' := Lib.hid ta_11
  clear HTa ra_2 ra_3 ra_5 ra_BX ta_10 ta_11 H6
  refine start_ (n := 26) (S := fun w' => w'.cell? ⟨w5.heap.size, 0, none⟩ = some (.bool L) ∧ w'.cell? ⟨w5.heap.size, 1, none⟩ = some (.slice A5 nk c5) ∧ w'.cell? ⟨w5.heap.size, 2, none⟩ = some (.slice B5 nv e5) ∧ w'.cell? ⟨w1.heap.size, 0, none⟩ = some (.int .i64 pa) ∧ w'.cell? ⟨w1.heap.size, 1, none⟩ = some (.int .u64 pk) ∧ w'.cell? ⟨w1.heap.size, 2, none⟩ = some (.int .u64 pv)) (ds := [23, 24, 25]) #[false, false, false, false, false, false, false, false, false, false, false, false, false, false, false, false, false, false, false, false, false, false, false, false, false, false] (by kernel_rfl) rfl rfl ⟨cell_row (HTa'.out.row 5 _ _ ra_5'.out).1 rfl, cell_row (HTa'.out.row 5 _ _ ra_5'.out).1 rfl, cell_row (HTa'.out.row 5 _ _ ra_5'.out).1 rfl, cell_row (HTa'.out.row 3 _ _ ra_3'.out).1 rfl, cell_row (HTa'.out.row 3 _ _ ra_3'.out).1 rfl, cell_row (HTa'.out.row 3 _ _ ra_3'.out).1 rfl⟩ (fun hHeld => ?_)
  refine pure_ (i := 1) (N := some 17) (v := ?_) (a' := ?_) #[false, true, false, false, false, false, false, false, false, false, false, false, false, false, false, false, false, false, false, false, false, false, false, false, false, false] rfl rfl (by kernel_rfl) (fun _ _ _ h => h) (Or.inl ⟨by rfl, ?_⟩) ?_ ?_
  rotate_left
  · intro w'
    go_simp
    with_reducible rfl
  rotate_left
  · simp only [Act.put, List.setIfInBounds_toArray, List.set_cons_zero, List.set_cons_succ, i64_w, i32_w]
    rfl
  refine pure_ (i := 3) (N := some 19) (v := ?_) (a' := ?_) #[false, true, false, true, false, false, false, false, false, false, false, false, false, false, false, false, false, false, false, false, false, false, false, false, false, false] rfl rfl (by kernel_rfl) (fun _ _ _ h => h) (Or.inl ⟨by rfl, ?_⟩) ?_ ?_
  rotate_left
  · intro w'
    go_simp
    with_reducible rfl
  rotate_left
  · simp only [Act.put, List.setIfInBounds_toArray, List.set_cons_zero, List.set_cons_succ, i64_w, i32_w]
    rfl
  refine pure_ (i := 5) (N := some 21) (v := ?_) (a' := ?_) #[false, true, false, true, false, true, false, false, false, false, false, false, false, false, false, false, false, false, false, false, false, false, false, false, false, false] rfl rfl (by kernel_rfl) (fun _ _ _ h => h) (Or.inl ⟨by rfl, ?_⟩) ?_ ?_
  rotate_left
  · intro w'
    go_simp
    with_reducible rfl
  rotate_left
  · simp only [Act.put, List.setIfInBounds_toArray, List.set_cons_zero, List.set_cons_succ, i64_w, i32_w]
    rfl
  refine pure_ (i := 9) (N := some 25) (v := ?_) (a' := ?_) #[false, true, false, true, false, true, false, false, false, true, false, false, false, false, false, false, false, false, false, false, false, false, false, false, false, false] rfl rfl (by kernel_rfl) (fun _ _ _ h => h) (Or.inl ⟨by rfl, ?_⟩) ?_ ?_
  rotate_left
  · intro w'
    go_simp
    with_reducible rfl
  rotate_left
  · simp only [Act.put, List.setIfInBounds_toArray, List.set_cons_zero, List.set_cons_succ, i64_w, i32_w]
    rfl
  refine pure_ (i := 11) (N := some 27) (v := ?_) (a' := ?_) #[false, true, false, true, false, true, false, false, false, true, false, true, false, false, false, false, false, false, false, false, false, false, false, false, false, false] rfl rfl (by kernel_rfl) (fun _ _ _ h => h) (Or.inl ⟨by rfl, ?_⟩) ?_ ?_
  rotate_left
  · intro w'
    go_simp
    with_reducible rfl
  rotate_left
  · simp only [Act.put, List.setIfInBounds_toArray, List.set_cons_zero, List.set_cons_succ, i64_w, i32_w]
    rfl
  refine pure_ (i := 13) (N := some 29) (v := ?_) (a' := ?_) #[false, true, false, true, false, true, false, false, false, true, false, true, false, true, false, false, false, false, false, false, false, false, false, false, false, false] rfl rfl (by kernel_rfl) (fun _ _ _ h => h) (Or.inl ⟨by rfl, ?_⟩) ?_ ?_
  rotate_left
  · intro w'
    go_simp
    with_reducible rfl
  rotate_left
  · simp only [Act.put, List.setIfInBounds_toArray, List.set_cons_zero, List.set_cons_succ, i64_w, i32_w]
    rfl
  refine pure_ (i := 17) (N := some 33) (v := ?_) (a' := ?_) #[false, true, false, true, false, true, false, false, false, true, false, true, false, true, false, false, false, true, false, false, false, false, false, false, false, false] rfl rfl (by kernel_rfl) (fun _ _ _ h => h) (Or.inl ⟨by rfl, ?_⟩) ?_ ?_
  rotate_left
  · intro w'
    go_simp
    with_reducible rfl
  rotate_left
  · simp only [Act.put, List.setIfInBounds_toArray, List.set_cons_zero, List.set_cons_succ, i64_w, i32_w]
    rfl
  refine take_ (i := 0) (N := some 16) (v := ?_) (a' := ?_) #[true, true, false, true, false, true, false, false, false, true, false, true, false, true, false, false, false, true, false, false, false, false, false, false, false, false] rfl rfl (by kernel_rfl) (fun _ _ _ h => h) (Or.inl ⟨by rfl, ?_⟩) hHeld ?_ ?_
  rotate_left
  · rintro w' ⟨s0, s1, s2, s3, s4, s5⟩
    go_simp
    with_reducible rfl
  rotate_left
  · simp only [Act.put, List.setIfInBounds_toArray, List.set_cons_zero, List.set_cons_succ, i64_w, i32_w]
    rfl
  refine take_ (i := 2) (N := some 18) (v := ?_) (a' := ?_) #[true, true, true, true, false, true, false, false, false, true, false, true, false, true, false, false, false, true, false, false, false, false, false, false, false, false] rfl rfl (by kernel_rfl) (fun _ _ _ h => h) (Or.inl ⟨by rfl, ?_⟩) hHeld ?_ ?_
  rotate_left
  · rintro w' ⟨s0, s1, s2, s3, s4, s5⟩
    go_simp
    with_reducible rfl
  rotate_left
  · simp only [Act.put, List.setIfInBounds_toArray, List.set_cons_zero, List.set_cons_succ, i64_w, i32_w]
    rfl
  refine take_ (i := 4) (N := some 20) (v := ?_) (a' := ?_) #[true, true, true, true, true, true, false, false, false, true, false, true, false, true, false, false, false, true, false, false, false, false, false, false, false, false] rfl rfl (by kernel_rfl) (fun _ _ _ h => h) (Or.inl ⟨by rfl, ?_⟩) hHeld ?_ ?_
  rotate_left
  · rintro w' ⟨s0, s1, s2, s3, s4, s5⟩
    go_simp
    with_reducible rfl
  rotate_left
  · simp only [Act.put, List.setIfInBounds_toArray, List.set_cons_zero, List.set_cons_succ, i64_w, i32_w]
    rfl
  refine take_ (i := 6) (N := some 22) (v := ?_) (a' := ?_) #[true, true, true, true, true, true, true, false, false, true, false, true, false, true, false, false, false, true, false, false, false, false, false, false, false, false] rfl rfl (by kernel_rfl) (fun _ _ _ h => h) (Or.inl ⟨by rfl, ?_⟩) hHeld ?_ ?_
  rotate_left
  · rintro w' ⟨s0, s1, s2, s3, s4, s5⟩
    go_simp
    with_reducible rfl
  rotate_left
  · simp only [Act.put, List.setIfInBounds_toArray, List.set_cons_zero, List.set_cons_succ, i64_w, i32_w]
    rfl
  refine take_ (i := 8) (N := some 24) (v := ?_) (a' := ?_) #[true, true, true, true, true, true, true, false, true, true, false, true, false, true, false, false, false, true, false, false, false, false, false, false, false, false] rfl rfl (by kernel_rfl) (fun _ _ _ h => h) (Or.inl ⟨by rfl, ?_⟩) hHeld ?_ ?_
  rotate_left
  · rintro w' ⟨s0, s1, s2, s3, s4, s5⟩
    go_simp
    with_reducible rfl
  rotate_left
  · simp only [Act.put, List.setIfInBounds_toArray, List.set_cons_zero, List.set_cons_succ, i64_w, i32_w]
    rfl
  refine take_ (i := 10) (N := some 26) (v := ?_) (a' := ?_) #[true, true, true, true, true, true, true, false, true, true, true, true, false, true, false, false, false, true, false, false, false, false, false, false, false, false] rfl rfl (by kernel_rfl) (fun _ _ _ h => h) (Or.inl ⟨by rfl, ?_⟩) hHeld ?_ ?_
  rotate_left
  · rintro w' ⟨s0, s1, s2, s3, s4, s5⟩
    go_simp
    with_reducible rfl
  rotate_left
  · simp only [Act.put, List.setIfInBounds_toArray, List.set_cons_zero, List.set_cons_succ, i64_w, i32_w]
    rfl
  refine take_ (i := 12) (N := some 28) (v := ?_) (a' := ?_) #[true, true, true, true, true, true, true, false, true, true, true, true, true, true, false, false, false, true, false, false, false, false, false, false, false, false] rfl rfl (by kernel_rfl) (fun _ _ _ h => h) (Or.inl ⟨by rfl, ?_⟩) hHeld ?_ ?_
  rotate_left
  · rintro w' ⟨s0, s1, s2, s3, s4, s5⟩
    go_simp
    with_reducible rfl
  rotate_left
  · simp only [Act.put, List.setIfInBounds_toArray, List.set_cons_zero, List.set_cons_succ, i64_w, i32_w]
    rfl
  refine take_ (i := 14) (N := some 30) (v := ?_) (a' := ?_) #[true, true, true, true, true, true, true, false, true, true, true, true, true, true, true, false, false, true, false, false, false, false, false, false, false, false] rfl rfl (by kernel_rfl) (fun _ _ _ h => h) (Or.inl ⟨by rfl, ?_⟩) hHeld ?_ ?_
  rotate_left
  · rintro w' ⟨s0, s1, s2, s3, s4, s5⟩
    go_simp
    with_reducible rfl
  rotate_left
  · simp only [Act.put, List.setIfInBounds_toArray, List.set_cons_zero, List.set_cons_succ, i64_w, i32_w]
    rfl
  refine take_ (i := 16) (N := some 32) (v := ?_) (a' := ?_) #[true, true, true, true, true, true, true, false, true, true, true, true, true, true, true, false, true, true, false, false, false, false, false, false, false, false] rfl rfl (by kernel_rfl) (fun _ _ _ h => h) (Or.inl ⟨by rfl, ?_⟩) hHeld ?_ ?_
  rotate_left
  · rintro w' ⟨s0, s1, s2, s3, s4, s5⟩
    go_simp
    with_reducible rfl
  rotate_left
  · simp only [Act.put, List.setIfInBounds_toArray, List.set_cons_zero, List.set_cons_succ, i64_w, i32_w]
    rfl
  refine take_ (i := 18) (N := some 34) (v := ?_) (a' := ?_) #[true, true, true, true, true, true, true, false, true, true, true, true, true, true, true, false, true, true, true, false, false, false, false, false, false, false] rfl rfl (by kernel_rfl) (fun _ _ _ h => h) (Or.inl ⟨by rfl, ?_⟩) hHeld ?_ ?_
  rotate_left
  · rintro w' ⟨s0, s1, s2, s3, s4, s5⟩
    go_simp
    with_reducible rfl
  rotate_left
  · simp only [Act.put, List.setIfInBounds_toArray, List.set_cons_zero, List.set_cons_succ, i64_w, i32_w]
    rfl
  refine inv_ (fuel' := 3) #[true, true, true, true, true, true, true, true, true, true, true, true, true, true, true, true, true, true, true, true, true, true, true, false, false, false] [(7, 23, []), (15, 31, [7]), (19, 35, [15]), (20, 6, []), (21, 7, []), (22, 8, [])] (fun sel v W => ∃ (R' : Rows) (D' : Its), Hold w R' D' W ∧ (∀ k, k ≠ 6 → k ≠ 7 → k ≠ 8 → R' k = RTa k) ∧ (∀ k, k ≠ 20 → k ≠ 21 → k ≠ 22 → k ≠ 23 → k ≠ 24 → k ≠ 25 → D' k = DTa k) ∧ (sel 7 = true → SpN D' 20 21 L (m + 1) (m + 1) XI YI (v 7)) ∧ (sel 15 = true → SpN D' 22 23 L m m XS YS (v 15)) ∧ (sel 19 = true → SpN D' 24 25 L q q XR YR (v 19)) ∧ (sel 20 = true → SpA R' 6 (.cells #[.bool false, .slice none 0 0, .slice none 0 0] 24) (v 20)) ∧ (sel 21 = true → SpA R' 7 (.cells #[.bool false, .slice none 0 0, .slice none 0 0] 24) (v 21)) ∧ (sel 22 = true → SpA R' 8 (.cells #[.bool false, .slice none 0 0, .slice none 0 0] 24) (v 22))) (by kernel_rfl) (fun _ _ _ _ _ => Iff.rfl) (fun sel v W ⟨R', D', hH, hR, hD, _⟩ => ⟨cell_row (hH.row 5 _ _ ((hR 5 (by decide) (by decide) (by decide)).trans ra_5'.out)).1 rfl, cell_row (hH.row 5 _ _ ((hR 5 (by decide) (by decide) (by decide)).trans ra_5'.out)).1 rfl, cell_row (hH.row 5 _ _ ((hR 5 (by decide) (by decide) (by decide)).trans ra_5'.out)).1 rfl, cell_row (hH.row 3 _ _ ((hR 3 (by decide) (by decide) (by decide)).trans ra_3'.out)).1 rfl, cell_row (hH.row 3 _ _ ((hR 3 (by decide) (by decide) (by decide)).trans ra_3'.out)).1 rfl, cell_row (hH.row 3 _ _ ((hR 3 (by decide) (by decide) (by decide)).trans ra_3'.out)).1 rfl⟩) (⟨_, _, HTa'.out.drew, fun _ _ _ _ => rfl, fun _ _ _ _ _ _ _ => rfl, fun h => (Bool.false_ne_true h).elim, fun h => (Bool.false_ne_true h).elim, fun h => (Bool.false_ne_true h).elim, fun h => (Bool.false_ne_true h).elim, fun h => (Bool.false_ne_true h).elim, fun h => (Bool.false_ne_true h).elim⟩) ?_ ?_ (by rfl)
  · refine steps_cons rfl ?_ (steps_cons rfl ?_ (steps_cons rfl ?_ (steps_cons rfl ?_ (steps_cons rfl ?_ (steps_cons rfl ?_ (steps_nil))))))
    · intro sel v W hI hs hd
      obtain ⟨R', D', hH, hR, hD, e7, e15, e19, e20, e21, e22⟩ := hI
      intro a1 ha1 K hK
      simp (decide := true) only [foldA, if_true, if_false, ite_true, ite_false, Act.put, List.setIfInBounds_toArray, List.set_cons_zero, List.set_cons_succ] at ha1
      subst ha1
      refine goes_ Try.func38 (by kernel_rfl) rfl #[.agg #[.bool L, .slice A5 nk c5, .slice B5 nv e5], .int .i64 pa, .int .u64 pk, .int .u64 pv] (by rfl) rfl rfl (by simp only [List.map_toArray, List.map_cons, List.map_nil]; rfl) ?_
      with_reducible refine (inst_at L Ks Vs XI YI A5 B5 nk c5 nv e5 m i pa pk pv _ (hH.rd 10 ((hD 10 (by decide) (by decide) (by decide) (by decide) (by decide) (by decide)).trans ta_10'.out)) (hH.rd 11 ((hD 11 (by decide) (by decide) (by decide) (by decide) (by decide) (by decide)).trans ta_11'.out)) HM.out.1 HI.out.1 HI.out.2 HM.out.2.2 CA.out.1 ⟨CA.out.2.1, CA.out.2.2⟩ HB.out.1).mono ?_
      rintro e W2 ⟨A0, c0, B0, d0, rfl, ho, hb⟩
      refine ⟨_, rfl, ?_⟩
      exact hK.out _ _ ⟨R', _, hH.node 20 21 hb ho, hR, fun k h20 h21 h22 h23 h24 h25 => (upd_ne _ _ h21).trans ((upd_ne _ _ h20).trans (hD k h20 h21 h22 h23 h24 h25)), newS (SpN.new (by decide) ho), keepS (by decide) e15 (fun h => SpN.up h (by decide) (by decide) (by decide) (by decide)), keepS (by decide) e19 (fun h => SpN.up h (by decide) (by decide) (by decide) (by decide)), keepS (by decide) e20 id, keepS (by decide) e21 id, keepS (by decide) e22 id⟩
    · intro sel v W hI hs hd
      simp only [List.all_cons, List.all_nil, Bool.and_true, Bool.and_eq_true] at hd
      obtain ⟨R', D', hH, hR, hD, e7, e15, e19, e20, e21, e22⟩ := hI
      intro a1 ha1 K hK
      simp (decide := true) only [foldA, if_true, if_false, ite_true, ite_false, Act.put, List.setIfInBounds_toArray, List.set_cons_zero, List.set_cons_succ] at ha1
      subst ha1
      refine goes_ Try.func39 (by kernel_rfl) rfl #[.agg #[.bool L, .slice A5 nk c5, .slice B5 nv e5], .int .i64 pa, .int .u64 pk, .int .u64 pv] (by rfl) rfl rfl (by simp only [List.map_toArray, List.map_cons, List.map_nil]; rfl) ?_
      with_reducible refine (set_at L Ks Vs XS YS A5 B5 nk c5 nv e5 m pa pk pv _ (hH.rd 10 ((hD 10 (by decide) (by decide) (by decide) (by decide) (by decide) (by decide)).trans ta_10'.out)) (hH.rd 11 ((hD 11 (by decide) (by decide) (by decide) (by decide) (by decide) (by decide)).trans ta_11'.out)) HM.out.1 HS.out.1 HS.out.2 CA.out.1 ⟨CA.out.2.1, CA.out.2.2⟩ HB.out.2).mono ?_
      rintro e W2 ⟨A0, c0, B0, d0, rfl, ho, hb⟩
      refine ⟨_, rfl, ?_⟩
      exact hK.out _ _ ⟨R', _, hH.node 22 23 hb ho, hR, fun k h20 h21 h22 h23 h24 h25 => (upd_ne _ _ h23).trans ((upd_ne _ _ h22).trans (hD k h20 h21 h22 h23 h24 h25)), keepS (by decide) e7 (fun h => SpN.up h (by decide) (by decide) (by decide) (by decide)), newS (SpN.new (by decide) ho), keepS (by decide) e19 (fun h => SpN.up h (by decide) (by decide) (by decide) (by decide)), keepS (by decide) e20 id, keepS (by decide) e21 id, keepS (by decide) e22 id⟩
    · intro sel v W hI hs hd
      simp only [List.all_cons, List.all_nil, Bool.and_true, Bool.and_eq_true] at hd
      obtain ⟨R', D', hH, hR, hD, e7, e15, e19, e20, e21, e22⟩ := hI
      intro a1 ha1 K hK
      simp (decide := true) only [foldA, if_true, if_false, ite_true, ite_false, Act.put, List.setIfInBounds_toArray, List.set_cons_zero, List.set_cons_succ] at ha1
      subst ha1
      refine goes_ Try.func40 (by kernel_rfl) rfl #[.agg #[.bool L, .slice A5 nk c5, .slice B5 nv e5], .int .i64 pa] (by rfl) rfl rfl (by simp only [List.map_toArray, List.map_cons, List.map_nil]; rfl) ?_
      with_reducible refine (rem_at L Ks Vs XR YR A5 B5 nk c5 nv e5 m q pa _ (hH.rd 10 ((hD 10 (by decide) (by decide) (by decide) (by decide) (by decide) (by decide)).trans ta_10'.out)) (hH.rd 11 ((hD 11 (by decide) (by decide) (by decide) (by decide) (by decide) (by decide)).trans ta_11'.out)) HM.out.1 HR.out.1 HR.out.2 HM.out.2.1 CA.out.1 ⟨CA.out.2.1, CA.out.2.2⟩ HB.out.2).mono ?_
      rintro e W2 ⟨A0, c0, B0, d0, rfl, ho, hb⟩
      refine ⟨_, rfl, ?_⟩
      exact hK.out _ _ ⟨R', _, hH.node 24 25 hb ho, hR, fun k h20 h21 h22 h23 h24 h25 => (upd_ne _ _ h25).trans ((upd_ne _ _ h24).trans (hD k h20 h21 h22 h23 h24 h25)), keepS (by decide) e7 (fun h => SpN.up h (by decide) (by decide) (by decide) (by decide)), keepS (by decide) e15 (fun h => SpN.up h (by decide) (by decide) (by decide) (by decide)), newS (SpN.new (by decide) ho), keepS (by decide) e20 id, keepS (by decide) e21 id, keepS (by decide) e22 id⟩
    · intro sel v W hI hs hd
      obtain ⟨R', D', hH, hR, hD, e7, e15, e19, e20, e21, e22⟩ := hI
      intro a1 ha1 K hK
      simp (decide := true) only [foldA, if_true, if_false, ite_true, ite_false, Act.put, List.setIfInBounds_toArray, List.set_cons_zero, List.set_cons_succ] at ha1
      subst ha1
      refine value_ (w1 := ?_) (v := ?_) (by rfl) rfl ?_ ?_
      rotate_left 2
      · go_simp
        constructor
        · rfl
        · rfl
      exact hK.out _ _ ⟨_, D', hH.box 6 ((Below.refl _ _).alloc (Nat.le_refl _) _) (heap_alloc_new _ _) (Nat.le_refl _), fun k h6 h7 h8 => (upd_ne _ _ h6).trans (hR k h6 h7 h8), hD, keepS (by decide) e7 id, keepS (by decide) e15 id, keepS (by decide) e19 id, newS ⟨_, rfl, upd_same _ _ _⟩, keepS (by decide) e21 (fun h => SpA.up h (by decide)), keepS (by decide) e22 (fun h => SpA.up h (by decide))⟩
    · intro sel v W hI hs hd
      obtain ⟨R', D', hH, hR, hD, e7, e15, e19, e20, e21, e22⟩ := hI
      intro a1 ha1 K hK
      simp (decide := true) only [foldA, if_true, if_false, ite_true, ite_false, Act.put, List.setIfInBounds_toArray, List.set_cons_zero, List.set_cons_succ] at ha1
      subst ha1
      refine value_ (w1 := ?_) (v := ?_) (by rfl) rfl ?_ ?_
      rotate_left 2
      · go_simp
        constructor
        · rfl
        · rfl
      exact hK.out _ _ ⟨_, D', hH.box 7 ((Below.refl _ _).alloc (Nat.le_refl _) _) (heap_alloc_new _ _) (Nat.le_refl _), fun k h6 h7 h8 => (upd_ne _ _ h7).trans (hR k h6 h7 h8), hD, keepS (by decide) e7 id, keepS (by decide) e15 id, keepS (by decide) e19 id, keepS (by decide) e20 (fun h => SpA.up h (by decide)), newS ⟨_, rfl, upd_same _ _ _⟩, keepS (by decide) e22 (fun h => SpA.up h (by decide))⟩
    · intro sel v W hI hs hd
      obtain ⟨R', D', hH, hR, hD, e7, e15, e19, e20, e21, e22⟩ := hI
      intro a1 ha1 K hK
      simp (decide := true) only [foldA, if_true, if_false, ite_true, ite_false, Act.put, List.setIfInBounds_toArray, List.set_cons_zero, List.set_cons_succ] at ha1
      subst ha1
      refine value_ (w1 := ?_) (v := ?_) (by rfl) rfl ?_ ?_
      rotate_left 2
      · go_simp
        constructor
        · rfl
        · rfl
      exact hK.out _ _ ⟨_, D', hH.box 8 ((Below.refl _ _).alloc (Nat.le_refl _) _) (heap_alloc_new _ _) (Nat.le_refl _), fun k h6 h7 h8 => (upd_ne _ _ h8).trans (hR k h6 h7 h8), hD, keepS (by decide) e7 id, keepS (by decide) e15 id, keepS (by decide) e19 id, keepS (by decide) e20 (fun h => SpA.up h (by decide)), keepS (by decide) e21 (fun h => SpA.up h (by decide)), newS ⟨_, rfl, upd_same _ _ _⟩⟩
  intro sel v W hsel hI
  obtain ⟨R', D', hH, hR, hD, z7, z15, z19, z20, z21, z22⟩ := hI
  obtain ⟨A6, c6, B6, e6, q7, t20, t21, k7⟩ := z7 (hsel (7, 23, []) (by simp))
  obtain ⟨A7, c7, B7, e7, q15, t22, t23, k15⟩ := z15 (hsel (15, 31, [7]) (by simp))
  obtain ⟨A8, c8, B8, e8, q19, t24, t25, k19⟩ := z19 (hsel (19, 35, [15]) (by simp))
  obtain ⟨g6, q20, r6⟩ := z20 (hsel (20, 6, []) (by simp))
  obtain ⟨g7, q21, r7⟩ := z21 (hsel (21, 7, []) (by simp))
  obtain ⟨g8, q22, r8⟩ := z22 (hsel (22, 8, []) (by simp))
  have HR0 := Lib.hid hH
  have rr2 := Lib.hid ((hR 2 (by decide) (by decide) (by decide)).trans ra_2'.out)
  have rr3 := Lib.hid ((hR 3 (by decide) (by decide) (by decide)).trans ra_3'.out)
  have rr5 := Lib.hid ((hR 5 (by decide) (by decide) (by decide)).trans ra_5'.out)
  have rrB := Lib.hid ((hR BX (by decide) (by decide) (by decide)).trans ra_BX'.out)
  have tt10 := Lib.hid ((hD 10 (by decide) (by decide) (by decide) (by decide) (by decide) (by decide)).trans ta_10'.out)
  have tt11 := Lib.hid ((hD 11 (by decide) (by decide) (by decide) (by decide) (by decide) (by decide)).trans ta_11'.out)
  have rr6 := Lib.hid r6
  have rr7 := Lib.hid r7
  have rr8 := Lib.hid r8
  have tt20 := Lib.hid t20
  have tt21 := Lib.hid t21
  have tt22 := Lib.hid t22
  have tt23 := Lib.hid t23
  have tt24 := Lib.hid t24
  have tt25 := Lib.hid t25
  clear hH hR hD z7 z15 z19 z20 z21 z22 r6 r7 r8 t20 t21 t22 t23 t24 t25 k7 k15 k19 hsel
  refine norm_ (a' := ?_) ?_ ?_
  rotate_left
  · simp (decide := true) only [foldA, if_true, if_false, ite_true, ite_false, Act.put, List.setIfInBounds_toArray, List.set_cons_zero, List.set_cons_succ, q7, q15, q19, q20, q21, q22]
    rfl
  refine last_ (i := 23) (N := none) #[true, true, true, true, true, true, true, true, true, true, true, true, true, true, true, true, true, true, true, true, true, true, true, true, false, false] rfl rfl (by kernel_rfl) (by decide) (fun K hK => ?_)
  refine skip_ (w1 := W.setRow g6 #[.bool L, .slice A6 (m + 1) c6, .slice B6 (m + 1) e6]) (by rfl) rfl (exec_store_row 24 _ _ rfl g6 #[.bool L, .slice A6 (m + 1) c6, .slice B6 (m + 1) e6] (by rfl) (by rfl) 24 _ (HR0.out.row 6 _ _ (rr6.out)).1 (size3 _ _ _) rfl (one3 _ _ _ _ _ _ _)) ?_
  have HR1 := Lib.hid (HR0.out.setRow 6 (cs' := #[.bool L, .slice A6 (m + 1) c6, .slice B6 (m + 1) e6]) (rr6.out))
  obtain ⟨W1, hy23⟩ : ∃ y, W.setRow g6 #[.bool L, .slice A6 (m + 1) c6, .slice B6 (m + 1) e6] = y := ⟨_, rfl⟩
  rw [hy23] at HR1
  rw [hy23]
  clear hy23
  refine hK.out _ _ ?_
  clear hK K
  refine last_ (i := 24) (N := none) #[true, true, true, true, true, true, true, true, true, true, true, true, true, true, true, true, true, true, true, true, true, true, true, true, true, false] rfl rfl (by kernel_rfl) (by decide) (fun K hK => ?_)
  refine skip_ (w1 := W1.setRow g7 #[.bool L, .slice A7 m c7, .slice B7 m e7]) (by rfl) rfl (exec_store_row 24 _ _ rfl g7 #[.bool L, .slice A7 m c7, .slice B7 m e7] (by rfl) (by rfl) 24 _ (HR1.out.row 7 _ _ ((upd_ne _ _ (by decide)).trans rr7.out)).1 (size3 _ _ _) rfl (one3 _ _ _ _ _ _ _)) ?_
  have HR2 := Lib.hid (HR1.out.setRow 7 (cs' := #[.bool L, .slice A7 m c7, .slice B7 m e7]) ((upd_ne _ _ (by decide)).trans rr7.out))
  obtain ⟨W2, hy24⟩ : ∃ y, W1.setRow g7 #[.bool L, .slice A7 m c7, .slice B7 m e7] = y := ⟨_, rfl⟩
  rw [hy24] at HR2
  rw [hy24]
  clear hy24
  refine hK.out _ _ ?_
  clear hK K
  refine last_ (i := 25) (N := none) #[true, true, true, true, true, true, true, true, true, true, true, true, true, true, true, true, true, true, true, true, true, true, true, true, true, true] rfl rfl (by kernel_rfl) (by decide) (fun K hK => ?_)
  refine skip_ (w1 := W2.setRow g8 #[.bool L, .slice A8 q c8, .slice B8 q e8]) (by rfl) rfl (exec_store_row 24 _ _ rfl g8 #[.bool L, .slice A8 q c8, .slice B8 q e8] (by rfl) (by rfl) 24 _ (HR2.out.row 8 _ _ ((upd_ne _ _ (by decide)).trans ((upd_ne _ _ (by decide)).trans rr8.out))).1 (size3 _ _ _) rfl (one3 _ _ _ _ _ _ _)) ?_
  have HR3 := Lib.hid (HR2.out.setRow 8 (cs' := #[.bool L, .slice A8 q c8, .slice B8 q e8]) ((upd_ne _ _ (by decide)).trans ((upd_ne _ _ (by decide)).trans rr8.out)))
  obtain ⟨W3, hy25⟩ : ∃ y, W2.setRow g8 #[.bool L, .slice A8 q c8, .slice B8 q e8] = y := ⟨_, rfl⟩
  rw [hy25] at HR3
  rw [hy25]
  clear hy25
  refine hK.out _ _ ?_
  clear hK K
  refine done_ (by kernel_rfl) ?_
  clear hHeld HTa' HR0 HR1 HR2 ra_2' ra_3' ra_5' ra_BX' ta_10' ta_11'
  obtain ⟨RTb, DTb, HTb, rb_2, rb_3, rb_5, rb_6, rb_7, rb_8, rb_BX, tb_10, tb_11, tb_20, tb_21, tb_22, tb_23, tb_24, tb_25⟩ : ∃ (RTb : Rows) (DTb : Its), Hold w RTb DTb W3 ∧ RTb 2 = some (w.heap.size, .cells #[.bool L, .slice ak nk ck, .slice av nv cv] 24) ∧ RTb 3 = some (w1.heap.size, .cells #[.int .i64 pa, .int .u64 pk, .int .u64 pv] 58) ∧ RTb 5 = some (w5.heap.size, .cells #[.bool L, .slice A5 nk c5, .slice B5 nv e5] 24) ∧ RTb 6 = some (g6, .cells #[.bool L, .slice A6 (m + 1) c6, .slice B6 (m + 1) e6] 24) ∧ RTb 7 = some (g7, .cells #[.bool L, .slice A7 m c7, .slice B7 m e7] 24) ∧ RTb 8 = some (g8, .cells #[.bool L, .slice A8 q c8, .slice B8 q e8] 24) ∧ RTb BX = none ∧ DTb 10 = some (A5, nk, Ks) ∧ DTb 11 = some (B5, nv, Vs) ∧ DTb 20 = some (A6, (m + 1), XI) ∧ DTb 21 = some (B6, (m + 1), YI) ∧ DTb 22 = some (A7, m, XS) ∧ DTb 23 = some (B7, m, YS) ∧ DTb 24 = some (A8, q, XR) ∧ DTb 25 = some (B8, q, YR) := ⟨_, _, HR3.out, (upd_ne _ _ (by decide)).trans ((upd_ne _ _ (by decide)).trans ((upd_ne _ _ (by decide)).trans rr2.out)), (upd_ne _ _ (by decide)).trans ((upd_ne _ _ (by decide)).trans ((upd_ne _ _ (by decide)).trans rr3.out)), (upd_ne _ _ (by decide)).trans ((upd_ne _ _ (by decide)).trans ((upd_ne _ _ (by decide)).trans rr5.out)), (upd_ne _ _ (by decide)).trans ((upd_ne _ _ (by decide)).trans (upd_same _ _ _)), (upd_ne _ _ (by decide)).trans (upd_same _ _ _), upd_same _ _ _, (upd_ne _ _ (by decide)).trans ((upd_ne _ _ (by decide)).trans ((upd_ne _ _ (by decide)).trans rrB.out)), tt10.out, tt11.out, tt20.out, tt21.out, tt22.out, tt23.out, tt24.out, tt25.out⟩
  have HTb' := Lib.hid HTb
  have rb_2' := Lib.hid rb_2
  have rb_3' := Lib.hid rb_3
  have rb_5' := Lib.hid rb_5
  have rb_6' := Lib.hid rb_6
  have rb_7' := Lib.hid rb_7
  have rb_8' := Lib.hid rb_8
  have rb_BX' := Lib.hid rb_BX
  have tb_10' := Lib.hid tb_10
  have tb_11' := Lib.hid tb_11
  have tb_20' := Lib.hid tb_20
  have tb_21' := Lib.hid tb_21
  have tb_22' := Lib.hid tb_22
  have tb_23' := Lib.hid tb_23
  have tb_24' := Lib.hid tb_24
  have tb_25' := Lib.hid tb_25
  clear HTb rb_2 rb_3 rb_5 rb_6 rb_7 rb_8 rb_BX tb_10 tb_11 tb_20 tb_21 tb_22 tb_23 tb_24 tb_25 HR3
  clear rr2 rr3 rr5 rr6 rr7 rr8 rrB tt10 tt11 tt20 tt21 tt22 tt23 tt24 tt25
  go_wp2_with fail
  have HTbd := Lib.hid (HTb'.out.drew)
  refine start_ (n := 31) (S := fun w' => w'.cell? ⟨g6, 0, none⟩ = some (.bool L) ∧ w'.cell? ⟨g6, 1, none⟩ = some (.slice A6 (m + 1) c6) ∧ w'.cell? ⟨g6, 2, none⟩ = some (.slice B6 (m + 1) e6) ∧ w'.cell? ⟨g7, 0, none⟩ = some (.bool L) ∧ w'.cell? ⟨g7, 1, none⟩ = some (.slice A7 m c7) ∧ w'.cell? ⟨g7, 2, none⟩ = some (.slice B7 m e7) ∧ w'.cell? ⟨g8, 0, none⟩ = some (.bool L) ∧ w'.cell? ⟨g8, 1, none⟩ = some (.slice A8 q c8) ∧ w'.cell? ⟨g8, 2, none⟩ = some (.slice B8 q e8) ∧ w'.cell? ⟨w.heap.size, 0, none⟩ = some (.bool L) ∧ w'.cell? ⟨w.heap.size, 1, none⟩ = some (.slice ak nk ck) ∧ w'.cell? ⟨w.heap.size, 2, none⟩ = some (.slice av nv cv) ∧ w'.cell? ⟨w1.heap.size, 0, none⟩ = some (.int .i64 pa) ∧ w'.cell? ⟨w1.heap.size, 1, none⟩ = some (.int .u64 pk) ∧ w'.cell? ⟨w1.heap.size, 2, none⟩ = some (.int .u64 pv)) (ds := []) #[false, false, false, false, false, false, false, false, false, false, false, false, false, false, false, false, false, false, false, false, false, false, false, false, false, false, false, false, false, false, false] (by kernel_rfl) rfl rfl ⟨cell_row (HTbd.out.row 6 _ _ rb_6'.out).1 rfl, cell_row (HTbd.out.row 6 _ _ rb_6'.out).1 rfl, cell_row (HTbd.out.row 6 _ _ rb_6'.out).1 rfl, cell_row (HTbd.out.row 7 _ _ rb_7'.out).1 rfl, cell_row (HTbd.out.row 7 _ _ rb_7'.out).1 rfl, cell_row (HTbd.out.row 7 _ _ rb_7'.out).1 rfl, cell_row (HTbd.out.row 8 _ _ rb_8'.out).1 rfl, cell_row (HTbd.out.row 8 _ _ rb_8'.out).1 rfl, cell_row (HTbd.out.row 8 _ _ rb_8'.out).1 rfl, cell_row (HTbd.out.row 2 _ _ rb_2'.out).1 rfl, cell_row (HTbd.out.row 2 _ _ rb_2'.out).1 rfl, cell_row (HTbd.out.row 2 _ _ rb_2'.out).1 rfl, cell_row (HTbd.out.row 3 _ _ rb_3'.out).1 rfl, cell_row (HTbd.out.row 3 _ _ rb_3'.out).1 rfl, cell_row (HTbd.out.row 3 _ _ rb_3'.out).1 rfl⟩ (fun hHeld => ?_)
  refine pure_ (i := 2) (N := some 38) (v := ?_) (a' := ?_) #[false, false, true, false, false, false, false, false, false, false, false, false, false, false, false, false, false, false, false, false, false, false, false, false, false, false, false, false, false, false, false] rfl rfl (by kernel_rfl) (fun _ _ _ h => h) (Or.inl ⟨by rfl, ?_⟩) ?_ ?_
  rotate_left
  · intro w'
    go_simp
    with_reducible rfl
  rotate_left
  · simp only [Act.put, List.setIfInBounds_toArray, List.set_cons_zero, List.set_cons_succ, i64_w, i32_w]
    rfl
  refine pure_ (i := 4) (N := some 40) (v := ?_) (a' := ?_) #[false, false, true, false, true, false, false, false, false, false, false, false, false, false, false, false, false, false, false, false, false, false, false, false, false, false, false, false, false, false, false] rfl rfl (by kernel_rfl) (fun _ _ _ h => h) (Or.inl ⟨by rfl, ?_⟩) ?_ ?_
  rotate_left
  · intro w'
    go_simp
    with_reducible rfl
  rotate_left
  · simp only [Act.put, List.setIfInBounds_toArray, List.set_cons_zero, List.set_cons_succ, i64_w, i32_w]
    rfl
  refine pure_ (i := 6) (N := some 42) (v := ?_) (a' := ?_) #[false, false, true, false, true, false, true, false, false, false, false, false, false, false, false, false, false, false, false, false, false, false, false, false, false, false, false, false, false, false, false] rfl rfl (by kernel_rfl) (fun _ _ _ h => h) (Or.inl ⟨by rfl, ?_⟩) ?_ ?_
  rotate_left
  · intro w'
    go_simp
    with_reducible rfl
  rotate_left
  · simp only [Act.put, List.setIfInBounds_toArray, List.set_cons_zero, List.set_cons_succ, i64_w, i32_w]
    rfl
  refine take_ (i := 0) (N := some 36) (v := ?_) (a' := ?_) #[true, false, true, false, true, false, true, false, false, false, false, false, false, false, false, false, false, false, false, false, false, false, false, false, false, false, false, false, false, false, false] rfl rfl (by kernel_rfl) (fun _ _ _ h => h) (Or.inl ⟨by rfl, ?_⟩) hHeld ?_ ?_
  rotate_left
  · rintro w' ⟨s0, s1, s2, s3, s4, s5, s6, s7, s8, s9, s10, s11, s12, s13, s14⟩
    go_simp
    with_reducible rfl
  rotate_left
  · simp only [Act.put, List.setIfInBounds_toArray, List.set_cons_zero, List.set_cons_succ, i64_w, i32_w]
    rfl
  refine take_ (i := 1) (N := some 37) (v := ?_) (a' := ?_) #[true, true, true, false, true, false, true, false, false, false, false, false, false, false, false, false, false, false, false, false, false, false, false, false, false, false, false, false, false, false, false] rfl rfl (by kernel_rfl) (fun _ _ _ h => h) (Or.inl ⟨by rfl, ?_⟩) hHeld ?_ ?_
  rotate_left
  · rintro w' ⟨s0, s1, s2, s3, s4, s5, s6, s7, s8, s9, s10, s11, s12, s13, s14⟩
    go_simp
    with_reducible rfl
  rotate_left
  · simp only [Act.put, List.setIfInBounds_toArray, List.set_cons_zero, List.set_cons_succ, i64_w, i32_w]
    rfl
  refine take_ (i := 3) (N := some 39) (v := ?_) (a' := ?_) #[true, true, true, true, true, false, true, false, false, false, false, false, false, false, false, false, false, false, false, false, false, false, false, false, false, false, false, false, false, false, false] rfl rfl (by kernel_rfl) (fun _ _ _ h => h) (Or.inl ⟨by rfl, ?_⟩) hHeld ?_ ?_
  rotate_left
  · rintro w' ⟨s0, s1, s2, s3, s4, s5, s6, s7, s8, s9, s10, s11, s12, s13, s14⟩
    go_simp
    with_reducible rfl
  rotate_left
  · simp only [Act.put, List.setIfInBounds_toArray, List.set_cons_zero, List.set_cons_succ, i64_w, i32_w]
    rfl
  refine take_ (i := 5) (N := some 41) (v := ?_) (a' := ?_) #[true, true, true, true, true, true, true, false, false, false, false, false, false, false, false, false, false, false, false, false, false, false, false, false, false, false, false, false, false, false, false] rfl rfl (by kernel_rfl) (fun _ _ _ h => h) (Or.inl ⟨by rfl, ?_⟩) hHeld ?_ ?_
  rotate_left
  · rintro w' ⟨s0, s1, s2, s3, s4, s5, s6, s7, s8, s9, s10, s11, s12, s13, s14⟩
    go_simp
    with_reducible rfl
  rotate_left
  · simp only [Act.put, List.setIfInBounds_toArray, List.set_cons_zero, List.set_cons_succ, i64_w, i32_w]
    rfl
  refine take_ (i := 7) (N := some 43) (v := ?_) (a' := ?_) #[true, true, true, true, true, true, true, true, false, false, false, false, false, false, false, false, false, false, false, false, false, false, false, false, false, false, false, false, false, false, false] rfl rfl (by kernel_rfl) (fun _ _ _ h => h) (Or.inl ⟨by rfl, ?_⟩) hHeld ?_ ?_
  rotate_left
  · rintro w' ⟨s0, s1, s2, s3, s4, s5, s6, s7, s8, s9, s10, s11, s12, s13, s14⟩
    go_simp
    with_reducible rfl
  rotate_left
  · simp only [Act.put, List.setIfInBounds_toArray, List.set_cons_zero, List.set_cons_succ, i64_w, i32_w]
    rfl
  refine one_ (i := 8) (N := some 44) #[true, true, true, true, true, true, true, true, true, false, false, false, false, false, false, false, false, false, false, false, false, false, false, false, false, false, false, false, false, false, false] rfl rfl (by kernel_rfl) (by decide) (fun K hK => ?_)
  refine goes_ Try.func41 (by kernel_rfl) rfl #[.agg #[.bool L, .slice ak nk ck, .slice av nv cv], .int .i64 pa, .int .u64 pk, .int .u64 pv] (by rfl) rfl rfl (by simp only [List.map_toArray, List.map_cons, List.map_nil]; rfl) ?_
  with_reducible refine (rinst_at L Ks Vs XI YI ak av nk ck nv cv m pa pk pv _ (RN.out.1.below HTbd.out.bel) (RN.out.2.below HTbd.out.bel) HM.out.1 HI.out.1 HI.out.2 HB.out.1).mono ?_
  rintro e v1 ⟨U1, x1, T1, y1, rfl, ho, hb⟩
  refine ⟨_, rfl, ?_⟩
  have K1 := Lib.hid (HTbd.out.below hb)
  have RO1 := Lib.hid (And.intro (mine_reads ho.k) (mine_reads ho.v))
  clear ho hb
  refine hK.out _ _ ⟨cell_row (K1.out.row 6 _ _ rb_6'.out).1 rfl, cell_row (K1.out.row 6 _ _ rb_6'.out).1 rfl, cell_row (K1.out.row 6 _ _ rb_6'.out).1 rfl, cell_row (K1.out.row 7 _ _ rb_7'.out).1 rfl, cell_row (K1.out.row 7 _ _ rb_7'.out).1 rfl, cell_row (K1.out.row 7 _ _ rb_7'.out).1 rfl, cell_row (K1.out.row 8 _ _ rb_8'.out).1 rfl, cell_row (K1.out.row 8 _ _ rb_8'.out).1 rfl, cell_row (K1.out.row 8 _ _ rb_8'.out).1 rfl, cell_row (K1.out.row 2 _ _ rb_2'.out).1 rfl, cell_row (K1.out.row 2 _ _ rb_2'.out).1 rfl, cell_row (K1.out.row 2 _ _ rb_2'.out).1 rfl, cell_row (K1.out.row 3 _ _ rb_3'.out).1 rfl, cell_row (K1.out.row 3 _ _ rb_3'.out).1 rfl, cell_row (K1.out.row 3 _ _ rb_3'.out).1 rfl⟩ (fun hHeld => ?_)
  clear hK K
  refine norm_ (a' := ?_) ?_ ?_
  rotate_left
  · show Act.put _ (some 44) _ = _
    simp only [Act.put, List.setIfInBounds_toArray, List.set_cons_zero, List.set_cons_succ, i64_w, i32_w]
    rfl
  refine one_ (i := 9) (N := some 45) #[true, true, true, true, true, true, true, true, true, true, false, false, false, false, false, false, false, false, false, false, false, false, false, false, false, false, false, false, false, false, false] rfl rfl (by kernel_rfl) (by decide) (fun K hK => ?_)
  refine goes_ Try.func26 (by kernel_rfl) rfl #[.agg #[.bool L, .slice A6 (m + 1) c6, .slice B6 (m + 1) e6], .agg #[.bool L, .slice U1 (m + 1) x1, .slice T1 (m + 1) y1]] (by rfl) rfl rfl (by simp only [List.map_toArray, List.map_cons, List.map_nil]; rfl) ?_
  with_reducible refine (rsame_eq L XI YI XI YI A6 B6 U1 T1 (m + 1) c6 (m + 1) e6 (m + 1) x1 (m + 1) y1 _ (K1.out.rd 20 tb_20'.out) (K1.out.rd 21 tb_21'.out) RO1.out.1 RO1.out.2 rfl rfl).mono ?_
  rintro e v2 ⟨rfl, hb⟩
  refine ⟨_, rfl, ?_⟩
  have K2 := Lib.hid (K1.out.below hb)
  clear hb
  refine hK.out _ _ ⟨cell_row (K2.out.row 6 _ _ rb_6'.out).1 rfl, cell_row (K2.out.row 6 _ _ rb_6'.out).1 rfl, cell_row (K2.out.row 6 _ _ rb_6'.out).1 rfl, cell_row (K2.out.row 7 _ _ rb_7'.out).1 rfl, cell_row (K2.out.row 7 _ _ rb_7'.out).1 rfl, cell_row (K2.out.row 7 _ _ rb_7'.out).1 rfl, cell_row (K2.out.row 8 _ _ rb_8'.out).1 rfl, cell_row (K2.out.row 8 _ _ rb_8'.out).1 rfl, cell_row (K2.out.row 8 _ _ rb_8'.out).1 rfl, cell_row (K2.out.row 2 _ _ rb_2'.out).1 rfl, cell_row (K2.out.row 2 _ _ rb_2'.out).1 rfl, cell_row (K2.out.row 2 _ _ rb_2'.out).1 rfl, cell_row (K2.out.row 3 _ _ rb_3'.out).1 rfl, cell_row (K2.out.row 3 _ _ rb_3'.out).1 rfl, cell_row (K2.out.row 3 _ _ rb_3'.out).1 rfl⟩ (fun hHeld => ?_)
  clear hK K
  refine norm_ (a' := ?_) ?_ ?_
  rotate_left
  · show Act.put _ (some 45) _ = _
    simp only [Act.put, List.setIfInBounds_toArray, List.set_cons_zero, List.set_cons_succ, i64_w, i32_w]
    rfl
  refine pure_ (i := 10) (N := some 46) (v := ?_) (a' := ?_) #[true, true, true, true, true, true, true, true, true, true, true, false, false, false, false, false, false, false, false, false, false, false, false, false, false, false, false, false, false, false, false] rfl rfl (by kernel_rfl) (fun _ _ _ h => h) (Or.inl ⟨by rfl, ?_⟩) ?_ ?_
  rotate_left
  · intro w'
    go_simp
    with_reducible rfl
  rotate_left
  · simp only [Act.put, List.setIfInBounds_toArray, List.set_cons_zero, List.set_cons_succ, i64_w, i32_w]
    rfl
  refine pure_ (i := 13) (N := some 49) (v := ?_) (a' := ?_) #[true, true, true, true, true, true, true, true, true, true, true, false, false, true, false, false, false, false, false, false, false, false, false, false, false, false, false, false, false, false, false] rfl rfl (by kernel_rfl) (fun _ _ _ h => h) (Or.inl ⟨by rfl, ?_⟩) ?_ ?_
  rotate_left
  · intro w'
    go_simp
    with_reducible rfl
  rotate_left
  · simp only [Act.put, List.setIfInBounds_toArray, List.set_cons_zero, List.set_cons_succ, i64_w, i32_w]
    rfl
  refine pure_ (i := 15) (N := some 51) (v := ?_) (a' := ?_) #[true, true, true, true, true, true, true, true, true, true, true, false, false, true, false, true, false, false, false, false, false, false, false, false, false, false, false, false, false, false, false] rfl rfl (by kernel_rfl) (fun _ _ _ h => h) (Or.inl ⟨by rfl, ?_⟩) ?_ ?_
  rotate_left
  · intro w'
    go_simp
    with_reducible rfl
  rotate_left
  · simp only [Act.put, List.setIfInBounds_toArray, List.set_cons_zero, List.set_cons_succ, i64_w, i32_w]
    rfl
  refine pure_ (i := 17) (N := some 53) (v := ?_) (a' := ?_) #[true, true, true, true, true, true, true, true, true, true, true, false, false, true, false, true, false, true, false, false, false, false, false, false, false, false, false, false, false, false, false] rfl rfl (by kernel_rfl) (fun _ _ _ h => h) (Or.inl ⟨by rfl, ?_⟩) ?_ ?_
  rotate_left
  · intro w'
    go_simp
    with_reducible rfl
  rotate_left
  · simp only [Act.put, List.setIfInBounds_toArray, List.set_cons_zero, List.set_cons_succ, i64_w, i32_w]
    rfl
  refine take_ (i := 11) (N := some 47) (v := ?_) (a' := ?_) #[true, true, true, true, true, true, true, true, true, true, true, true, false, true, false, true, false, true, false, false, false, false, false, false, false, false, false, false, false, false, false] rfl rfl (by kernel_rfl) (fun _ _ _ h => h) (Or.inl ⟨by rfl, ?_⟩) hHeld ?_ ?_
  rotate_left
  · rintro w' ⟨s0, s1, s2, s3, s4, s5, s6, s7, s8, s9, s10, s11, s12, s13, s14⟩
    go_simp
    with_reducible rfl
  rotate_left
  · simp only [Act.put, List.setIfInBounds_toArray, List.set_cons_zero, List.set_cons_succ, i64_w, i32_w]
    rfl
  refine take_ (i := 12) (N := some 48) (v := ?_) (a' := ?_) #[true, true, true, true, true, true, true, true, true, true, true, true, true, true, false, true, false, true, false, false, false, false, false, false, false, false, false, false, false, false, false] rfl rfl (by kernel_rfl) (fun _ _ _ h => h) (Or.inl ⟨by rfl, ?_⟩) hHeld ?_ ?_
  rotate_left
  · rintro w' ⟨s0, s1, s2, s3, s4, s5, s6, s7, s8, s9, s10, s11, s12, s13, s14⟩
    go_simp
    with_reducible rfl
  rotate_left
  · simp only [Act.put, List.setIfInBounds_toArray, List.set_cons_zero, List.set_cons_succ, i64_w, i32_w]
    rfl
  refine take_ (i := 14) (N := some 50) (v := ?_) (a' := ?_) #[true, true, true, true, true, true, true, true, true, true, true, true, true, true, true, true, false, true, false, false, false, false, false, false, false, false, false, false, false, false, false] rfl rfl (by kernel_rfl) (fun _ _ _ h => h) (Or.inl ⟨by rfl, ?_⟩) hHeld ?_ ?_
  rotate_left
  · rintro w' ⟨s0, s1, s2, s3, s4, s5, s6, s7, s8, s9, s10, s11, s12, s13, s14⟩
    go_simp
    with_reducible rfl
  rotate_left
  · simp only [Act.put, List.setIfInBounds_toArray, List.set_cons_zero, List.set_cons_succ, i64_w, i32_w]
    rfl
  refine take_ (i := 16) (N := some 52) (v := ?_) (a' := ?_) #[true, true, true, true, true, true, true, true, true, true, true, true, true, true, true, true, true, true, false, false, false, false, false, false, false, false, false, false, false, false, false] rfl rfl (by kernel_rfl) (fun _ _ _ h => h) (Or.inl ⟨by rfl, ?_⟩) hHeld ?_ ?_
  rotate_left
  · rintro w' ⟨s0, s1, s2, s3, s4, s5, s6, s7, s8, s9, s10, s11, s12, s13, s14⟩
    go_simp
    with_reducible rfl
  rotate_left
  · simp only [Act.put, List.setIfInBounds_toArray, List.set_cons_zero, List.set_cons_succ, i64_w, i32_w]
    rfl
  refine take_ (i := 18) (N := some 54) (v := ?_) (a' := ?_) #[true, true, true, true, true, true, true, true, true, true, true, true, true, true, true, true, true, true, true, false, false, false, false, false, false, false, false, false, false, false, false] rfl rfl (by kernel_rfl) (fun _ _ _ h => h) (Or.inl ⟨by rfl, ?_⟩) hHeld ?_ ?_
  rotate_left
  · rintro w' ⟨s0, s1, s2, s3, s4, s5, s6, s7, s8, s9, s10, s11, s12, s13, s14⟩
    go_simp
    with_reducible rfl
  rotate_left
  · simp only [Act.put, List.setIfInBounds_toArray, List.set_cons_zero, List.set_cons_succ, i64_w, i32_w]
    rfl
  refine one_ (i := 19) (N := some 55) #[true, true, true, true, true, true, true, true, true, true, true, true, true, true, true, true, true, true, true, true, false, false, false, false, false, false, false, false, false, false, false] rfl rfl (by kernel_rfl) (by decide) (fun K hK => ?_)
  refine goes_ Try.func42 (by kernel_rfl) rfl #[.agg #[.bool L, .slice ak nk ck, .slice av nv cv], .int .i64 pa, .int .u64 pk, .int .u64 pv] (by rfl) rfl rfl (by simp only [List.map_toArray, List.map_cons, List.map_nil]; rfl) ?_
  with_reducible refine (rset_at L Ks Vs XS YS ak av nk ck nv cv m pa pk pv _ (RN.out.1.below K2.out.bel) (RN.out.2.below K2.out.bel) HM.out.1 HS.out.1 HS.out.2 HB.out.1).mono ?_
  rintro e v3 ⟨U3, x3, T3, y3, rfl, ho, hb⟩
  refine ⟨_, rfl, ?_⟩
  have K3 := Lib.hid (K2.out.below hb)
  have RO3 := Lib.hid (And.intro (mine_reads ho.k) (mine_reads ho.v))
  clear ho hb
  refine hK.out _ _ ⟨cell_row (K3.out.row 6 _ _ rb_6'.out).1 rfl, cell_row (K3.out.row 6 _ _ rb_6'.out).1 rfl, cell_row (K3.out.row 6 _ _ rb_6'.out).1 rfl, cell_row (K3.out.row 7 _ _ rb_7'.out).1 rfl, cell_row (K3.out.row 7 _ _ rb_7'.out).1 rfl, cell_row (K3.out.row 7 _ _ rb_7'.out).1 rfl, cell_row (K3.out.row 8 _ _ rb_8'.out).1 rfl, cell_row (K3.out.row 8 _ _ rb_8'.out).1 rfl, cell_row (K3.out.row 8 _ _ rb_8'.out).1 rfl, cell_row (K3.out.row 2 _ _ rb_2'.out).1 rfl, cell_row (K3.out.row 2 _ _ rb_2'.out).1 rfl, cell_row (K3.out.row 2 _ _ rb_2'.out).1 rfl, cell_row (K3.out.row 3 _ _ rb_3'.out).1 rfl, cell_row (K3.out.row 3 _ _ rb_3'.out).1 rfl, cell_row (K3.out.row 3 _ _ rb_3'.out).1 rfl⟩ (fun hHeld => ?_)
  clear hK K
  refine norm_ (a' := ?_) ?_ ?_
  rotate_left
  · show Act.put _ (some 55) _ = _
    simp only [Act.put, List.setIfInBounds_toArray, List.set_cons_zero, List.set_cons_succ, i64_w, i32_w]
    rfl
  refine one_ (i := 20) (N := some 56) #[true, true, true, true, true, true, true, true, true, true, true, true, true, true, true, true, true, true, true, true, true, false, false, false, false, false, false, false, false, false, false] rfl rfl (by kernel_rfl) (by decide) (fun K hK => ?_)
  refine goes_ Try.func26 (by kernel_rfl) rfl #[.agg #[.bool L, .slice A7 m c7, .slice B7 m e7], .agg #[.bool L, .slice U3 m x3, .slice T3 m y3]] (by rfl) rfl rfl (by simp only [List.map_toArray, List.map_cons, List.map_nil]; rfl) ?_
  with_reducible refine (rsame_eq L XS YS XS YS A7 B7 U3 T3 m c7 m e7 m x3 m y3 _ (K3.out.rd 22 tb_22'.out) (K3.out.rd 23 tb_23'.out) RO3.out.1 RO3.out.2 rfl rfl).mono ?_
  rintro e v4 ⟨rfl, hb⟩
  refine ⟨_, rfl, ?_⟩
  have K4 := Lib.hid (K3.out.below hb)
  clear hb
  refine hK.out _ _ ⟨cell_row (K4.out.row 6 _ _ rb_6'.out).1 rfl, cell_row (K4.out.row 6 _ _ rb_6'.out).1 rfl, cell_row (K4.out.row 6 _ _ rb_6'.out).1 rfl, cell_row (K4.out.row 7 _ _ rb_7'.out).1 rfl, cell_row (K4.out.row 7 _ _ rb_7'.out).1 rfl, cell_row (K4.out.row 7 _ _ rb_7'.out).1 rfl, cell_row (K4.out.row 8 _ _ rb_8'.out).1 rfl, cell_row (K4.out.row 8 _ _ rb_8'.out).1 rfl, cell_row (K4.out.row 8 _ _ rb_8'.out).1 rfl, cell_row (K4.out.row 2 _ _ rb_2'.out).1 rfl, cell_row (K4.out.row 2 _ _ rb_2'.out).1 rfl, cell_row (K4.out.row 2 _ _ rb_2'.out).1 rfl, cell_row (K4.out.row 3 _ _ rb_3'.out).1 rfl, cell_row (K4.out.row 3 _ _ rb_3'.out).1 rfl, cell_row (K4.out.row 3 _ _ rb_3'.out).1 rfl⟩ (fun hHeld => ?_)
  clear hK K
  refine norm_ (a' := ?_) ?_ ?_
  rotate_left
  · show Act.put _ (some 56) _ = _
    simp only [Act.put, List.setIfInBounds_toArray, List.set_cons_zero, List.set_cons_succ, i64_w, i32_w]
    rfl
  refine pure_ (i := 21) (N := some 57) (v := ?_) (a' := ?_) #[true, true, true, true, true, true, true, true, true, true, true, true, true, true, true, true, true, true, true, true, true, true, false, false, false, false, false, false, false, false, false] rfl rfl (by kernel_rfl) (fun _ _ _ h => h) (Or.inl ⟨by rfl, ?_⟩) ?_ ?_
  rotate_left
  · intro w'
    go_simp
    with_reducible rfl
  rotate_left
  · simp only [Act.put, List.setIfInBounds_toArray, List.set_cons_zero, List.set_cons_succ, i64_w, i32_w]
    rfl
  refine pure_ (i := 22) (N := some 58) (v := ?_) (a' := ?_) #[true, true, true, true, true, true, true, true, true, true, true, true, true, true, true, true, true, true, true, true, true, true, true, false, false, false, false, false, false, false, false] rfl rfl (by kernel_rfl) (fun _ _ _ h => h) (Or.inl ⟨by rfl, ?_⟩) ?_ ?_
  rotate_left
  · intro w'
    go_simp
    with_reducible rfl
  rotate_left
  · simp only [Act.put, List.setIfInBounds_toArray, List.set_cons_zero, List.set_cons_succ, i64_w, i32_w]
    rfl
  refine pure_ (i := 25) (N := some 61) (v := ?_) (a' := ?_) #[true, true, true, true, true, true, true, true, true, true, true, true, true, true, true, true, true, true, true, true, true, true, true, false, false, true, false, false, false, false, false] rfl rfl (by kernel_rfl) (fun _ _ _ h => h) (Or.inl ⟨by rfl, ?_⟩) ?_ ?_
  rotate_left
  · intro w'
    go_simp
    with_reducible rfl
  rotate_left
  · simp only [Act.put, List.setIfInBounds_toArray, List.set_cons_zero, List.set_cons_succ, i64_w, i32_w]
    rfl
  refine take_ (i := 23) (N := some 59) (v := ?_) (a' := ?_) #[true, true, true, true, true, true, true, true, true, true, true, true, true, true, true, true, true, true, true, true, true, true, true, true, false, true, false, false, false, false, false] rfl rfl (by kernel_rfl) (fun _ _ _ h => h) (Or.inl ⟨by rfl, ?_⟩) hHeld ?_ ?_
  rotate_left
  · rintro w' ⟨s0, s1, s2, s3, s4, s5, s6, s7, s8, s9, s10, s11, s12, s13, s14⟩
    go_simp
    with_reducible rfl
  rotate_left
  · simp only [Act.put, List.setIfInBounds_toArray, List.set_cons_zero, List.set_cons_succ, i64_w, i32_w]
    rfl
  refine take_ (i := 24) (N := some 60) (v := ?_) (a' := ?_) #[true, true, true, true, true, true, true, true, true, true, true, true, true, true, true, true, true, true, true, true, true, true, true, true, true, true, false, false, false, false, false] rfl rfl (by kernel_rfl) (fun _ _ _ h => h) (Or.inl ⟨by rfl, ?_⟩) hHeld ?_ ?_
  rotate_left
  · rintro w' ⟨s0, s1, s2, s3, s4, s5, s6, s7, s8, s9, s10, s11, s12, s13, s14⟩
    go_simp
    with_reducible rfl
  rotate_left
  · simp only [Act.put, List.setIfInBounds_toArray, List.set_cons_zero, List.set_cons_succ, i64_w, i32_w]
    rfl
  refine take_ (i := 26) (N := some 62) (v := ?_) (a' := ?_) #[true, true, true, true, true, true, true, true, true, true, true, true, true, true, true, true, true, true, true, true, true, true, true, true, true, true, true, false, false, false, false] rfl rfl (by kernel_rfl) (fun _ _ _ h => h) (Or.inl ⟨by rfl, ?_⟩) hHeld ?_ ?_
  rotate_left
  · rintro w' ⟨s0, s1, s2, s3, s4, s5, s6, s7, s8, s9, s10, s11, s12, s13, s14⟩
    go_simp
    with_reducible rfl
  rotate_left
  · simp only [Act.put, List.setIfInBounds_toArray, List.set_cons_zero, List.set_cons_succ, i64_w, i32_w]
    rfl
  refine one_ (i := 27) (N := some 63) #[true, true, true, true, true, true, true, true, true, true, true, true, true, true, true, true, true, true, true, true, true, true, true, true, true, true, true, true, false, false, false] rfl rfl (by kernel_rfl) (by decide) (fun K hK => ?_)
  refine goes_ Try.func43 (by kernel_rfl) rfl #[.agg #[.bool L, .slice ak nk ck, .slice av nv cv], .int .i64 pa] (by rfl) rfl rfl (by simp only [List.map_toArray, List.map_cons, List.map_nil]; rfl) ?_
  with_reducible refine (rrem_at L Ks Vs XR YR ak av nk ck nv cv m q pa _ (RN.out.1.below K4.out.bel) (RN.out.2.below K4.out.bel) HM.out.1 HR.out.1 HR.out.2 HM.out.2.1 HB.out.1).mono ?_
  rintro e v5 ⟨U5, x5, T5, y5, rfl, ho, hb⟩
  refine ⟨_, rfl, ?_⟩
  have K5 := Lib.hid (K4.out.below hb)
  have RO5 := Lib.hid (And.intro (mine_reads ho.k) (mine_reads ho.v))
  clear ho hb
  refine hK.out _ _ ⟨cell_row (K5.out.row 6 _ _ rb_6'.out).1 rfl, cell_row (K5.out.row 6 _ _ rb_6'.out).1 rfl, cell_row (K5.out.row 6 _ _ rb_6'.out).1 rfl, cell_row (K5.out.row 7 _ _ rb_7'.out).1 rfl, cell_row (K5.out.row 7 _ _ rb_7'.out).1 rfl, cell_row (K5.out.row 7 _ _ rb_7'.out).1 rfl, cell_row (K5.out.row 8 _ _ rb_8'.out).1 rfl, cell_row (K5.out.row 8 _ _ rb_8'.out).1 rfl, cell_row (K5.out.row 8 _ _ rb_8'.out).1 rfl, cell_row (K5.out.row 2 _ _ rb_2'.out).1 rfl, cell_row (K5.out.row 2 _ _ rb_2'.out).1 rfl, cell_row (K5.out.row 2 _ _ rb_2'.out).1 rfl, cell_row (K5.out.row 3 _ _ rb_3'.out).1 rfl, cell_row (K5.out.row 3 _ _ rb_3'.out).1 rfl, cell_row (K5.out.row 3 _ _ rb_3'.out).1 rfl⟩ (fun hHeld => ?_)
  clear hK K
  refine norm_ (a' := ?_) ?_ ?_
  rotate_left
  · show Act.put _ (some 63) _ = _
    simp only [Act.put, List.setIfInBounds_toArray, List.set_cons_zero, List.set_cons_succ, i64_w, i32_w]
    rfl
  refine one_ (i := 28) (N := some 64) #[true, true, true, true, true, true, true, true, true, true, true, true, true, true, true, true, true, true, true, true, true, true, true, true, true, true, true, true, true, false, false] rfl rfl (by kernel_rfl) (by decide) (fun K hK => ?_)
  refine goes_ Try.func26 (by kernel_rfl) rfl #[.agg #[.bool L, .slice A8 q c8, .slice B8 q e8], .agg #[.bool L, .slice U5 q x5, .slice T5 q y5]] (by rfl) rfl rfl (by simp only [List.map_toArray, List.map_cons, List.map_nil]; rfl) ?_
  with_reducible refine (rsame_eq L XR YR XR YR A8 B8 U5 T5 q c8 q e8 q x5 q y5 _ (K5.out.rd 24 tb_24'.out) (K5.out.rd 25 tb_25'.out) RO5.out.1 RO5.out.2 rfl rfl).mono ?_
  rintro e v6 ⟨rfl, hb⟩
  refine ⟨_, rfl, ?_⟩
  have K6 := Lib.hid (K5.out.below hb)
  clear hb
  refine hK.out _ _ ⟨cell_row (K6.out.row 6 _ _ rb_6'.out).1 rfl, cell_row (K6.out.row 6 _ _ rb_6'.out).1 rfl, cell_row (K6.out.row 6 _ _ rb_6'.out).1 rfl, cell_row (K6.out.row 7 _ _ rb_7'.out).1 rfl, cell_row (K6.out.row 7 _ _ rb_7'.out).1 rfl, cell_row (K6.out.row 7 _ _ rb_7'.out).1 rfl, cell_row (K6.out.row 8 _ _ rb_8'.out).1 rfl, cell_row (K6.out.row 8 _ _ rb_8'.out).1 rfl, cell_row (K6.out.row 8 _ _ rb_8'.out).1 rfl, cell_row (K6.out.row 2 _ _ rb_2'.out).1 rfl, cell_row (K6.out.row 2 _ _ rb_2'.out).1 rfl, cell_row (K6.out.row 2 _ _ rb_2'.out).1 rfl, cell_row (K6.out.row 3 _ _ rb_3'.out).1 rfl, cell_row (K6.out.row 3 _ _ rb_3'.out).1 rfl, cell_row (K6.out.row 3 _ _ rb_3'.out).1 rfl⟩ (fun hHeld => ?_)
  clear hK K
  refine norm_ (a' := ?_) ?_ ?_
  rotate_left
  · show Act.put _ (some 64) _ = _
    simp only [Act.put, List.setIfInBounds_toArray, List.set_cons_zero, List.set_cons_succ, i64_w, i32_w]
    rfl
  refine pure_ (i := 29) (N := some 65) (v := ?_) (a' := ?_) #[true, true, true, true, true, true, true, true, true, true, true, true, true, true, true, true, true, true, true, true, true, true, true, true, true, true, true, true, true, true, false] rfl rfl (by kernel_rfl) (fun _ _ _ h => h) (Or.inl ⟨by rfl, ?_⟩) ?_ ?_
  rotate_left
  · intro w'
    go_simp
    with_reducible rfl
  rotate_left
  · simp only [Act.put, List.setIfInBounds_toArray, List.set_cons_zero, List.set_cons_succ, i64_w, i32_w]
    rfl
  refine pure_ (i := 30) (N := some 9) (v := ?_) (a' := ?_) #[true, true, true, true, true, true, true, true, true, true, true, true, true, true, true, true, true, true, true, true, true, true, true, true, true, true, true, true, true, true, true] rfl rfl (by kernel_rfl) (fun _ _ _ h => h) (Or.inl ⟨by rfl, ?_⟩) ?_ ?_
  rotate_left
  · intro w'
    go_simp
    with_reducible rfl
  rotate_left
  · simp only [Act.put, List.setIfInBounds_toArray, List.set_cons_zero, List.set_cons_succ, i64_w, i32_w]
    rfl
  refine done_ (by kernel_rfl) ?_
  clear hHeld
  have PM1 := Lib.hid (K6.out.row 6 _ _ rb_6'.out).1
  go_wp2_with (first | ((with_reducible refine wpList_load_row rfl 24 (.tmp 6) rfl g6 ?_ 24 _ _ _ PM1.out Try.underlying24 ?_ (size3 _ _ _) ?_); rfl; rfl))
  refine (spoil_at K6.out rb_BX'.out 20 21 (by decide) L A6 B6 (m + 1) c6 (m + 1) e6 _ _ (tb_20'.out) (tb_21'.out)).mono ?_; rintro e m1w ⟨rfl, hh⟩
  have M1 := Lib.hid hh
  clear hh PM1 K6
  go_wp2_with fail
  have M1d := Lib.hid (M1.out.drew)
  refine start_ (n := 14) (S := fun w' => w'.cell? ⟨g7, 0, none⟩ = some (.bool L) ∧ w'.cell? ⟨g7, 1, none⟩ = some (.slice A7 m c7) ∧ w'.cell? ⟨g7, 2, none⟩ = some (.slice B7 m e7) ∧ w'.cell? ⟨w.heap.size, 0, none⟩ = some (.bool L) ∧ w'.cell? ⟨w.heap.size, 1, none⟩ = some (.slice ak nk ck) ∧ w'.cell? ⟨w.heap.size, 2, none⟩ = some (.slice av nv cv) ∧ w'.cell? ⟨w1.heap.size, 0, none⟩ = some (.int .i64 pa) ∧ w'.cell? ⟨w1.heap.size, 1, none⟩ = some (.int .u64 pk) ∧ w'.cell? ⟨w1.heap.size, 2, none⟩ = some (.int .u64 pv)) (ds := []) #[false, false, false, false, false, false, false, false, false, false, false, false, false, false] (by kernel_rfl) rfl rfl ⟨cell_row (M1d.out.row 7 _ _ rb_7'.out).1 rfl, cell_row (M1d.out.row 7 _ _ rb_7'.out).1 rfl, cell_row (M1d.out.row 7 _ _ rb_7'.out).1 rfl, cell_row (M1d.out.row 2 _ _ rb_2'.out).1 rfl, cell_row (M1d.out.row 2 _ _ rb_2'.out).1 rfl, cell_row (M1d.out.row 2 _ _ rb_2'.out).1 rfl, cell_row (M1d.out.row 3 _ _ rb_3'.out).1 rfl, cell_row (M1d.out.row 3 _ _ rb_3'.out).1 rfl, cell_row (M1d.out.row 3 _ _ rb_3'.out).1 rfl⟩ (fun hHeld => ?_)
  refine pure_ (i := 0) (N := some 68) (v := ?_) (a' := ?_) #[true, false, false, false, false, false, false, false, false, false, false, false, false, false] rfl rfl (by kernel_rfl) (fun _ _ _ h => h) (Or.inl ⟨by rfl, ?_⟩) ?_ ?_
  rotate_left
  · intro w'
    go_simp
    with_reducible rfl
  rotate_left
  · simp only [Act.put, List.setIfInBounds_toArray, List.set_cons_zero, List.set_cons_succ, i64_w, i32_w]
    rfl
  refine pure_ (i := 1) (N := some 69) (v := ?_) (a' := ?_) #[true, true, false, false, false, false, false, false, false, false, false, false, false, false] rfl rfl (by kernel_rfl) (fun _ _ _ h => h) (Or.inl ⟨by rfl, ?_⟩) ?_ ?_
  rotate_left
  · intro w'
    go_simp
    with_reducible rfl
  rotate_left
  · simp only [Act.put, List.setIfInBounds_toArray, List.set_cons_zero, List.set_cons_succ, i64_w, i32_w]
    rfl
  refine pure_ (i := 4) (N := some 72) (v := ?_) (a' := ?_) #[true, true, false, false, true, false, false, false, false, false, false, false, false, false] rfl rfl (by kernel_rfl) (fun _ _ _ h => h) (Or.inl ⟨by rfl, ?_⟩) ?_ ?_
  rotate_left
  · intro w'
    go_simp
    with_reducible rfl
  rotate_left
  · simp only [Act.put, List.setIfInBounds_toArray, List.set_cons_zero, List.set_cons_succ, i64_w, i32_w]
    rfl
  refine pure_ (i := 6) (N := some 74) (v := ?_) (a' := ?_) #[true, true, false, false, true, false, true, false, false, false, false, false, false, false] rfl rfl (by kernel_rfl) (fun _ _ _ h => h) (Or.inl ⟨by rfl, ?_⟩) ?_ ?_
  rotate_left
  · intro w'
    go_simp
    with_reducible rfl
  rotate_left
  · simp only [Act.put, List.setIfInBounds_toArray, List.set_cons_zero, List.set_cons_succ, i64_w, i32_w]
    rfl
  refine pure_ (i := 8) (N := some 76) (v := ?_) (a' := ?_) #[true, true, false, false, true, false, true, false, true, false, false, false, false, false] rfl rfl (by kernel_rfl) (fun _ _ _ h => h) (Or.inl ⟨by rfl, ?_⟩) ?_ ?_
  rotate_left
  · intro w'
    go_simp
    with_reducible rfl
  rotate_left
  · simp only [Act.put, List.setIfInBounds_toArray, List.set_cons_zero, List.set_cons_succ, i64_w, i32_w]
    rfl
  refine take_ (i := 2) (N := some 70) (v := ?_) (a' := ?_) #[true, true, true, false, true, false, true, false, true, false, false, false, false, false] rfl rfl (by kernel_rfl) (fun _ _ _ h => h) (Or.inl ⟨by rfl, ?_⟩) hHeld ?_ ?_
  rotate_left
  · rintro w' ⟨s0, s1, s2, s3, s4, s5, s6, s7, s8⟩
    go_simp
    with_reducible rfl
  rotate_left
  · simp only [Act.put, List.setIfInBounds_toArray, List.set_cons_zero, List.set_cons_succ, i64_w, i32_w]
    rfl
  refine take_ (i := 3) (N := some 71) (v := ?_) (a' := ?_) #[true, true, true, true, true, false, true, false, true, false, false, false, false, false] rfl rfl (by kernel_rfl) (fun _ _ _ h => h) (Or.inl ⟨by rfl, ?_⟩) hHeld ?_ ?_
  rotate_left
  · rintro w' ⟨s0, s1, s2, s3, s4, s5, s6, s7, s8⟩
    go_simp
    with_reducible rfl
  rotate_left
  · simp only [Act.put, List.setIfInBounds_toArray, List.set_cons_zero, List.set_cons_succ, i64_w, i32_w]
    rfl
  refine take_ (i := 5) (N := some 73) (v := ?_) (a' := ?_) #[true, true, true, true, true, true, true, false, true, false, false, false, false, false] rfl rfl (by kernel_rfl) (fun _ _ _ h => h) (Or.inl ⟨by rfl, ?_⟩) hHeld ?_ ?_
  rotate_left
  · rintro w' ⟨s0, s1, s2, s3, s4, s5, s6, s7, s8⟩
    go_simp
    with_reducible rfl
  rotate_left
  · simp only [Act.put, List.setIfInBounds_toArray, List.set_cons_zero, List.set_cons_succ, i64_w, i32_w]
    rfl
  refine take_ (i := 7) (N := some 75) (v := ?_) (a' := ?_) #[true, true, true, true, true, true, true, true, true, false, false, false, false, false] rfl rfl (by kernel_rfl) (fun _ _ _ h => h) (Or.inl ⟨by rfl, ?_⟩) hHeld ?_ ?_
  rotate_left
  · rintro w' ⟨s0, s1, s2, s3, s4, s5, s6, s7, s8⟩
    go_simp
    with_reducible rfl
  rotate_left
  · simp only [Act.put, List.setIfInBounds_toArray, List.set_cons_zero, List.set_cons_succ, i64_w, i32_w]
    rfl
  refine take_ (i := 9) (N := some 77) (v := ?_) (a' := ?_) #[true, true, true, true, true, true, true, true, true, true, false, false, false, false] rfl rfl (by kernel_rfl) (fun _ _ _ h => h) (Or.inl ⟨by rfl, ?_⟩) hHeld ?_ ?_
  rotate_left
  · rintro w' ⟨s0, s1, s2, s3, s4, s5, s6, s7, s8⟩
    go_simp
    with_reducible rfl
  rotate_left
  · simp only [Act.put, List.setIfInBounds_toArray, List.set_cons_zero, List.set_cons_succ, i64_w, i32_w]
    rfl
  refine one_ (i := 10) (N := some 78) #[true, true, true, true, true, true, true, true, true, true, true, false, false, false] rfl rfl (by kernel_rfl) (by decide) (fun K hK => ?_)
  refine goes_ Try.func42 (by kernel_rfl) rfl #[.agg #[.bool L, .slice ak nk ck, .slice av nv cv], .int .i64 pa, .int .u64 pk, .int .u64 pv] (by rfl) rfl rfl (by simp only [List.map_toArray, List.map_cons, List.map_nil]; rfl) ?_
  with_reducible refine (rset_at L Ks Vs XS YS ak av nk ck nv cv m pa pk pv _ (RN.out.1.below M1d.out.bel) (RN.out.2.below M1d.out.bel) HM.out.1 HS.out.1 HS.out.2 HB.out.1).mono ?_
  rintro e v7 ⟨U7, x7, T7, y7, rfl, ho, hb⟩
  refine ⟨_, rfl, ?_⟩
  have K7 := Lib.hid (M1d.out.below hb)
  have RO7 := Lib.hid (And.intro (mine_reads ho.k) (mine_reads ho.v))
  clear ho hb
  refine hK.out _ _ ⟨cell_row (K7.out.row 7 _ _ rb_7'.out).1 rfl, cell_row (K7.out.row 7 _ _ rb_7'.out).1 rfl, cell_row (K7.out.row 7 _ _ rb_7'.out).1 rfl, cell_row (K7.out.row 2 _ _ rb_2'.out).1 rfl, cell_row (K7.out.row 2 _ _ rb_2'.out).1 rfl, cell_row (K7.out.row 2 _ _ rb_2'.out).1 rfl, cell_row (K7.out.row 3 _ _ rb_3'.out).1 rfl, cell_row (K7.out.row 3 _ _ rb_3'.out).1 rfl, cell_row (K7.out.row 3 _ _ rb_3'.out).1 rfl⟩ (fun hHeld => ?_)
  clear hK K
  refine norm_ (a' := ?_) ?_ ?_
  rotate_left
  · show Act.put _ (some 78) _ = _
    simp only [Act.put, List.setIfInBounds_toArray, List.set_cons_zero, List.set_cons_succ, i64_w, i32_w]
    rfl
  refine one_ (i := 11) (N := some 79) #[true, true, true, true, true, true, true, true, true, true, true, true, false, false] rfl rfl (by kernel_rfl) (by decide) (fun K hK => ?_)
  refine goes_ Try.func26 (by kernel_rfl) rfl #[.agg #[.bool L, .slice A7 m c7, .slice B7 m e7], .agg #[.bool L, .slice U7 m x7, .slice T7 m y7]] (by rfl) rfl rfl (by simp only [List.map_toArray, List.map_cons, List.map_nil]; rfl) ?_
  with_reducible refine (rsame_eq L XS YS XS YS A7 B7 U7 T7 m c7 m e7 m x7 m y7 _ (K7.out.rd 22 ((upd_ne _ _ (by decide)).trans ((upd_ne _ _ (by decide)).trans tb_22'.out))) (K7.out.rd 23 ((upd_ne _ _ (by decide)).trans ((upd_ne _ _ (by decide)).trans tb_23'.out))) RO7.out.1 RO7.out.2 rfl rfl).mono ?_
  rintro e v8 ⟨rfl, hb⟩
  refine ⟨_, rfl, ?_⟩
  have K8 := Lib.hid (K7.out.below hb)
  clear hb
  refine hK.out _ _ ⟨cell_row (K8.out.row 7 _ _ rb_7'.out).1 rfl, cell_row (K8.out.row 7 _ _ rb_7'.out).1 rfl, cell_row (K8.out.row 7 _ _ rb_7'.out).1 rfl, cell_row (K8.out.row 2 _ _ rb_2'.out).1 rfl, cell_row (K8.out.row 2 _ _ rb_2'.out).1 rfl, cell_row (K8.out.row 2 _ _ rb_2'.out).1 rfl, cell_row (K8.out.row 3 _ _ rb_3'.out).1 rfl, cell_row (K8.out.row 3 _ _ rb_3'.out).1 rfl, cell_row (K8.out.row 3 _ _ rb_3'.out).1 rfl⟩ (fun hHeld => ?_)
  clear hK K
  refine norm_ (a' := ?_) ?_ ?_
  rotate_left
  · show Act.put _ (some 79) _ = _
    simp only [Act.put, List.setIfInBounds_toArray, List.set_cons_zero, List.set_cons_succ, i64_w, i32_w]
    rfl
  refine pure_ (i := 12) (N := some 80) (v := ?_) (a' := ?_) #[true, true, true, true, true, true, true, true, true, true, true, true, true, false] rfl rfl (by kernel_rfl) (fun _ _ _ h => h) (Or.inl ⟨by rfl, ?_⟩) ?_ ?_
  rotate_left
  · intro w'
    go_simp
    with_reducible rfl
  rotate_left
  · simp only [Act.put, List.setIfInBounds_toArray, List.set_cons_zero, List.set_cons_succ, i64_w, i32_w]
    rfl
  refine pure_ (i := 13) (N := some 9) (v := ?_) (a' := ?_) #[true, true, true, true, true, true, true, true, true, true, true, true, true, true] rfl rfl (by kernel_rfl) (fun _ _ _ h => h) (Or.inl ⟨by rfl, ?_⟩) ?_ ?_
  rotate_left
  · intro w'
    go_simp
    with_reducible rfl
  rotate_left
  · simp only [Act.put, List.setIfInBounds_toArray, List.set_cons_zero, List.set_cons_succ, i64_w, i32_w]
    rfl
  refine done_ (by kernel_rfl) ?_
  clear hHeld
  have PM2 := Lib.hid (K8.out.row 7 _ _ rb_7'.out).1
  go_wp2_with (first | ((with_reducible refine wpList_load_row rfl 24 (.tmp 7) rfl g7 ?_ 24 _ _ _ PM2.out Try.underlying24 ?_ (size3 _ _ _) ?_); rfl; rfl))
  refine (spoil_at K8.out rb_BX'.out 22 23 (by decide) L A7 B7 m c7 m e7 _ _ (((upd_ne _ _ (by decide)).trans ((upd_ne _ _ (by decide)).trans tb_22'.out))) (((upd_ne _ _ (by decide)).trans ((upd_ne _ _ (by decide)).trans tb_23'.out)))).mono ?_; rintro e m2w ⟨rfl, hh⟩
  have M2 := Lib.hid hh
  clear hh PM2 K8
  have PM3 := Lib.hid (M2.out.row 8 _ _ rb_8'.out).1
  go_wp2_with (first | ((with_reducible refine wpList_load_row rfl 24 (.tmp 8) rfl g8 ?_ 24 _ _ _ PM3.out Try.underlying24 ?_ (size3 _ _ _) ?_); rfl; rfl))
  refine (spoil_at M2.out rb_BX'.out 24 25 (by decide) L A8 B8 q c8 q e8 _ _ (((upd_ne _ _ (by decide)).trans ((upd_ne _ _ (by decide)).trans ((upd_ne _ _ (by decide)).trans ((upd_ne _ _ (by decide)).trans tb_24'.out))))) (((upd_ne _ _ (by decide)).trans ((upd_ne _ _ (by decide)).trans ((upd_ne _ _ (by decide)).trans ((upd_ne _ _ (by decide)).trans tb_25'.out)))))).mono ?_; rintro e m3w ⟨rfl, hh⟩
  have M3 := Lib.hid hh
  clear hh PM3 M2
  have u0 : m3w.cell? ⟨w5.heap.size, 0, none⟩ = some (.bool L) := cell_row (M3.out.row 5 _ _ rb_5'.out).1 rfl
  have u1 : m3w.cell? ⟨w5.heap.size, 1, none⟩ = some (.slice A5 nk c5) := cell_row (M3.out.row 5 _ _ rb_5'.out).1 rfl
  have u2 : m3w.cell? ⟨w5.heap.size, 2, none⟩ = some (.slice B5 nv e5) := cell_row (M3.out.row 5 _ _ rb_5'.out).1 rfl
  have z0 : m3w.cell? ⟨w.heap.size, 0, none⟩ = some (.bool L) := cell_row (M3.out.row 2 _ _ rb_2'.out).1 rfl
  have z1 : m3w.cell? ⟨w.heap.size, 1, none⟩ = some (.slice ak nk ck) := cell_row (M3.out.row 2 _ _ rb_2'.out).1 rfl
  have z2 : m3w.cell? ⟨w.heap.size, 2, none⟩ = some (.slice av nv cv) := cell_row (M3.out.row 2 _ _ rb_2'.out).1 rfl
  go_wp2_with fail
  refine (rsame_eq L Ks Vs Ks Vs A5 B5 ak av nk c5 nv e5 nk ck nv cv _ (M3.out.rd 10 (((upd_ne _ _ (by decide)).trans ((upd_ne _ _ (by decide)).trans ((upd_ne _ _ (by decide)).trans ((upd_ne _ _ (by decide)).trans ((upd_ne _ _ (by decide)).trans ((upd_ne _ _ (by decide)).trans tb_10'.out)))))))) (M3.out.rd 11 (((upd_ne _ _ (by decide)).trans ((upd_ne _ _ (by decide)).trans ((upd_ne _ _ (by decide)).trans ((upd_ne _ _ (by decide)).trans ((upd_ne _ _ (by decide)).trans ((upd_ne _ _ (by decide)).trans tb_11'.out)))))))) (RN.out.1.below M3.out.bel) (RN.out.2.below M3.out.bel) rfl rfl).mono ?_; rintro e z1 ⟨rfl, hb⟩
  have M4 := Lib.hid (M3.out.below hb)
  clear hb
  go_wp2_with fail
  go_ret
  exact ⟨rfl, M4.out.bel⟩
end Go.Proofs.Ytdekplalhfpooaa.Knt
