/- Pieces: what is lifted, what is laid, of any piece: the walk. -/
import Derived.BigQuiet
import Derived.Test.YtgmjpnampjkfeaaPieV
set_option linter.unusedVariables false
set_option linter.unusedSimpArgs false
namespace Go.Proofs.Ytgmjpnampjkfeaa.Pie
open Go Go.RowKit Go.Proofs.YtgmjpnampjkfeaaW.PrintWords Go.Proofs.YtgmjpnampjkfeaaW.PrintLast Go.Proofs.YtgmjpnampjkfeaaW.PrintMore Base

theorem rlay_any (B f t a : Int) (xs ys : List Int) (A1 A2 : Option Addr) (n1 c1 n2 c2 : Nat) (w : World) (H1 : ReadsInt w .u8 A1 n1 xs) (H2 : ReadsInt w .u8 A2 n2 ys) (hn : n1 ≤ 140737488355327 ∧ n2 ≤ 140737488355327) {LL : List Int} (hL : layL f t a xs ys = LL) :
    Calls Try.prog 24 #[.agg #[.int .u64 B, .int .i64 f, .int .i64 t, .int .i64 a], .slice A1 n1 c1, .slice A2 n2 c2] w fun e w' => ∃ g, e = .returned (.slice (some ⟨g, 0, none⟩) 256 256) ∧ w'.heap[g]? = some (.cells (nums .u8 LL).toArray 5 (0, 0)) ∧ w.heap.size ≤ g ∧ Below w.heap.size w w' := by
  cases hm : mayP f t a with
  | false => exact rlay_no B f t a xs ys A1 A2 n1 c1 n2 c2 w H1 H2 hm hn hL
  | true =>
    have h := hm
    simp only [mayP, Bool.and_eq_true, decide_eq_true_eq] at h
    obtain ⟨F, rfl⟩ := Int.eq_ofNat_of_zero_le h.1.1.1
    obtain ⟨T, rfl⟩ := Int.eq_ofNat_of_zero_le (show (0 : Int) ≤ t by omega)
    obtain ⟨a', rfl⟩ := Int.eq_ofNat_of_zero_le h.2
    exact rlay_may B F T a' xs ys A1 A2 n1 c1 n2 c2 w H1 H2 hm hn hL
theorem own_none {w : World} {base n c : Nat} {A : Option Addr} {cs : List Value} (h : w.ownsRow base 5 1 (.slice A n c) n cs) : A = none → n = 0 ∧ c = 0 := by
  rintro rfl
  rcases h.2 with ⟨hv, -⟩ | ⟨g, cap, cur, hv, -⟩
  · injection hv with h1 h2 h3; exact ⟨h2, h3⟩
  · cases hv
theorem own_rd {w : World} {base n c : Nat} {A : Option Addr} {xs : List Int} (h : w.ownsRow base 5 1 (.slice A n c) n (nums .u8 xs)) : ReadsInt w .u8 A n xs := own_reads' h
theorem own_num {w : World} {base n c g i : Nat} {cur : List Int} (h : w.ownsRow base 5 1 (.slice (some ⟨g, 0, none⟩) n c) n (nums .u8 cur)) (hi : i < cur.length) : w.cell? ⟨g, i, none⟩ = some (.int .u8 (cur.getD i 0)) := by
  have := h.cells (g := g) rfl i (.int .u8 (cur.getD i 0)) (by unfold nums; rw [List.getElem?_map, List.getElem?_eq_getElem hi, List.getD_eq_getElem?_getD, List.getElem?_eq_getElem hi]; rfl)
  rwa [add_plain] at this
theorem own_num_set {w : World} {base n c g i : Nat} {cur : List Int} (h : w.ownsRow base 5 1 (.slice (some ⟨g, 0, none⟩) n c) n (nums .u8 cur)) (v : Int) : (w.setCell ⟨g, i, none⟩ (.int .u8 v)).ownsRow base 5 1 (.slice (some ⟨g, 0, none⟩) n c) n (nums .u8 (cur.set i v)) := by
  have := (h.stored i (.int .u8 v)).1
  unfold nums at this ⊢
  rwa [List.map_set]
theorem str_of {w : World} {A : Option Addr} {n c : Nat} {xs : List Int} (h : ReadsInt w .u8 A n xs) : (convert 40 9 (.slice A n c)).run Try.prog w = .ok (.string (strOfNums xs)) w := string_of_reads Try.underlying40 Try.underlying5 Try.underlying9 h
set_option maxRecDepth 100000 in
set_option maxHeartbeats 6400000 in
theorem lays_walk (pb pf pt pa : Int) (wb : (Lit.int .u64 pb).wf = true) (wf : (Lit.int .i64 pf).wf = true) (wt : (Lit.int .i64 pt).wf = true) (wq : (Lit.int .i64 pa).wf = true)
    (A1 : Option Addr) (c1 : Nat) (l1 : List Int) (w : World) (hr1 : ReadsInt w .u8 A1 l1.length l1) (y1 : l1.length * 1 ≤ 140737488351232) (hw1 : ∀ x ∈ l1, (Lit.int .u8 x).wf = true) (hc1 : l1.length ≤ c1)
    (A2 : Option Addr) (c2 : Nat) (l2 : List Int) (hr2 : ReadsInt w .u8 A2 l2.length l2) (y2 : l2.length * 1 ≤ 140737488351232) (hw2 : ∀ x ∈ l2, (Lit.int .u8 x).wf = true) (hc2 : l2.length ≤ c2) :
    Calls Try.prog 9 #[.agg #[.int .u64 pb, .int .i64 pf, .int .i64 pt, .int .i64 pa], .slice A1 l1.length c1, .slice A2 l2.length c2] w fun e w' => e = .returned (.bool true) ∧ Below w.heap.size w w' := by
  clear wb wf wt wq hw1 hw2
  obtain ⟨n1, hn1⟩ : ∃ n, l1.length = n := ⟨_, rfl⟩
  obtain ⟨n2, hn2⟩ : ∃ n, l2.length = n := ⟨_, rfl⟩
  rw [hn1] at hr1 y1 hc1 ⊢
  rw [hn2] at hr2 y2 hc2 ⊢
  obtain ⟨L, hL⟩ : ∃ L, liftL pf pt pa l1 = L := ⟨_, rfl⟩
  obtain ⟨m, hm⟩ : ∃ m, L.length = m := ⟨_, rfl⟩
  obtain ⟨LL, hLL⟩ : ∃ LL, layL pf pt pa l1 l2 = LL := ⟨_, rfl⟩
  have HLL := Lib.hid (show LL.length = 256 by rw [← hLL]; exact layL_len _ _ _ _ _)
  have HE := Lib.hid (And.intro hL (And.intro hm hLL))
  have HN := Lib.hid (And.intro hn1 hn2)
  have HY := Lib.hid (show n1 ≤ 140737488351232 ∧ n2 ≤ 140737488351232 by omega)
  have HC := Lib.hid (And.intro hc1 hc2)
  obtain ⟨w0, hw0, b0, f0, s0⟩ := made w #[.int .u64 pb, .int .i64 pf, .int .i64 pt, .int .i64 pa] 31
  have P0 := Lib.hid f0
  have B0 := Lib.hid b0
  have X0 := Lib.hid (hr1.below b0)
  have Y0 := Lib.hid (hr2.below b0)
  have hms : m ≤ n1 := by rw [← hm, ← hL, ← hn1]; unfold liftL; split <;> simp <;> omega
  have HMS := Lib.hid hms
  clear hL hm hLL hn1 hn2 y1 y2 hc1 hc2 b0 f0 s0 hr1 hr2 hms
  go_enter Try.func9, Try.ntmps9
  go_wp2_with (at_builtin; go_loud (refine print_append_row (w0 := w0) (W := w0) w0.heap.size rfl (.const (.slice none 0 0)) (.tmp 14) 40 5 .u8 1 rfl Try.underlying40 info8 (by omega) (.slice none 0 0) [] l1 A1 n1 c1 rfl rfl (own_nil _ _ _ _) X0.out (Below.refl _ _) (Nat.le_refl _) (by have := HY.out; simp; omega) ?_))
  intro v1 w1 hown hB hg hat
  obtain ⟨A3, c3, rfl⟩ := own_slice hown
  have hlen : ([] ++ l1).length = n1 := HN.out.1
  have hown' : w1.ownsRow w0.heap.size 5 1 (.slice A3 n1 c3) n1 (nums .u8 l1) := by rw [← hlen]; exact hown
  have O1 := Lib.hid hown'
  have B1 := Lib.hid hB
  have X1 := Lib.hid (X0.out.below hB)
  have Y1 := Lib.hid (Y0.out.below hB)
  have P1 := Lib.hid (keep_row P0.out hB)
  have hl1 : l1.length = n1 := HN.out.1
  rw [hl1]
  clear hown hown' hB hg hat hlen hl1
  go_wp2_with (at_builtin; go_loud (refine print_append_row (w0 := w1) (W := w1) w1.heap.size rfl (.const (.slice none 0 0)) (.tmp 16) 40 5 .u8 1 rfl Try.underlying40 info8 (by omega) (.slice none 0 0) [] l2 A2 n2 c2 rfl rfl (own_nil _ _ _ _) Y1.out (Below.refl _ _) (Nat.le_refl _) (by have := HY.out; simp; omega) ?_))
  intro v2 w2 hown hB hg hat
  obtain ⟨A4, c4, rfl⟩ := own_slice hown
  have hlen : ([] ++ l2).length = n2 := HN.out.2
  have hown' : w2.ownsRow w1.heap.size 5 1 (.slice A4 n2 c4) n2 (nums .u8 l2) := by rw [← hlen]; exact hown
  have OY := Lib.hid hown'
  have OX := Lib.hid (pw_own_below O1.out hB)
  have RX := Lib.hid (own_reads' OX.out)
  have RY := Lib.hid (own_reads' OY.out)
  have RB := Lib.hid (X1.out.below hB)
  have RD := Lib.hid (Y1.out.below hB)
  have P2 := Lib.hid (keep_row P1.out hB)
  have B2 := Lib.hid (below_then (below_then B0.out B0.out.size B1.out) (Nat.le_trans B0.out.size B1.out.size) hB)
  have HC3 := Lib.hid (And.intro (own_cap OX.out) (own_cap OY.out))
  have HNA := Lib.hid (own_none OX.out)
  have hl2 : l2.length = n2 := HN.out.2
  rw [hl2]
  clear hown hown' hB hg hat hlen hl2 hw0
  go_wp2_with ((with_reducible refine wpList_load_row rfl 31 (.tmp 3) rfl w.heap.size ?_ 31 _ _ _ P2.out Try.underlying31 ?_ (sizeP _ _ _ _) ?_); rfl; rfl)
  refine (lift_at pb pf pt pa l1 A3 n1 c3 _ RX.out (by have := HY.out; omega) HC3.out.1 HNA.out HE.out.1 HE.out.2.1).mono ?_; rintro e w3 ⟨A5, c5, rfl, ho, hb⟩
  have OA := Lib.hid ho
  have B3 := Lib.hid hb
  have P3 := Lib.hid (keep_row P2.out hb)
  clear ho hb
  go_wp2_with ((with_reducible refine wpList_load_row rfl 31 (.tmp 3) rfl w.heap.size ?_ 31 _ _ _ P3.out Try.underlying31 ?_ (sizeP _ _ _ _) ?_); rfl; rfl)
  refine (lay_any pb pf pt pa l1 l2 A3 A4 n1 c3 n2 c4 _ (RX.out.below B3.out) (RY.out.below B3.out) HC3.out.2).mono ?_; rintro e w4 ⟨gb, rfl, hrow, hgb, hb⟩
  rw [HE.out.2.2] at hrow
  have ROWB := Lib.hid hrow
  have HGB := Lib.hid hgb
  have B4 := Lib.hid (below_then B3.out B3.out.size hb)
  have OA4 := Lib.hid (pw_own_below OA.out hb)
  have P4 := Lib.hid (keep_row P3.out hb)
  have RA4 := Lib.hid (own_reads' OA4.out)
  have RB4 := Lib.hid (row256 ROWB.out HLL.out)
  clear hrow hgb hb
  go_wp2_with fail
  refine start_ (n := 18) (S := fun w' => (convert 40 9 (.slice A5 m c5)).run Try.prog w' = .ok (.string (strOfNums L)) w' ∧ (convert 40 9 (.slice (some ⟨gb, 0, none⟩) 256 256)).run Try.prog w' = .ok (.string (strOfNums LL)) w' ∧ w'.cell? ⟨w.heap.size, 0, none⟩ = some (.int .u64 pb) ∧ w'.cell? ⟨w.heap.size, 1, none⟩ = some (.int .i64 pf) ∧ w'.cell? ⟨w.heap.size, 2, none⟩ = some (.int .i64 pt) ∧ w'.cell? ⟨w.heap.size, 3, none⟩ = some (.int .i64 pa)) (ds := []) #[false, false, false, false, false, false, false, false, false, false, false, false, false, false, false, false, false, false] (by kernel_rfl) rfl rfl ⟨str_of (w := w4.drew) RA4.out, str_of (w := w4.drew) RB4.out, cell_row P4.out rfl, cell_row P4.out rfl, cell_row P4.out rfl, cell_row P4.out rfl⟩ (fun hHeld => ?_)
  refine pure_ (i := 0) (N := some 25) (v := ?_) (a' := ?_) #[true, false, false, false, false, false, false, false, false, false, false, false, false, false, false, false, false, false] rfl rfl (by kernel_rfl) (fun _ _ _ h => h) (Or.inl ⟨by rfl, ?_⟩) ?_ ?_
  rotate_left
  · intro w'
    go_simp
    with_reducible rfl
  rotate_left
  · simp only [Act.put, List.setIfInBounds_toArray, List.set_cons_zero, List.set_cons_succ, i64_w, i32_w]
    rfl
  refine pure_ (i := 3) (N := some 28) (v := ?_) (a' := ?_) #[true, false, false, true, false, false, false, false, false, false, false, false, false, false, false, false, false, false] rfl rfl (by kernel_rfl) (fun _ _ _ h => h) (Or.inl ⟨by rfl, ?_⟩) ?_ ?_
  rotate_left
  · intro w'
    go_simp
    with_reducible rfl
  rotate_left
  · simp only [Act.put, List.setIfInBounds_toArray, List.set_cons_zero, List.set_cons_succ, i64_w, i32_w]
    rfl
  refine take_ (i := 1) (N := some 26) (v := ?_) (a' := ?_) #[true, true, false, true, false, false, false, false, false, false, false, false, false, false, false, false, false, false] rfl rfl (by kernel_rfl) (fun _ _ _ h => h) (Or.inl ⟨by rfl, ?_⟩) hHeld ?_ ?_
  rotate_left
  · rintro w' ⟨s0, s1, s2, s3, s4, s5⟩
    go_simp
    with_reducible rfl
  rotate_left
  · simp only [Act.put, List.setIfInBounds_toArray, List.set_cons_zero, List.set_cons_succ, i64_w, i32_w]
    rfl
  refine take_ (i := 2) (N := some 27) (v := ?_) (a' := ?_) #[true, true, true, true, false, false, false, false, false, false, false, false, false, false, false, false, false, false] rfl rfl (by kernel_rfl) (fun _ _ _ h => h) (Or.inl ⟨by rfl, ?_⟩) hHeld ?_ ?_
  rotate_left
  · rintro w' ⟨s0, s1, s2, s3, s4, s5⟩
    go_simp
    with_reducible rfl
  rotate_left
  · simp only [Act.put, List.setIfInBounds_toArray, List.set_cons_zero, List.set_cons_succ, i64_w, i32_w]
    rfl
  refine one_ (i := 4) (N := some 29) #[true, true, true, true, true, false, false, false, false, false, false, false, false, false, false, false, false, false] rfl rfl (by kernel_rfl) (by decide) (fun K hK => ?_)
  refine goes_ Try.func23 (by kernel_rfl) rfl #[.agg #[.int .u64 pb, .int .i64 pf, .int .i64 pt, .int .i64 pa], .slice A1 n1 c1] (by rfl) rfl rfl (by simp only [List.map_toArray, List.map_cons, List.map_nil]; rfl) ?_
  with_reducible refine (rlift_at pb pf pt pa l1 A1 n1 c1 _ (ReadsInt.below RB.out (below_drew B4.out)) (by have := HY.out; omega) HE.out.1 HE.out.2.1).mono ?_
  rintro e w5 ⟨A6, c6, rfl, ho, hb⟩
  refine ⟨_, rfl, ?_⟩
  have B5 := Lib.hid (below_then (below_drew B4.out) (below_drew B4.out).size hb)
  have OR := Lib.hid ho
  have RA5 := Lib.hid (ReadsInt.below (w := w4.drew) RA4.out hb)
  have RB5 := Lib.hid (ReadsInt.below (w := w4.drew) RB4.out hb)
  have P5 := Lib.hid (keep_row (w := w4.drew) P4.out hb)
  have ROWB5 := Lib.hid (keep_row (w := w4.drew) ROWB.out hb)
  have OA5 := Lib.hid (pw_own_below (w := w4.drew) OA4.out hb)
  have CV := str_of (c := c6) (own_rd OR.out)
  clear ho hb
  refine hK.out _ _ ⟨str_of RA5.out, str_of RB5.out, cell_row P5.out rfl, cell_row P5.out rfl, cell_row P5.out rfl, cell_row P5.out rfl⟩ (fun hHeld => ?_)
  clear hK K
  refine norm_ (a' := ?_) ?_ ?_
  rotate_left
  · show Act.put _ (some 29) _ = _
    simp only [Act.put, List.setIfInBounds_toArray, List.set_cons_zero, List.set_cons_succ, i64_w, i32_w]
    rfl
  refine one_ (i := 5) (N := some 30) #[true, true, true, true, true, true, false, false, false, false, false, false, false, false, false, false, false, false] rfl rfl (by kernel_rfl) (by decide) (fun K hK => ?_)
  refine value_ (w1 := ?_) (v := ?_) (by rfl) rfl ?_ ?_
  rotate_left 2
  · go_simp
    constructor
    · rfl
    · rfl
  refine hK.out _ _ ⟨str_of RA5.out, str_of RB5.out, cell_row P5.out rfl, cell_row P5.out rfl, cell_row P5.out rfl, cell_row P5.out rfl⟩ (fun hHeld => ?_)
  clear hK K
  refine norm_ (a' := ?_) ?_ ?_
  rotate_left
  · show Act.put _ (some 30) _ = _
    simp only [Act.put, List.setIfInBounds_toArray, List.set_cons_zero, List.set_cons_succ, i64_w, i32_w]
    rfl
  refine pure_ (i := 6) (N := some 31) (v := ?_) (a' := ?_) #[true, true, true, true, true, true, true, false, false, false, false, false, false, false, false, false, false, false] rfl rfl (by kernel_rfl) (fun _ _ _ h => h) (Or.inl ⟨by rfl, ?_⟩) ?_ ?_
  rotate_left
  · intro w'
    go_simp
    with_reducible rfl
  rotate_left
  · simp only [Act.put, List.setIfInBounds_toArray, List.set_cons_zero, List.set_cons_succ, i64_w, i32_w]
    rfl
  refine pure_ (i := 7) (N := some 32) (v := ?_) (a' := ?_) #[true, true, true, true, true, true, true, true, false, false, false, false, false, false, false, false, false, false] rfl rfl (by kernel_rfl) (fun _ _ _ h => h) (Or.inl ⟨by rfl, ?_⟩) ?_ ?_
  rotate_left
  · intro w'
    go_simp
    with_reducible rfl
  rotate_left
  · simp only [Act.put, List.setIfInBounds_toArray, List.set_cons_zero, List.set_cons_succ, i64_w, i32_w]
    rfl
  refine pure_ (i := 8) (N := some 33) (v := ?_) (a' := ?_) #[true, true, true, true, true, true, true, true, true, false, false, false, false, false, false, false, false, false] rfl rfl (by kernel_rfl) (fun _ _ _ h => h) (Or.inl ⟨by rfl, ?_⟩) ?_ ?_
  rotate_left
  · intro w'
    go_simp
    with_reducible rfl
  rotate_left
  · simp only [Act.put, List.setIfInBounds_toArray, List.set_cons_zero, List.set_cons_succ, i64_w, i32_w]
    rfl
  refine pure_ (i := 11) (N := some 36) (v := ?_) (a' := ?_) #[true, true, true, true, true, true, true, true, true, false, false, true, false, false, false, false, false, false] rfl rfl (by kernel_rfl) (fun _ _ _ h => h) (Or.inl ⟨by rfl, ?_⟩) ?_ ?_
  rotate_left
  · intro w'
    go_simp
    with_reducible rfl
  rotate_left
  · simp only [Act.put, List.setIfInBounds_toArray, List.set_cons_zero, List.set_cons_succ, i64_w, i32_w]
    rfl
  refine pure_ (i := 12) (N := some 37) (v := ?_) (a' := ?_) #[true, true, true, true, true, true, true, true, true, false, false, true, true, false, false, false, false, false] rfl rfl (by kernel_rfl) (fun _ _ _ h => h) (Or.inl ⟨by rfl, ?_⟩) ?_ ?_
  rotate_left
  · intro w'
    go_simp
    with_reducible rfl
  rotate_left
  · simp only [Act.put, List.setIfInBounds_toArray, List.set_cons_zero, List.set_cons_succ, i64_w, i32_w]
    rfl
  refine take_ (i := 9) (N := some 34) (v := ?_) (a' := ?_) #[true, true, true, true, true, true, true, true, true, true, false, true, true, false, false, false, false, false] rfl rfl (by kernel_rfl) (fun _ _ _ h => h) (Or.inl ⟨by rfl, ?_⟩) hHeld ?_ ?_
  rotate_left
  · rintro w' ⟨s0, s1, s2, s3, s4, s5⟩
    go_simp
    with_reducible rfl
  rotate_left
  · simp only [Act.put, List.setIfInBounds_toArray, List.set_cons_zero, List.set_cons_succ, i64_w, i32_w]
    rfl
  refine take_ (i := 10) (N := some 35) (v := ?_) (a' := ?_) #[true, true, true, true, true, true, true, true, true, true, true, true, true, false, false, false, false, false] rfl rfl (by kernel_rfl) (fun _ _ _ h => h) (Or.inl ⟨by rfl, ?_⟩) hHeld ?_ ?_
  rotate_left
  · rintro w' ⟨s0, s1, s2, s3, s4, s5⟩
    go_simp
    with_reducible rfl
  rotate_left
  · simp only [Act.put, List.setIfInBounds_toArray, List.set_cons_zero, List.set_cons_succ, i64_w, i32_w]
    rfl
  refine one_ (i := 13) (N := some 38) #[true, true, true, true, true, true, true, true, true, true, true, true, true, true, false, false, false, false] rfl rfl (by kernel_rfl) (by decide) (fun K hK => ?_)
  refine goes_ Try.func24 (by kernel_rfl) rfl #[.agg #[.int .u64 pb, .int .i64 pf, .int .i64 pt, .int .i64 pa], .slice A1 n1 c1, .slice A2 n2 c2] (by rfl) rfl rfl (by simp only [List.map_toArray, List.map_cons, List.map_nil]; rfl) ?_
  with_reducible refine (rlay_any pb pf pt pa l1 l2 A1 A2 n1 c1 n2 c2 _ (ReadsInt.below RB.out B5.out) (ReadsInt.below RD.out B5.out) (by have := HY.out; omega) HE.out.2.2).mono ?_
  rintro e w6 ⟨g6, rfl, hrow6, hg6, hb⟩
  refine ⟨_, rfl, ?_⟩
  have B6 := Lib.hid (below_then B5.out B5.out.size hb)
  have RA6 := Lib.hid (ReadsInt.below RA5.out hb)
  have RB6 := Lib.hid (ReadsInt.below RB5.out hb)
  have P6 := Lib.hid (keep_row P5.out hb)
  have ROWB6 := Lib.hid (keep_row ROWB5.out hb)
  have OA6 := Lib.hid (pw_own_below OA5.out hb)
  have CV6 := str_of (c := 256) (row256 hrow6 HLL.out)
  clear hrow6 hg6 hb CV
  refine hK.out _ _ ⟨str_of RA6.out, str_of RB6.out, cell_row P6.out rfl, cell_row P6.out rfl, cell_row P6.out rfl, cell_row P6.out rfl⟩ (fun hHeld => ?_)
  clear hK K
  refine norm_ (a' := ?_) ?_ ?_
  rotate_left
  · show Act.put _ (some 38) _ = _
    simp only [Act.put, List.setIfInBounds_toArray, List.set_cons_zero, List.set_cons_succ, i64_w, i32_w]
    rfl
  refine one_ (i := 14) (N := some 39) #[true, true, true, true, true, true, true, true, true, true, true, true, true, true, true, false, false, false] rfl rfl (by kernel_rfl) (by decide) (fun K hK => ?_)
  refine value_ (w1 := ?_) (v := ?_) (by rfl) rfl ?_ ?_
  rotate_left 2
  · go_simp
    constructor
    · rfl
    · rfl
  refine hK.out _ _ ⟨str_of RA6.out, str_of RB6.out, cell_row P6.out rfl, cell_row P6.out rfl, cell_row P6.out rfl, cell_row P6.out rfl⟩ (fun hHeld => ?_)
  clear hK K
  refine norm_ (a' := ?_) ?_ ?_
  rotate_left
  · show Act.put _ (some 39) _ = _
    simp only [Act.put, List.setIfInBounds_toArray, List.set_cons_zero, List.set_cons_succ, i64_w, i32_w]
    rfl
  refine pure_ (i := 15) (N := some 40) (v := ?_) (a' := ?_) #[true, true, true, true, true, true, true, true, true, true, true, true, true, true, true, true, false, false] rfl rfl (by kernel_rfl) (fun _ _ _ h => h) (Or.inl ⟨by rfl, ?_⟩) ?_ ?_
  rotate_left
  · intro w'
    go_simp
    with_reducible rfl
  rotate_left
  · simp only [Act.put, List.setIfInBounds_toArray, List.set_cons_zero, List.set_cons_succ, i64_w, i32_w]
    rfl
  refine pure_ (i := 16) (N := some 41) (v := ?_) (a' := ?_) #[true, true, true, true, true, true, true, true, true, true, true, true, true, true, true, true, true, false] rfl rfl (by kernel_rfl) (fun _ _ _ h => h) (Or.inl ⟨by rfl, ?_⟩) ?_ ?_
  rotate_left
  · intro w'
    go_simp
    with_reducible rfl
  rotate_left
  · simp only [Act.put, List.setIfInBounds_toArray, List.set_cons_zero, List.set_cons_succ, i64_w, i32_w]
    rfl
  refine pure_ (i := 17) (N := some 11) (v := ?_) (a' := ?_) #[true, true, true, true, true, true, true, true, true, true, true, true, true, true, true, true, true, true] rfl rfl (by kernel_rfl) (fun _ _ _ h => h) (Or.inl ⟨by rfl, ?_⟩) ?_ ?_
  rotate_left
  · intro w'
    go_simp
    with_reducible rfl
  rotate_left
  · simp only [Act.put, List.setIfInBounds_toArray, List.set_cons_zero, List.set_cons_succ, i64_w, i32_w]
    rfl
  refine done_ (by kernel_rfl) ?_
  clear CV6 hHeld
  have HSEP := Lib.hid (show some gb ≠ (Value.slice A5 m c5).ownBlock by intro he; have h1 := own_lt OA.out _ he.symm; have h2 := HGB.out; omega)
  have HLM := Lib.hid (show L.length = m from HE.out.2.1)
  have hm47 : m ≤ 140737488351232 := by have h1 := HMS.out; have h2 := HY.out; omega
  go_wp2_with fail
  go_loopw [12] (fun iv wr => ∃ (i : Nat) (cur : List Int), i ≤ m ∧ iv = .int .i64 (i : Int) ∧ cur.length = m ∧ wr.ownsRow w2.heap.size 5 1 (.slice A5 m c5) m (nums .u8 cur) ∧ wr.heap[gb]? = some (.cells (nums .u8 LL).toArray 5 (0, 0)) ∧ Below w2.heap.size w2 wr) (fun iv _ => m - (intOf iv).toNat)
  case atStart => exact ⟨0, L, by omega, rfl, HLM.out, OA6.out, ROWB6.out, B6.out⟩
  case round =>
    obtain ⟨i, cur, hi, rfl, hcl, ho, hrow, hb⟩ := hrel
    have HCL := Lib.hid hcl
    have HO := Lib.hid ho
    have HROW := Lib.hid hrow
    have HB := Lib.hid hb
    clear hcl ho hrow hb
    by_cases hlt : i < m
    · obtain ⟨ga, cap, he, hga, -⟩ := HO.out.form (by omega)
      injection he with he1 he2 he3
      subst he1
      obtain ⟨x, hx⟩ : ∃ x, cur.getD i 0 = x := ⟨_, rfl⟩
      have hc := own_num HO.out (i := i) (by rw [HCL.out]; exact hlt)
      rw [hx] at hc
      have hf := HO.out.frozenAt i
      have HLT := Lib.hid hlt
      clear hi he2 he3 hx
      have hne : gb ≠ ga := fun h => HSEP.out (by rw [h]; rfl)
      have HNE := Lib.hid hne
      clear hne
      go_wp2_with fail
      go_roundw
      case rel => exact ⟨i + 1, cur.set i (bits .xor .u8 x 1), HLT.out, by push_cast; rfl, by rw [List.length_set]; exact HCL.out, own_num_set HO.out _, blk_far HROW.out HNE.out _, HB.out.setCell (own_base HO.out ga rfl) _⟩
      case measure => simp [intOf]; have := HLT.out; omega
    · obtain rfl : i = m := by omega
      clear hi hlt
      go_wp2_with fail
      go_loopw [13] (fun iv wq => ∃ (k : Nat) (cur : List Int), k ≤ 256 ∧ iv = .int .i64 (k : Int) ∧ cur.length = 256 ∧ wq.heap[gb]? = some (.cells (nums .u8 cur).toArray 5 (0, 0)) ∧ Below w2.heap.size w2 wq) (fun iv _ => 256 - (intOf iv).toNat)
      case atStart => exact ⟨0, LL, by omega, rfl, HLL.out, HROW.out, HB.out⟩
      case round =>
        obtain ⟨k, cur2, hk, rfl, hcl, hrow, hb⟩ := hrel
        have HCL2 := Lib.hid hcl
        have HROW2 := Lib.hid hrow
        have HB2 := Lib.hid hb
        clear hcl hrow hb
        by_cases hlt : k < 256
        · obtain ⟨x, hx⟩ : ∃ x, cur2.getD k 0 = x := ⟨_, rfl⟩
          have hc := row_at HROW2.out (i := k) (by rw [HCL2.out]; exact hlt)
          rw [hx] at hc
          have hf := blk_frozen HROW2.out k
          have HLT := Lib.hid hlt
          clear hk hx
          go_wp2_with fail
          go_roundw
          case rel => exact ⟨k + 1, cur2.set k (bits .xor .u8 x 1), HLT.out, by push_cast; rfl, by rw [List.length_set]; exact HCL2.out, row_put HROW2.out _ rfl, HB2.out.setCell (Nat.le_trans B3.out.size HGB.out) _⟩
          case measure => simp [intOf]; have := HLT.out; omega
        · obtain rfl : k = 256 := by omega
          have CX := str_of (c := c3) (RX.out.below HB2.out)
          have CB := str_of (c := c1) (RB.out.below HB2.out)
          have CY := str_of (c := c4) (RY.out.below HB2.out)
          have CD := str_of (c := c2) (RD.out.below HB2.out)
          have BZ := Lib.hid (below_then B2.out B2.out.size HB2.out)
          clear hk hlt
          go_wp2_with fail
          refine (wakes_any _).mono ?_; rintro e w8 ⟨rfl, hb⟩
          have BY := Lib.hid (below_then BZ.out BZ.out.size hb)
          clear hb
          go_wp2_with fail
          go_ret
          exact ⟨rfl, BY.out⟩
end Go.Proofs.Ytgmjpnampjkfeaa.Pie
