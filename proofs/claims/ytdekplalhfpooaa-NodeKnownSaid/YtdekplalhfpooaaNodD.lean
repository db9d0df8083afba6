/- A node's form: the program's Put (every input). -/
import Derived.Test.YtdekplalhfpooaaNodC
set_option linter.unusedVariables false
set_option linter.unusedSimpArgs false
namespace Go.Proofs.Ytdekplalhfpooaa.Nod
open Go Go.RowKit Go.Proofs.YtdekplalhfpooaaW.PrintWords Go.Proofs.YtdekplalhfpooaaW.PrintLast Go.Proofs.YtdekplalhfpooaaW.PrintMore Base Odr Hlp

def pairsTo (K V : List Int) (j : Nat) : List Int := (List.range j).flatMap fun i => be (K.getD i 0) 8 ++ be (V.getD i 0) 8
theorem pairs_succ (K V : List Int) (j : Nat) : pairsTo K V (j + 1) = pairsTo K V j ++ be (K.getD j 0) 8 ++ be (V.getD j 0) 8 := by
  simp [pairsTo, List.range_succ, List.flatMap_append, List.append_assoc]
theorem pairs_len (K V : List Int) (j : Nat) : (pairsTo K V j).length = 16 * j := by
  induction j with
  | zero => rfl
  | succ j ih => rw [pairs_succ, List.length_append, List.length_append, ih, be_length, be_length]; omega
theorem pairs_wf (K V : List Int) (j : Nat) : ∀ x ∈ pairsTo K V j, (Lit.int .u8 x).wf = true := by
  induction j with
  | zero => intro x hx; simp [pairsTo] at hx
  | succ j ih =>
    intro x hx
    rw [pairs_succ, List.mem_append, List.mem_append] at hx
    rcases hx with (h | h) | h
    · exact ih x h
    · exact be_range _ _ x h
    · exact be_range _ _ x h
def headN (L : Bool) (n : Nat) : List Int := [if L then 1 else 0, (n : Int)]
def formN (L : Bool) (K V : List Int) : List Int := headN L K.length ++ pairsTo K V K.length
theorem form_len (L : Bool) (K V : List Int) : (formN L K V).length = 2 + 16 * K.length := by simp [formN, headN, pairs_len]; omega
theorem form_wf (L : Bool) (K V : List Int) (h : K.length ≤ 8) : ∀ x ∈ formN L K V, (Lit.int .u8 x).wf = true := by
  intro x hx
  simp only [formN, headN, List.mem_append, List.mem_cons, List.not_mem_nil, or_false] at hx
  rcases hx with (h1 | h1) | h1
  · rw [h1]; cases L <;> rfl
  · rw [h1]; exact wf8 (by omega)
  · exact pairs_wf _ _ _ x h1
theorem may_le {K V : List Int} (h : mayN K V = true) : 1 ≤ K.length ∧ K.length ≤ 8 ∧ V.length = K.length := by
  simp only [mayN, Bool.and_eq_true, decide_eq_true_eq] at h
  exact ⟨h.1.1.1, h.1.1.2, h.1.2⟩
theorem put_row (xs : List Int) (A : Option Addr) (n c : Nat) (m : Int) (w : World) (HR : ReadsInt w .u8 A n xs) (hn : n + 8 ≤ 140737488355328) :
    Calls Try.prog 53 #[.slice A n c, .int .u64 m, .int .i64 8] w fun e w' => ∃ A' c', e = .returned (.slice A' (n + 8) c') ∧ w'.ownsRow w.heap.size 5 1 (.slice A' (n + 8) c') (n + 8) (nums .u8 (xs ++ be m 8)) ∧ Below w.heap.size w w' := by
  refine (put_any xs A n c m 8 w HR hn (by omega) (by omega)).mono ?_
  rintro e w' ⟨v, rfl, ho, hb⟩
  obtain ⟨A', c', rfl⟩ := own_slice ho
  exact ⟨A', c', rfl, ho, hb⟩
theorem may_at {b : Bool} (L : Bool) {K V : List Int} {ak av : Option Addr} {nk ck nv cv : Nat} (w : World) (HK : ReadsInt w .u64 ak nk K) (HV : ReadsInt w .u64 av nv V) (h : mayN K V = b) :
    Calls Try.prog 33 #[.agg #[.bool L, .slice ak nk ck, .slice av nv cv]] w fun e w' => e = .returned (.bool b) ∧ Below w.heap.size w w' := by
  subst h; exact may_any L K V ak av nk ck nv cv w HK HV

set_option maxRecDepth 100000 in
set_option maxHeartbeats 1600000 in
theorem put_no (L : Bool) (K V : List Int) (ak av : Option Addr) (nk ck nv cv : Nat) (w : World) (HK : ReadsInt w .u64 ak nk K) (HV : ReadsInt w .u64 av nv V) (hm : mayN K V = false) :
    Calls Try.prog 29 #[.agg #[.bool L, .slice ak nk ck, .slice av nv cv]] w fun e w' => e = .returned (.tuple #[.slice none 0 0, .int .i64 1]) ∧ Below w.heap.size w w' := by
  obtain ⟨w1, hw1, b1, f1, s1⟩ := made w #[.bool L, .slice ak nk ck, .slice av nv cv] 24
  have B1 := Lib.hid b1
  have F1 := Lib.hid f1
  have RK := Lib.hid (ReadsInt.below HK b1)
  have RV := Lib.hid (ReadsInt.below HV b1)
  have HM := Lib.hid hm
  clear HK HV b1 f1 s1 hm
  go_enter Try.func29, Try.ntmps29
  go_wp2_with ((with_reducible refine wpList_load_row rfl 24 (.tmp 1) rfl w.heap.size ?_ 24 _ _ _ F1.out Try.underlying24 ?_ (size3 _ _ _) ?_); rfl; rfl)
  refine (may_at L _ RK.out RV.out HM.out).mono ?_; rintro e w2 ⟨rfl, hb⟩
  have B2 := Lib.hid (below_then B1.out B1.out.size hb)
  clear hb
  go_wp2_with fail
  go_ret2
  exact ⟨rfl, B2.out⟩

set_option maxRecDepth 100000 in
set_option maxHeartbeats 3200000 in
theorem put_ok (L : Bool) (K V : List Int) (ak av : Option Addr) (nk ck nv cv : Nat) (w : World) (HK : ReadsInt w .u64 ak nk K) (HV : ReadsInt w .u64 av nv V) (hm : mayN K V = true) :
    Calls Try.prog 29 #[.agg #[.bool L, .slice ak nk ck, .slice av nv cv]] w fun e w' => ∃ A' c', e = .returned (.tuple #[.slice A' (2 + 16 * nk) c', .int .i64 0]) ∧ w'.ownsRow w.heap.size 5 1 (.slice A' (2 + 16 * nk) c') (2 + 16 * nk) (nums .u8 (formN L K V)) ∧ Below w.heap.size w w' := by
  obtain ⟨w1, hw1, b1, f1, s1⟩ := made w #[.bool L, .slice ak nk ck, .slice av nv cv] 24
  have B1 := Lib.hid b1
  have F1 := Lib.hid f1
  have LK := Lib.hid HK.1
  have LV := Lib.hid HV.1
  have RK := Lib.hid (ReadsInt.below HK b1)
  have RV := Lib.hid (ReadsInt.below HV b1)
  have HM := Lib.hid hm
  have HL := Lib.hid (may_le hm)
  have S1 := Lib.hid s1
  clear HK HV b1 f1 s1 hm
  go_enter Try.func29, Try.ntmps29
  go_wp2_with ((with_reducible refine wpList_load_row rfl 24 (.tmp 1) rfl w.heap.size ?_ 24 _ _ _ F1.out Try.underlying24 ?_ (size3 _ _ _) ?_); rfl; rfl)
  refine (may_at L _ RK.out RV.out HM.out).mono ?_; rintro e w2 ⟨rfl, hb⟩
  have f2 := keep_row F1.out hb
  obtain ⟨w3, hw3, b3, f3, s3⟩ := made w2 #[.int .u8 0, .int .u8 (nk : Int)] 5
  have c1 : w2.cell? ⟨w.heap.size, 1, none⟩ = some (.slice ak nk ck) := cell_row f2 rfl
  have c03 : w3.cell? ⟨w.heap.size, 0, none⟩ = some (.bool L) := cell_row (keep_row f2 b3) rfl
  have c13 : w3.cell? ⟨w.heap.size, 1, none⟩ = some (.slice ak nk ck) := cell_row (keep_row f2 b3) rfl
  have hn8 : (nk : Int) ≤ 8 := by have := HL.out.2.1; have := LK.out; omega
  have F2 := Lib.hid f2
  have B2 := Lib.hid (below_then B1.out B1.out.size hb)
  have K2 := Lib.hid (ReadsInt.below RK.out hb)
  have V2 := Lib.hid (ReadsInt.below RV.out hb)
  have D3 := Lib.hid b3
  clear hb f2 RK RV F1 b3 f3 s3
  cases L
  · skip
    have O3 := Lib.hid (show w3.ownsRow w2.heap.size 5 1 (.slice (some ⟨w2.heap.size, 0, none⟩) 2 2) 2 (nums .u8 [0, (nk : Int)]) by rw [← hw3]; exact own_lit w2 w2.heap.size 5 .u8 [0, (nk : Int)] (Nat.le_refl _) (by simp))
    obtain ⟨w4, hw4⟩ : ∃ w4, w3 = w4 := ⟨_, rfl⟩
    subst hw4
    have O4 := O3
    have D4 := D3
    go_wp2_with fail
    go_loopw [22, 4] (fun i v wr => ∃ (j n : Nat) (A : Option Addr) (c : Nat), j ≤ nk ∧ i = .int .i64 (j : Int) ∧ n = 2 + 16 * j ∧ v = .slice A n c ∧ wr.ownsRow w2.heap.size 5 1 (.slice A n c) n (nums .u8 (headN false nk ++ pairsTo K V j)) ∧ Below w2.heap.size w2 wr) (fun i _ _ => nk - (intOf i).toNat)
    case atStart => exact ⟨0, 2, _, _, by omega, rfl, rfl, rfl, O4.out, D4.out⟩
    case round =>
      obtain ⟨j, n, A, c, hj, rfl, hn, rfl, hown, hbel⟩ := hrel
      have HO := Lib.hid hown
      have HB := Lib.hid hbel
      have HN := Lib.hid hn
      clear hown hbel hn O3 O4 D3 D4
      by_cases hlt : j < nk
      · have hjv : (j : Int) < (nk : Int) := by omega
        have hjv' : (j : Int) < (nv : Int) := by have := HL.out.2.2; have := LK.out; have := LV.out; omega
        have hjd : decide ((j : Int) < (nk : Int)) = true := decide_eq_true hjv
        obtain ⟨ad, rfl, hc0⟩ := cell_at (ReadsInt.below K2.out HB.out) j hlt
        obtain ⟨bd, rfl, hc1⟩ := cell_at (ReadsInt.below V2.out HB.out) j (by have := HL.out.2.2; have := LK.out; have := LV.out; omega)
        obtain ⟨x, hx⟩ : ∃ x, x = K.getD j 0 := ⟨_, rfl⟩
        obtain ⟨y, hy⟩ : ∃ y, y = V.getD j 0 := ⟨_, rfl⟩
        rw [← hx] at hc0
        rw [← hy] at hc1
        have HX := Lib.hid hx
        have HY := Lib.hid hy
        have C1 := Lib.hid hc1
        have C2 := Lib.hid (show wr.cell? ⟨w.heap.size, 2, none⟩ = some (.slice (some bd) nv cv) from cell_row (keep_row F2.out HB.out) rfl)
        have RO := Lib.hid (reads_own_of HO.out (by rw [List.length_append, pairs_len, HN.out]; rfl) rfl)
        have HS := Lib.hid (show n + 16 ≤ 1000 by have := HN.out; omega)
        clear hx hy hc1 hj
        go_wp2_with fail
        refine start_ (n := 10) (S := fun w' => w'.cell? ⟨w.heap.size, 2, none⟩ = some (.slice (some bd) nv cv) ∧ w'.cell? (bd.add j) = some (.int .u64 y)) (ds := [8]) #[false, false, false, false, false, false, false, false, false, false] (by kernel_rfl) rfl rfl ⟨C2.out, C1.out⟩ (fun hHeld => ?_)
        refine pure_ (i := 0) (N := some 27) (v := ?_) (a' := ?_) #[true, false, false, false, false, false, false, false, false, false] rfl rfl (by kernel_rfl) (fun _ _ _ h => h) (Or.inl ⟨by rfl, ?_⟩) ?_ ?_
        rotate_left
        · intro w'
          go_simp
          with_reducible rfl
        rotate_left
        · simp only [Act.put, List.setIfInBounds_toArray, List.set_cons_zero, List.set_cons_succ, i64_w, i32_w]
          rfl
        refine pure_ (i := 1) (N := some 28) (v := ?_) (a' := ?_) #[true, true, false, false, false, false, false, false, false, false] rfl rfl (by kernel_rfl) (fun _ _ _ h => h) (Or.inl ⟨by rfl, ?_⟩) ?_ ?_
        rotate_left
        · intro w'
          go_simp
          with_reducible rfl
        rotate_left
        · simp only [Act.put, List.setIfInBounds_toArray, List.set_cons_zero, List.set_cons_succ, i64_w, i32_w]
          rfl
        refine pure_ (i := 3) (N := some 30) (v := ?_) (a' := ?_) #[true, true, false, true, false, false, false, false, false, false] rfl rfl (by kernel_rfl) (fun _ _ _ h => h) (Or.inl ⟨by rfl, ?_⟩) ?_ ?_
        rotate_left
        · intro w'
          go_simp
          with_reducible rfl
        rotate_left
        · simp only [Act.put, List.setIfInBounds_toArray, List.set_cons_zero, List.set_cons_succ, i64_w, i32_w]
          rfl
        refine pure_ (i := 5) (N := some 32) (v := ?_) (a' := ?_) #[true, true, false, true, false, true, false, false, false, false] rfl rfl (by kernel_rfl) (fun _ _ _ h => h) (Or.inl ⟨by rfl, ?_⟩) ?_ ?_
        rotate_left
        · intro w'
          go_simp
          with_reducible rfl
        rotate_left
        · simp only [Act.put, List.setIfInBounds_toArray, List.set_cons_zero, List.set_cons_succ, i64_w, i32_w]
          rfl
        refine take_ (i := 4) (N := some 31) (v := ?_) (a' := ?_) #[true, true, false, true, true, true, false, false, false, false] rfl rfl (by kernel_rfl) (fun _ _ _ h => h) (Or.inl ⟨by rfl, ?_⟩) hHeld ?_ ?_
        rotate_left
        · rintro w' ⟨s0, s1⟩
          go_simp
          with_reducible rfl
        rotate_left
        · simp only [Act.put, List.setIfInBounds_toArray, List.set_cons_zero, List.set_cons_succ, i64_w, i32_w]
          rfl
        refine pure_ (i := 6) (N := some 33) (v := ?_) (a' := ?_) #[true, true, false, true, true, true, true, false, false, false] rfl rfl (by kernel_rfl) (fun _ _ _ h => h) (Or.inl ⟨by rfl, ?_⟩) ?_ ?_
        rotate_left
        · intro w'
          go_simp
          with_reducible rfl
        rotate_left
        · simp only [Act.put, List.setIfInBounds_toArray, List.set_cons_zero, List.set_cons_succ, i64_w, i32_w]
          rfl
        refine take_ (i := 7) (N := some 34) (v := ?_) (a' := ?_) #[true, true, false, true, true, true, true, true, false, false] rfl rfl (by kernel_rfl) (fun _ _ _ h => h) (Or.inl ⟨by rfl, ?_⟩) hHeld ?_ ?_
        rotate_left
        · rintro w' ⟨s0, s1⟩
          go_simp
          with_reducible rfl
        rotate_left
        · simp only [Act.put, List.setIfInBounds_toArray, List.set_cons_zero, List.set_cons_succ, i64_w, i32_w]
          rfl
        refine one_ (i := 2) (N := some 29) #[true, true, true, true, true, true, true, true, false, false] rfl rfl (by kernel_rfl) (by decide) (fun K hK => ?_)
        refine goes_ Try.func53 (by kernel_rfl) rfl #[.slice A n c, .int .u64 x, .int .i64 8] (by rfl) rfl rfl (by simp only [List.map_toArray, List.map_cons, List.map_nil]; rfl) ?_
        with_reducible refine (put_row _ _ _ _ _ _ (reads_drew RO.out) (by have := HS.out; omega)).mono ?_
        rintro e w5 ⟨A5, c5, rfl, ho, hb⟩
        refine ⟨_, rfl, ?_⟩
        have O5 := Lib.hid ho
        have D5 := Lib.hid (below_then (below_drew HB.out) (below_drew HB.out).size hb)
        have X2 := Lib.hid (pw_cell_below hb C2.out)
        have X1 := Lib.hid (pw_cell_below hb C1.out)
        have RO5 := Lib.hid (reads_own_of ho (by rw [List.length_append, List.length_append, pairs_len, be_length, HN.out]; rfl) rfl)
        clear ho hb
        refine hK.out _ _ ⟨X2.out, X1.out⟩ (fun hHeld => ?_)
        clear hK K
        refine norm_ (a' := ?_) ?_ ?_
        rotate_left
        · show Act.put _ (some 29) _ = _
          simp only [Act.put, List.setIfInBounds_toArray, List.set_cons_zero, List.set_cons_succ, i64_w, i32_w]
          rfl
        refine last_ (i := 8) (N := some 35) #[true, true, true, true, true, true, true, true, true, false] rfl rfl (by kernel_rfl) (by decide) (fun K hK => ?_)
        refine goes_ Try.func53 (by kernel_rfl) rfl #[.slice A5 (n + 8) c5, .int .u64 y, .int .i64 8] (by rfl) rfl rfl (by simp only [List.map_toArray, List.map_cons, List.map_nil]; rfl) ?_
        with_reducible refine (put_row _ _ _ _ _ _ RO5.out (by have := HS.out; omega)).mono ?_
        rintro e w6 ⟨A6, c6, rfl, ho, hb⟩
        refine ⟨_, rfl, ?_⟩
        have O6 := Lib.hid ho
        have D6 := Lib.hid (below_then D5.out D5.out.size hb)
        clear ho hb
        refine hK.out _ _ ?_
        clear hK K
        refine norm_ (a' := ?_) ?_ ?_
        rotate_left
        · show Act.put _ (some 35) _ = _
          simp only [Act.put, List.setIfInBounds_toArray, List.set_cons_zero, List.set_cons_succ, i64_w, i32_w]
          rfl
        refine pure_ (i := 9) (N := some 4) (v := ?_) (a' := ?_) #[true, true, true, true, true, true, true, true, true, true] rfl rfl (by kernel_rfl) (fun _ _ _ h => h) (Or.inl ⟨by rfl, ?_⟩) ?_ ?_
        rotate_left
        · intro w'
          go_simp
          with_reducible rfl
        rotate_left
        · simp only [Act.put, List.setIfInBounds_toArray, List.set_cons_zero, List.set_cons_succ, i64_w, i32_w]
          rfl
        refine done_ (by kernel_rfl) ?_
        go_wp2_with fail
        go_roundw
        case rel =>
          refine ⟨j + 1, n + 8 + 8, A6, c6, by omega, by go_num, by have := HN.out; omega, rfl, ?_, D6.out⟩
          have h := own_weaken O6.out (show w2.heap.size ≤ w5.heap.size from D5.out.size)
          rw [pairs_succ, ← HX.out, ← HY.out]
          simpa only [List.append_assoc] using h
        case measure => simp [intOf]; omega
      · obtain rfl : j = nk := by omega
        clear hj hlt
        go_wp2_with fail
        go_ret2
        refine ⟨A, c, ?_, ?_, below_then B2.out B2.out.size HB.out⟩
        · rw [← HN.out]; rfl
        · have h := own_weaken HO.out B2.out.size
          rw [HN.out] at h
          simpa only [formN, LK.out] using h
  · skip
    have O3 := Lib.hid (show w3.ownsRow w2.heap.size 5 1 (.slice (some ⟨w2.heap.size, 0, none⟩) 2 2) 2 (nums .u8 [0, (nk : Int)]) by rw [← hw3]; exact own_lit w2 w2.heap.size 5 .u8 [0, (nk : Int)] (Nat.le_refl _) (by simp))
    obtain ⟨a3, z3⟩ := own_at O3.out 0 (by omega) (by omega)
    have a3' : w3.cell? ⟨w2.heap.size, 0, none⟩ = some (.int .u8 0) := a3
    have z3' : w3.frozen? ⟨w2.heap.size, 0, none⟩ = false := z3
    obtain ⟨w4, hw4⟩ : ∃ w4, w3.setCell ⟨w2.heap.size, 0, none⟩ (.int .u8 1) = w4 := ⟨_, rfl⟩
    have O4 := Lib.hid (show w4.ownsRow w2.heap.size 5 1 (.slice (some ⟨w2.heap.size, 0, none⟩) 2 2) 2 (nums .u8 (headN true nk)) by rw [← hw4]; exact (own_store O3.out 0 1).1)
    have D4 := Lib.hid (show Below w2.heap.size w2 w4 by rw [← hw4]; exact D3.out.setCell (Nat.le_refl _) _)
    have c14 : w4.cell? ⟨w.heap.size, 1, none⟩ = some (.slice ak nk ck) := cell_row (keep_row F2.out D4.out) rfl
    clear a3 z3
    go_wp2_with fail
    go_loopw [22, 4] (fun i v wr => ∃ (j n : Nat) (A : Option Addr) (c : Nat), j ≤ nk ∧ i = .int .i64 (j : Int) ∧ n = 2 + 16 * j ∧ v = .slice A n c ∧ wr.ownsRow w2.heap.size 5 1 (.slice A n c) n (nums .u8 (headN true nk ++ pairsTo K V j)) ∧ Below w2.heap.size w2 wr) (fun i _ _ => nk - (intOf i).toNat)
    case atStart => exact ⟨0, 2, _, _, by omega, rfl, rfl, rfl, O4.out, D4.out⟩
    case round =>
      obtain ⟨j, n, A, c, hj, rfl, hn, rfl, hown, hbel⟩ := hrel
      have HO := Lib.hid hown
      have HB := Lib.hid hbel
      have HN := Lib.hid hn
      clear hown hbel hn O3 O4 D3 D4
      by_cases hlt : j < nk
      · have hjv : (j : Int) < (nk : Int) := by omega
        have hjv' : (j : Int) < (nv : Int) := by have := HL.out.2.2; have := LK.out; have := LV.out; omega
        have hjd : decide ((j : Int) < (nk : Int)) = true := decide_eq_true hjv
        obtain ⟨ad, rfl, hc0⟩ := cell_at (ReadsInt.below K2.out HB.out) j hlt
        obtain ⟨bd, rfl, hc1⟩ := cell_at (ReadsInt.below V2.out HB.out) j (by have := HL.out.2.2; have := LK.out; have := LV.out; omega)
        obtain ⟨x, hx⟩ : ∃ x, x = K.getD j 0 := ⟨_, rfl⟩
        obtain ⟨y, hy⟩ : ∃ y, y = V.getD j 0 := ⟨_, rfl⟩
        rw [← hx] at hc0
        rw [← hy] at hc1
        have HX := Lib.hid hx
        have HY := Lib.hid hy
        have C1 := Lib.hid hc1
        have C2 := Lib.hid (show wr.cell? ⟨w.heap.size, 2, none⟩ = some (.slice (some bd) nv cv) from cell_row (keep_row F2.out HB.out) rfl)
        have RO := Lib.hid (reads_own_of HO.out (by rw [List.length_append, pairs_len, HN.out]; rfl) rfl)
        have HS := Lib.hid (show n + 16 ≤ 1000 by have := HN.out; omega)
        clear hx hy hc1 hj
        go_wp2_with fail
        refine start_ (n := 10) (S := fun w' => w'.cell? ⟨w.heap.size, 2, none⟩ = some (.slice (some bd) nv cv) ∧ w'.cell? (bd.add j) = some (.int .u64 y)) (ds := [8]) #[false, false, false, false, false, false, false, false, false, false] (by kernel_rfl) rfl rfl ⟨C2.out, C1.out⟩ (fun hHeld => ?_)
        refine pure_ (i := 0) (N := some 27) (v := ?_) (a' := ?_) #[true, false, false, false, false, false, false, false, false, false] rfl rfl (by kernel_rfl) (fun _ _ _ h => h) (Or.inl ⟨by rfl, ?_⟩) ?_ ?_
        rotate_left
        · intro w'
          go_simp
          with_reducible rfl
        rotate_left
        · simp only [Act.put, List.setIfInBounds_toArray, List.set_cons_zero, List.set_cons_succ, i64_w, i32_w]
          rfl
        refine pure_ (i := 1) (N := some 28) (v := ?_) (a' := ?_) #[true, true, false, false, false, false, false, false, false, false] rfl rfl (by kernel_rfl) (fun _ _ _ h => h) (Or.inl ⟨by rfl, ?_⟩) ?_ ?_
        rotate_left
        · intro w'
          go_simp
          with_reducible rfl
        rotate_left
        · simp only [Act.put, List.setIfInBounds_toArray, List.set_cons_zero, List.set_cons_succ, i64_w, i32_w]
          rfl
        refine pure_ (i := 3) (N := some 30) (v := ?_) (a' := ?_) #[true, true, false, true, false, false, false, false, false, false] rfl rfl (by kernel_rfl) (fun _ _ _ h => h) (Or.inl ⟨by rfl, ?_⟩) ?_ ?_
        rotate_left
        · intro w'
          go_simp
          with_reducible rfl
        rotate_left
        · simp only [Act.put, List.setIfInBounds_toArray, List.set_cons_zero, List.set_cons_succ, i64_w, i32_w]
          rfl
        refine pure_ (i := 5) (N := some 32) (v := ?_) (a' := ?_) #[true, true, false, true, false, true, false, false, false, false] rfl rfl (by kernel_rfl) (fun _ _ _ h => h) (Or.inl ⟨by rfl, ?_⟩) ?_ ?_
        rotate_left
        · intro w'
          go_simp
          with_reducible rfl
        rotate_left
        · simp only [Act.put, List.setIfInBounds_toArray, List.set_cons_zero, List.set_cons_succ, i64_w, i32_w]
          rfl
        refine take_ (i := 4) (N := some 31) (v := ?_) (a' := ?_) #[true, true, false, true, true, true, false, false, false, false] rfl rfl (by kernel_rfl) (fun _ _ _ h => h) (Or.inl ⟨by rfl, ?_⟩) hHeld ?_ ?_
        rotate_left
        · rintro w' ⟨s0, s1⟩
          go_simp
          with_reducible rfl
        rotate_left
        · simp only [Act.put, List.setIfInBounds_toArray, List.set_cons_zero, List.set_cons_succ, i64_w, i32_w]
          rfl
        refine pure_ (i := 6) (N := some 33) (v := ?_) (a' := ?_) #[true, true, false, true, true, true, true, false, false, false] rfl rfl (by kernel_rfl) (fun _ _ _ h => h) (Or.inl ⟨by rfl, ?_⟩) ?_ ?_
        rotate_left
        · intro w'
          go_simp
          with_reducible rfl
        rotate_left
        · simp only [Act.put, List.setIfInBounds_toArray, List.set_cons_zero, List.set_cons_succ, i64_w, i32_w]
          rfl
        refine take_ (i := 7) (N := some 34) (v := ?_) (a' := ?_) #[true, true, false, true, true, true, true, true, false, false] rfl rfl (by kernel_rfl) (fun _ _ _ h => h) (Or.inl ⟨by rfl, ?_⟩) hHeld ?_ ?_
        rotate_left
        · rintro w' ⟨s0, s1⟩
          go_simp
          with_reducible rfl
        rotate_left
        · simp only [Act.put, List.setIfInBounds_toArray, List.set_cons_zero, List.set_cons_succ, i64_w, i32_w]
          rfl
        refine one_ (i := 2) (N := some 29) #[true, true, true, true, true, true, true, true, false, false] rfl rfl (by kernel_rfl) (by decide) (fun K hK => ?_)
        refine goes_ Try.func53 (by kernel_rfl) rfl #[.slice A n c, .int .u64 x, .int .i64 8] (by rfl) rfl rfl (by simp only [List.map_toArray, List.map_cons, List.map_nil]; rfl) ?_
        with_reducible refine (put_row _ _ _ _ _ _ (reads_drew RO.out) (by have := HS.out; omega)).mono ?_
        rintro e w5 ⟨A5, c5, rfl, ho, hb⟩
        refine ⟨_, rfl, ?_⟩
        have O5 := Lib.hid ho
        have D5 := Lib.hid (below_then (below_drew HB.out) (below_drew HB.out).size hb)
        have X2 := Lib.hid (pw_cell_below hb C2.out)
        have X1 := Lib.hid (pw_cell_below hb C1.out)
        have RO5 := Lib.hid (reads_own_of ho (by rw [List.length_append, List.length_append, pairs_len, be_length, HN.out]; rfl) rfl)
        clear ho hb
        refine hK.out _ _ ⟨X2.out, X1.out⟩ (fun hHeld => ?_)
        clear hK K
        refine norm_ (a' := ?_) ?_ ?_
        rotate_left
        · show Act.put _ (some 29) _ = _
          simp only [Act.put, List.setIfInBounds_toArray, List.set_cons_zero, List.set_cons_succ, i64_w, i32_w]
          rfl
        refine last_ (i := 8) (N := some 35) #[true, true, true, true, true, true, true, true, true, false] rfl rfl (by kernel_rfl) (by decide) (fun K hK => ?_)
        refine goes_ Try.func53 (by kernel_rfl) rfl #[.slice A5 (n + 8) c5, .int .u64 y, .int .i64 8] (by rfl) rfl rfl (by simp only [List.map_toArray, List.map_cons, List.map_nil]; rfl) ?_
        with_reducible refine (put_row _ _ _ _ _ _ RO5.out (by have := HS.out; omega)).mono ?_
        rintro e w6 ⟨A6, c6, rfl, ho, hb⟩
        refine ⟨_, rfl, ?_⟩
        have O6 := Lib.hid ho
        have D6 := Lib.hid (below_then D5.out D5.out.size hb)
        clear ho hb
        refine hK.out _ _ ?_
        clear hK K
        refine norm_ (a' := ?_) ?_ ?_
        rotate_left
        · show Act.put _ (some 35) _ = _
          simp only [Act.put, List.setIfInBounds_toArray, List.set_cons_zero, List.set_cons_succ, i64_w, i32_w]
          rfl
        refine pure_ (i := 9) (N := some 4) (v := ?_) (a' := ?_) #[true, true, true, true, true, true, true, true, true, true] rfl rfl (by kernel_rfl) (fun _ _ _ h => h) (Or.inl ⟨by rfl, ?_⟩) ?_ ?_
        rotate_left
        · intro w'
          go_simp
          with_reducible rfl
        rotate_left
        · simp only [Act.put, List.setIfInBounds_toArray, List.set_cons_zero, List.set_cons_succ, i64_w, i32_w]
          rfl
        refine done_ (by kernel_rfl) ?_
        go_wp2_with fail
        go_roundw
        case rel =>
          refine ⟨j + 1, n + 8 + 8, A6, c6, by omega, by go_num, by have := HN.out; omega, rfl, ?_, D6.out⟩
          have h := own_weaken O6.out (show w2.heap.size ≤ w5.heap.size from D5.out.size)
          rw [pairs_succ, ← HX.out, ← HY.out]
          simpa only [List.append_assoc] using h
        case measure => simp [intOf]; omega
      · obtain rfl : j = nk := by omega
        clear hj hlt
        go_wp2_with fail
        go_ret2
        refine ⟨A, c, ?_, ?_, below_then B2.out B2.out.size HB.out⟩
        · rw [← HN.out]; rfl
        · have h := own_weaken HO.out B2.out.size
          rw [HN.out] at h
          simpa only [formN, LK.out] using h
end Go.Proofs.Ytdekplalhfpooaa.Nod
