/- Knots: the document's one, Insert, Set, Remove, by their contracts (every input). -/
import Derived.BigQuiet
import Derived.Test.YtdekplalhfpooaaKntY
set_option linter.unusedVariables false
set_option linter.unusedSimpArgs false
namespace Go.Proofs.Ytdekplalhfpooaa.Knt
open Go Go.RowKit Go.Proofs.YtdekplalhfpooaaW.PrintWords Go.Proofs.YtdekplalhfpooaaW.PrintLast Go.Proofs.YtdekplalhfpooaaW.PrintMore Base Odr Hlp Nod Go.Proofs.Ytdekplalhfpooaa.Inv

theorem mine_one {W : World} {base g : Nat} {x : Int} (hg : W.heap[g]? = some (.cells #[.int .u64 x] 25)) (hb : base ≤ g) : Mine W base (some ⟨g, 0, none⟩) 1 [x] :=
  ⟨rfl, by simp [maxLen], fun _ => ⟨g, 0, [], [], rfl, hb, rfl, hg⟩⟩
set_option maxRecDepth 100000 in
theorem rone_at (key val : Int) (w : World) : Calls Try.prog 64 #[.int .u64 key, .int .u64 val] w fun e w' => N1 w w' e false 1 1 [key] [val] := by
  obtain ⟨w1, hw1, b1, f1, s1⟩ := made w #[.bool false, .slice none 0 0, .slice none 0 0] 24
  obtain ⟨w2, hw2, b2, f2, s2⟩ := made w1 #[.int .u64 key] 25
  obtain ⟨w3, hw3, b3, f3, s3⟩ := made w2 #[.int .u64 val] 25
  have B3 := Lib.hid (below_then' (below_then' b1 b2) b3)
  have P3 := Lib.hid (keep_row (keep_row f1 b2) b3)
  have K3 := Lib.hid (keep_row f2 b3)
  have V3 := Lib.hid f3
  have SZ := Lib.hid (show w.heap.size < w1.heap.size ∧ w1.heap.size < w2.heap.size by omega)
  clear b1 f1 s1 b2 f2 s2 b3 f3 s3
  go_enter Try.func64, Try.ntmps64
  go_wp2_with ((with_reducible refine wpList_store_row rfl 24 (.tmp 4) (.tmp 9) rfl w.heap.size #[.bool false, .slice (some ⟨w1.heap.size, 0, none⟩) 1 1, .slice (some ⟨w2.heap.size, 0, none⟩) 1 1] ?_ ?_ 24 _ P3.out (size3 _ _ _) ?_ (one3 _ _ _ _ _ _ _) ?_); rfl; rfl; rfl)
  have o1 : (w3.setRow w.heap.size #[.bool false, .slice (some ⟨w1.heap.size, 0, none⟩) 1 1, .slice (some ⟨w2.heap.size, 0, none⟩) 1 1]).heap[w1.heap.size]? = some (.cells #[.int .u64 key] 25) := by rw [setRow_other _ _ _ _ (by have := SZ.out; omega)]; exact K3.out
  have o2 : (w3.setRow w.heap.size #[.bool false, .slice (some ⟨w1.heap.size, 0, none⟩) 1 1, .slice (some ⟨w2.heap.size, 0, none⟩) 1 1]).heap[w2.heap.size]? = some (.cells #[.int .u64 val] 25) := by rw [setRow_other _ _ _ _ (by have := SZ.out; omega)]; exact V3.out
  exact ret_c 4 rfl w.heap.size _ (0, 0) rfl (setRow_heap _ _ _ _ _ _ P3.out) rfl rfl ⟨_, 1, _, 1, rfl, ⟨mine_one o1 (by have := SZ.out; omega), mine_one o2 (by have := SZ.out; omega), fun _ _ a a' h h' => by injection h with h; injection h' with h'; subst h; subst h'; have := SZ.out; show w1.heap.size ≠ w2.heap.size; omega, Nat.le_refl _, Nat.le_refl _, (fun h => by cases h), (fun h => by cases h)⟩, below_setRow B3.out (Nat.le_refl _) _⟩
theorem part_int (L : Bool) (Ks Vs : List Int) (ak av : Option Addr) (nk ck nv cv f t d : Nat) (fi ti : Int) (w : World) (HK : ReadsInt w .u64 ak nk Ks) (HV : ReadsInt w .u64 av nv Vs) (hfi : fi = (f : Int)) (hti : ti = (t : Int)) (hd : f + d = t) (htk : t ≤ nk) (htv : t ≤ nv) (hs : t * 8 ≤ 140737488355328) :
    Calls Try.prog 52 #[.agg #[.bool L, .slice ak nk ck, .slice av nv cv], .int .i64 fi, .int .i64 ti] w fun e w' => N1 w w' e L d d (cut Ks f t) (cut Vs f t) := by
  subst hfi; subst hti
  exact (part_own L Ks Vs ak av nk ck nv cv f t d w HK HV hd htk htv hs).mono fun e w' h => no_own h
theorem join_n (L L2 : Bool) (X Y X2 Y2 : List Int) (A B A2 B2 : Option Addr) (n c e n2 c2 e2 q base base2 : Nat) (w : World) (o1 : Own2 w base A c B e n n X Y) (o2 : Own2 w base2 A2 c2 B2 e2 n2 n2 X2 Y2) (hq : n + n2 = q) (hs : q * 8 ≤ 140737488355328) :
    Calls Try.prog 25 #[.agg #[.bool L, .slice A n c, .slice B n e], .agg #[.bool L2, .slice A2 n2 c2, .slice B2 n2 e2]] w fun e w' => N1 w w' e L q q (X ++ X2) (Y ++ Y2) := by
  have h := rjoin_n1 L L2 X Y X2 Y2 A B A2 B2 n c n e n2 c2 n2 e2 n n2 q w (mine_reads o1.k) (mine_reads o1.v) (mine_reads o2.k) (mine_reads o2.v) (Nat.min_self _) (Nat.min_self _) hq hs
  rw [List.take_of_length_le (Nat.le_of_eq o1.k.1), List.take_of_length_le (Nat.le_of_eq o1.v.1), List.take_of_length_le (Nat.le_of_eq o2.k.1), List.take_of_length_le (Nat.le_of_eq o2.v.1)] at h
  exact h
theorem cut0 (Ks : List Int) (i : Nat) : cut Ks 0 i = Ks.take i := rfl
theorem ins_eq {Ks : List Int} {m i : Nat} {at_ x : Int} (hl : (Ks.take m).length = m) (hi : min at_.toNat m = i) : (cut Ks 0 i ++ [x]) ++ cut Ks i m = insL (Ks.take m) at_ x := by
  unfold insL
  rw [hl, hi, cut0, List.take_take, Nat.min_eq_left (by omega), List.append_assoc]; rfl
theorem set_eq {Ks : List Int} {m i : Nat} {x : Int} (hl : (Ks.take m).length = m) (hi : i < m) : (cut Ks 0 i ++ [x]) ++ cut Ks (i + 1) m = setL (Ks.take m) (i : Int) x := by
  unfold setL
  rw [hl, if_pos (by omega), Int.toNat_natCast, cut0, List.take_take, Nat.min_eq_left (by omega), List.append_assoc]; rfl
theorem rem_eq {Ks : List Int} {m i : Nat} (hl : (Ks.take m).length = m) (hi : i < m) : cut Ks 0 i ++ cut Ks (i + 1) m = remL (Ks.take m) (i : Int) := by
  unfold remL
  rw [hl, if_pos (by omega), Int.toNat_natCast, cut0, List.take_take, Nat.min_eq_left (by omega)]; rfl
set_option maxRecDepth 100000 in
set_option maxHeartbeats 3200000 in
theorem rins_lo (L : Bool) (Ks Vs : List Int) (ak av : Option Addr) (nk ck nv cv m : Nat) (at_ key val : Int) (w : World) (HK : ReadsInt w .u64 ak nk Ks) (HV : ReadsInt w .u64 av nv Vs) (hm : min nk nv = m) (hs : (m + 1) * 8 ≤ 140737488355328) (h : at_ < 0) :
    Calls Try.prog 41 #[.agg #[.bool L, .slice ak nk ck, .slice av nv cv], .int .i64 at_, .int .u64 key, .int .u64 val] w fun e w' => N1 w w' e L (m + 1) (m + 1) ((cut Ks 0 0 ++ [key]) ++ cut Ks 0 m) ((cut Vs 0 0 ++ [val]) ++ cut Vs 0 m) := by
  obtain ⟨w1, hw1, b1, f1, s1⟩ := made w #[.bool L, .slice ak nk ck, .slice av nv cv] 24
  obtain ⟨w2, hw2, b2, f2, s2⟩ := made w1 #[.bool false, .slice none 0 0, .slice none 0 0] 24
  have B2 := Lib.hid (below_then' b1 b2)
  have P2 := Lib.hid (keep_row f1 b2)
  have Q2 := Lib.hid f2
  have SZ := Lib.hid (show w.heap.size < w1.heap.size ∧ w1.heap.size < w2.heap.size by omega)
  have Z2 := Lib.hid (Nat.le_refl w2.heap.size)
  have RK := Lib.hid (And.intro HK HV)
  have HN := Lib.hid (And.intro HK.2.1 HV.2.1)
  have HM := Lib.hid (And.intro hm hs)
  have HLK := Lib.hid (show (Ks.take m).length = m by rw [List.length_take, HK.1]; omega)
  have HLV := Lib.hid (show (Vs.take m).length = m by rw [List.length_take, HV.1]; omega)
  obtain ⟨d, hd⟩ : ∃ d, m - 0 = d := ⟨_, rfl⟩
  have HE := Lib.hid (show 0 ≤ m ∧ m ≤ nk ∧ m ≤ nv ∧ 0 + d = m by omega)
  have d1 : decide (at_ < 0) = true := decide_eq_true (by omega)
  have d2 : decide ((m : Int) < 0) = false := decide_eq_false (by omega)
  clear b1 f1 s1 b2 f2 s2 HK HV hm hs h hd
  go_enter Try.func41, Try.ntmps41
  go_wp2_with ((with_reducible refine wpList_load_row rfl 24 (.tmp 4) rfl w.heap.size ?_ 24 _ _ _ P2.out Try.underlying24 ?_ (size3 _ _ _) ?_); rfl; rfl)
  clear hw1 hw2
  refine (pairs_at L ak av nk ck nv cv m _ HM.out.1 HN.out.1 HN.out.2).mono ?_; rintro e w3 ⟨rfl, hb⟩
  have B3 := Lib.hid (below_then' B2.out hb)
  have P3 := Lib.hid (keep_row P2.out hb)
  have Q3 := Lib.hid (keep_row Q2.out hb)
  have Z3 := Lib.hid (Nat.le_trans Z2.out hb.size)
  clear hb
  go_wp2_with ((with_reducible refine wpList_load_row rfl 24 (.tmp 4) rfl w.heap.size ?_ 24 _ _ _ P3.out Try.underlying24 ?_ (size3 _ _ _) ?_); rfl; rfl)
  refine (part_int L Ks Vs ak av nk ck nv cv 0 0 0 0 0 _ (RK.out.1.below B3.out) (RK.out.2.below B3.out) (by omega) (by omega) (by have := HE.out; omega) (by have := HE.out; omega) (by have := HE.out; omega) (by have := HE.out; have := HM.out.2; omega)).mono ?_; rintro e w4 ⟨A4, c4, A4x, c4x, rfl, ho, hb⟩
  have B4 := Lib.hid (below_then' B3.out hb)
  have P4 := Lib.hid (keep_row P3.out hb)
  have Q4 := Lib.hid (keep_row Q3.out hb)
  have Z4 := Lib.hid (Nat.le_trans Z3.out hb.size)
  have O4_4 := Lib.hid ho
  clear hb ho
  go_wp2_with fail
  refine (rone_at key val _).mono ?_; rintro e w5 ⟨A5, c5, A5x, c5x, rfl, ho, hb⟩
  have B5 := Lib.hid (below_then' B4.out hb)
  have P5 := Lib.hid (keep_row P4.out hb)
  have Q5 := Lib.hid (keep_row Q4.out hb)
  have O4_5 := Lib.hid (own2_below O4_4.out hb)
  have Z5 := Lib.hid (Nat.le_trans Z4.out hb.size)
  have O5_5 := Lib.hid ho
  clear hb ho
  go_wp2_with fail
  refine (join_n L false _ _ _ _ A4 A4x A5 A5x 0 c4 c4x 1 c5 c5x (0 + 1) _ _ _ O4_5.out O5_5.out rfl (by have := HE.out; have := HM.out.2; omega)).mono ?_; rintro e w6 ⟨A6, c6, A6x, c6x, rfl, ho, hb⟩
  have B6 := Lib.hid (below_then' B5.out hb)
  have P6 := Lib.hid (keep_row P5.out hb)
  have Q6 := Lib.hid (keep_row Q5.out hb)
  have O4_6 := Lib.hid (own2_below O4_5.out hb)
  have O5_6 := Lib.hid (own2_below O5_5.out hb)
  have Z6 := Lib.hid (Nat.le_trans Z5.out hb.size)
  have O6_6 := Lib.hid ho
  clear hb ho
  obtain ⟨ya, hya⟩ : ∃ x, w6.alloc (.cells #[.bool false, .slice none 0 0, .slice none 0 0] 24) = x := ⟨_, rfl⟩
  obtain ⟨w7, hyb⟩ : ∃ x, ya.setRow w6.heap.size #[.bool L, .slice A6 (0 + 1) c6, .slice A6x (0 + 1) c6x] = x := ⟨_, rfl⟩
  have X := Lib.hid (one_row hya hyb)
  have B7 := Lib.hid (below_then' B6.out X.out.1)
  have P7 := Lib.hid (keep_row P6.out X.out.1)
  have Q7 := Lib.hid (keep_row Q6.out X.out.1)
  have N7 := Lib.hid X.out.2.2
  have Z7 := Lib.hid (Nat.le_trans Z6.out X.out.1.size)
  have O4_7 := Lib.hid (own2_below O4_6.out X.out.1)
  have O5_7 := Lib.hid (own2_below O5_6.out X.out.1)
  have O6_7 := Lib.hid (own2_below O6_6.out X.out.1)
  go_wp2_with (first | ((with_reducible refine wpList_store_row rfl 24 (.tmp 9) (.tmp 24) rfl w6.heap.size #[.bool L, .slice A6 (0 + 1) c6, .slice A6x (0 + 1) c6x] ?_ ?_ 24 _ X.out.2.1 (size3 _ _ _) ?_ (one3 _ _ _ _ _ _ _) ?_); rfl; rfl; rfl; rw [hyb]))
  clear hya hyb X
  have B8 := Lib.hid (below_drew B7.out)
  have Z8 := Lib.hid (show w2.heap.size ≤ w7.drew.heap.size from Z7.out)
  have P8 := Lib.hid (keep_row (w' := w7.drew) P7.out (below_drew (Below.refl _ _)))
  have Q8 := Lib.hid (keep_row (w' := w7.drew) Q7.out (below_drew (Below.refl _ _)))
  have N8 := Lib.hid (keep_row (w' := w7.drew) N7.out (below_drew (Below.refl _ _)))
  have O4_8 := Lib.hid (own2_below (w' := w7.drew) O4_7.out (below_drew (Below.refl _ _)))
  have O5_8 := Lib.hid (own2_below (w' := w7.drew) O5_7.out (below_drew (Below.refl _ _)))
  have O6_8 := Lib.hid (own2_below (w' := w7.drew) O6_7.out (below_drew (Below.refl _ _)))
  refine start_ (n := 8) (S := fun w' => w'.cell? ⟨w6.heap.size, 0, none⟩ = some (.bool L) ∧ w'.cell? ⟨w6.heap.size, 1, none⟩ = some (.slice A6 (0 + 1) c6) ∧ w'.cell? ⟨w6.heap.size, 2, none⟩ = some (.slice A6x (0 + 1) c6x) ∧ w'.cell? ⟨w.heap.size, 0, none⟩ = some (.bool L) ∧ w'.cell? ⟨w.heap.size, 1, none⟩ = some (.slice ak nk ck) ∧ w'.cell? ⟨w.heap.size, 2, none⟩ = some (.slice av nv cv)) (ds := [7]) #[false, false, false, false, false, false, false, false] (by kernel_rfl) rfl rfl ⟨cell_row N7.out rfl, cell_row N7.out rfl, cell_row N7.out rfl, cell_row P7.out rfl, cell_row P7.out rfl, cell_row P7.out rfl⟩ (fun hHeld => ?_)
  refine pure_ (i := 2) (N := some 27) (v := ?_) (a' := ?_) #[false, false, true, false, false, false, false, false] rfl rfl (by kernel_rfl) (fun _ _ _ h => h) (Or.inl ⟨by rfl, ?_⟩) ?_ ?_
  rotate_left
  · intro w'
    go_simp
    with_reducible rfl
  rotate_left
  · simp only [Act.put, List.setIfInBounds_toArray, List.set_cons_zero, List.set_cons_succ, i64_w, i32_w]
    rfl
  refine take_ (i := 0) (N := some 25) (v := ?_) (a' := ?_) #[true, false, true, false, false, false, false, false] rfl rfl (by kernel_rfl) (fun _ _ _ h => h) (Or.inl ⟨by rfl, ?_⟩) hHeld ?_ ?_
  rotate_left
  · rintro w' ⟨s0, s1, s2, s3, s4, s5⟩
    go_simp
    with_reducible rfl
  rotate_left
  · simp only [Act.put, List.setIfInBounds_toArray, List.set_cons_zero, List.set_cons_succ, i64_w, i32_w]
    rfl
  refine take_ (i := 1) (N := some 26) (v := ?_) (a' := ?_) #[true, true, true, false, false, false, false, false] rfl rfl (by kernel_rfl) (fun _ _ _ h => h) (Or.inl ⟨by rfl, ?_⟩) hHeld ?_ ?_
  rotate_left
  · rintro w' ⟨s0, s1, s2, s3, s4, s5⟩
    go_simp
    with_reducible rfl
  rotate_left
  · simp only [Act.put, List.setIfInBounds_toArray, List.set_cons_zero, List.set_cons_succ, i64_w, i32_w]
    rfl
  refine take_ (i := 3) (N := some 28) (v := ?_) (a' := ?_) #[true, true, true, true, false, false, false, false] rfl rfl (by kernel_rfl) (fun _ _ _ h => h) (Or.inl ⟨by rfl, ?_⟩) hHeld ?_ ?_
  rotate_left
  · rintro w' ⟨s0, s1, s2, s3, s4, s5⟩
    go_simp
    with_reducible rfl
  rotate_left
  · simp only [Act.put, List.setIfInBounds_toArray, List.set_cons_zero, List.set_cons_succ, i64_w, i32_w]
    rfl
  refine one_ (i := 4) (N := some 29) #[true, true, true, true, true, false, false, false] rfl rfl (by kernel_rfl) (by decide) (fun K hK => ?_)
  refine goes_ Try.func46 (by kernel_rfl) rfl #[.agg #[.bool L, .slice ak nk ck, .slice av nv cv]] (by rfl) rfl rfl (by simp only [List.map_toArray, List.map_cons, List.map_nil]; rfl) ?_
  with_reducible refine (pairs_at L ak av nk ck nv cv m _ HM.out.1 HN.out.1 HN.out.2).mono ?_
  rintro e w9 ⟨rfl, hb⟩
  refine ⟨_, rfl, ?_⟩
  have B9 := Lib.hid (below_then' B8.out hb)
  have Z9 := Lib.hid (Nat.le_trans Z8.out hb.size)
  have P9 := Lib.hid (keep_row P8.out hb)
  have Q9 := Lib.hid (keep_row Q8.out hb)
  have N9 := Lib.hid (keep_row N8.out hb)
  have O4_9 := Lib.hid (own2_below O4_8.out hb)
  have O5_9 := Lib.hid (own2_below O5_8.out hb)
  have O6_9 := Lib.hid (own2_below O6_8.out hb)
  clear hb
  refine hK.out _ _ ⟨cell_row N9.out rfl, cell_row N9.out rfl, cell_row N9.out rfl, cell_row P9.out rfl, cell_row P9.out rfl, cell_row P9.out rfl⟩ (fun hHeld => ?_)
  clear hK K
  refine norm_ (a' := ?_) ?_ ?_
  rotate_left
  · show Act.put _ (some 29) _ = _
    simp only [Act.put, List.setIfInBounds_toArray, List.set_cons_zero, List.set_cons_succ, i64_w, i32_w]
    rfl
  refine one_ (i := 5) (N := some 30) #[true, true, true, true, true, true, false, false] rfl rfl (by kernel_rfl) (by decide) (fun K hK => ?_)
  refine goes_ Try.func52 (by kernel_rfl) rfl #[.agg #[.bool L, .slice ak nk ck, .slice av nv cv], .int .i64 0, .int .i64 (m : Int)] (by rfl) rfl rfl (by simp only [List.map_toArray, List.map_cons, List.map_nil]; rfl) ?_
  with_reducible refine (part_int L Ks Vs ak av nk ck nv cv 0 m d 0 (m : Int) _ (RK.out.1.below B9.out) (RK.out.2.below B9.out) (by omega) (by omega) (by have := HE.out; omega) (by have := HE.out; omega) (by have := HE.out; omega) (by have := HE.out; have := HM.out.2; omega)).mono ?_
  rintro e w10 ⟨A10, c10, A10x, c10x, rfl, ho, hb⟩
  refine ⟨_, rfl, ?_⟩
  have B10 := Lib.hid (below_then' B9.out hb)
  have Z10 := Lib.hid (Nat.le_trans Z9.out hb.size)
  have P10 := Lib.hid (keep_row P9.out hb)
  have Q10 := Lib.hid (keep_row Q9.out hb)
  have N10 := Lib.hid (keep_row N9.out hb)
  have O4_10 := Lib.hid (own2_below O4_9.out hb)
  have O5_10 := Lib.hid (own2_below O5_9.out hb)
  have O6_10 := Lib.hid (own2_below O6_9.out hb)
  have O10_10 := Lib.hid ho
  clear hb ho
  refine hK.out _ _ ⟨cell_row N10.out rfl, cell_row N10.out rfl, cell_row N10.out rfl, cell_row P10.out rfl, cell_row P10.out rfl, cell_row P10.out rfl⟩ (fun hHeld => ?_)
  clear hK K
  refine norm_ (a' := ?_) ?_ ?_
  rotate_left
  · show Act.put _ (some 30) _ = _
    simp only [Act.put, List.setIfInBounds_toArray, List.set_cons_zero, List.set_cons_succ, i64_w, i32_w]
    rfl
  refine one_ (i := 6) (N := some 31) #[true, true, true, true, true, true, true, false] rfl rfl (by kernel_rfl) (by decide) (fun K hK => ?_)
  refine goes_ Try.func25 (by kernel_rfl) rfl #[.agg #[.bool L, .slice A6 (0 + 1) c6, .slice A6x (0 + 1) c6x], .agg #[.bool L, .slice A10 d c10, .slice A10x d c10x]] (by rfl) rfl rfl (by simp only [List.map_toArray, List.map_cons, List.map_nil]; rfl) ?_
  with_reducible refine (join_n L L _ _ _ _ A6 A6x A10 A10x (0 + 1) c6 c6x d c10 c10x (m + 1) _ _ _ O6_10.out O10_10.out (by have := HE.out; omega) (by have := HE.out; have := HM.out.2; omega)).mono ?_
  rintro e w11 ⟨A11, c11, A11x, c11x, rfl, ho, hb⟩
  refine ⟨_, rfl, ?_⟩
  have B11 := Lib.hid (below_then' B10.out hb)
  have Z11 := Lib.hid (Nat.le_trans Z10.out hb.size)
  have P11 := Lib.hid (keep_row P10.out hb)
  have Q11 := Lib.hid (keep_row Q10.out hb)
  have N11 := Lib.hid (keep_row N10.out hb)
  have O4_11 := Lib.hid (own2_below O4_10.out hb)
  have O5_11 := Lib.hid (own2_below O5_10.out hb)
  have O6_11 := Lib.hid (own2_below O6_10.out hb)
  have O10_11 := Lib.hid (own2_below O10_10.out hb)
  have O11_11 := Lib.hid ho
  clear hb ho
  refine hK.out _ _ ⟨cell_row N11.out rfl, cell_row N11.out rfl, cell_row N11.out rfl, cell_row P11.out rfl, cell_row P11.out rfl, cell_row P11.out rfl⟩ (fun hHeld => ?_)
  clear hK K
  refine norm_ (a' := ?_) ?_ ?_
  rotate_left
  · show Act.put _ (some 31) _ = _
    simp only [Act.put, List.setIfInBounds_toArray, List.set_cons_zero, List.set_cons_succ, i64_w, i32_w]
    rfl
  refine last_ (i := 7) (N := none) #[true, true, true, true, true, true, true, true] rfl rfl (by kernel_rfl) (by decide) (fun K hK => ?_)
  refine skip_ (w1 := w11.setRow w1.heap.size #[.bool L, .slice A11 (m + 1) c11, .slice A11x (m + 1) c11x]) (by rfl) rfl (exec_store_row 24 _ _ rfl w1.heap.size #[.bool L, .slice A11 (m + 1) c11, .slice A11x (m + 1) c11x] (by rfl) (by rfl) 24 _ Q11.out (size3 _ _ _) rfl (one3 _ _ _ _ _ _ _)) ?_
  refine hK.out _ _ ?_
  clear hK K
  refine done_ (by kernel_rfl) ?_
  obtain ⟨wz, hwz⟩ : ∃ x, w11.setRow w1.heap.size #[.bool L, .slice A11 (m + 1) c11, .slice A11x (m + 1) c11x] = x := ⟨_, rfl⟩
  have qz : wz.heap[w1.heap.size]? = some (.cells #[.bool L, .slice A11 (m + 1) c11, .slice A11x (m + 1) c11x] 24) := by rw [← hwz]; exact setRow_heap _ _ _ _ _ _ Q11.out
  have ho := own2_setRow (own2_weaken O11_11.out Z10.out) SZ.out.2 #[.bool L, .slice A11 (m + 1) c11, .slice A11x (m + 1) c11x]
  rw [hwz] at ho
  have hbz : Below w.heap.size w wz := by rw [← hwz]; exact below_setRow B11.out (Nat.le_of_lt SZ.out.1) _
  rw [hwz]
  clear hwz
  go_wp2_with fail
  exact ret_c 8 rfl w1.heap.size #[.bool L, .slice A11 (m + 1) c11, .slice A11x (m + 1) c11x] (0, 0) rfl qz rfl rfl ⟨_, _, _, _, rfl, own2_weaken ho (by have := SZ.out; omega), hbz⟩
set_option maxRecDepth 100000 in
set_option maxHeartbeats 3200000 in
theorem rins_mid (L : Bool) (Ks Vs : List Int) (ak av : Option Addr) (nk ck nv cv m i : Nat) (key val : Int) (w : World) (HK : ReadsInt w .u64 ak nk Ks) (HV : ReadsInt w .u64 av nv Vs) (hm : min nk nv = m) (hs : (m + 1) * 8 ≤ 140737488355328) (h : i ≤ m) :
    Calls Try.prog 41 #[.agg #[.bool L, .slice ak nk ck, .slice av nv cv], .int .i64 (i : Int), .int .u64 key, .int .u64 val] w fun e w' => N1 w w' e L (m + 1) (m + 1) ((cut Ks 0 i ++ [key]) ++ cut Ks i m) ((cut Vs 0 i ++ [val]) ++ cut Vs i m) := by
  obtain ⟨w1, hw1, b1, f1, s1⟩ := made w #[.bool L, .slice ak nk ck, .slice av nv cv] 24
  obtain ⟨w2, hw2, b2, f2, s2⟩ := made w1 #[.bool false, .slice none 0 0, .slice none 0 0] 24
  have B2 := Lib.hid (below_then' b1 b2)
  have P2 := Lib.hid (keep_row f1 b2)
  have Q2 := Lib.hid f2
  have SZ := Lib.hid (show w.heap.size < w1.heap.size ∧ w1.heap.size < w2.heap.size by omega)
  have Z2 := Lib.hid (Nat.le_refl w2.heap.size)
  have RK := Lib.hid (And.intro HK HV)
  have HN := Lib.hid (And.intro HK.2.1 HV.2.1)
  have HM := Lib.hid (And.intro hm hs)
  have HLK := Lib.hid (show (Ks.take m).length = m by rw [List.length_take, HK.1]; omega)
  have HLV := Lib.hid (show (Vs.take m).length = m by rw [List.length_take, HV.1]; omega)
  obtain ⟨d, hd⟩ : ∃ d, m - i = d := ⟨_, rfl⟩
  have HE := Lib.hid (show i ≤ m ∧ m ≤ nk ∧ m ≤ nv ∧ i + d = m by omega)
  have d1 : decide ((i : Int) < 0) = false := decide_eq_false (by omega)
  have d2n : decide (m < i) = false := decide_eq_false (by omega)
  have d2 : decide ((m : Int) < (i : Int)) = false := decide_eq_false (by omega)
  clear b1 f1 s1 b2 f2 s2 HK HV hm hs h hd
  go_enter Try.func41, Try.ntmps41
  go_wp2_with ((with_reducible refine wpList_load_row rfl 24 (.tmp 4) rfl w.heap.size ?_ 24 _ _ _ P2.out Try.underlying24 ?_ (size3 _ _ _) ?_); rfl; rfl)
  clear hw1 hw2
  refine (pairs_at L ak av nk ck nv cv m _ HM.out.1 HN.out.1 HN.out.2).mono ?_; rintro e w3 ⟨rfl, hb⟩
  have B3 := Lib.hid (below_then' B2.out hb)
  have P3 := Lib.hid (keep_row P2.out hb)
  have Q3 := Lib.hid (keep_row Q2.out hb)
  have Z3 := Lib.hid (Nat.le_trans Z2.out hb.size)
  clear hb
  go_wp2_with ((with_reducible refine wpList_load_row rfl 24 (.tmp 4) rfl w.heap.size ?_ 24 _ _ _ P3.out Try.underlying24 ?_ (size3 _ _ _) ?_); rfl; rfl)
  refine (part_int L Ks Vs ak av nk ck nv cv 0 i i 0 (i : Int) _ (RK.out.1.below B3.out) (RK.out.2.below B3.out) (by omega) (by omega) (by have := HE.out; omega) (by have := HE.out; omega) (by have := HE.out; omega) (by have := HE.out; have := HM.out.2; omega)).mono ?_; rintro e w4 ⟨A4, c4, A4x, c4x, rfl, ho, hb⟩
  have B4 := Lib.hid (below_then' B3.out hb)
  have P4 := Lib.hid (keep_row P3.out hb)
  have Q4 := Lib.hid (keep_row Q3.out hb)
  have Z4 := Lib.hid (Nat.le_trans Z3.out hb.size)
  have O4_4 := Lib.hid ho
  clear hb ho
  go_wp2_with fail
  refine (rone_at key val _).mono ?_; rintro e w5 ⟨A5, c5, A5x, c5x, rfl, ho, hb⟩
  have B5 := Lib.hid (below_then' B4.out hb)
  have P5 := Lib.hid (keep_row P4.out hb)
  have Q5 := Lib.hid (keep_row Q4.out hb)
  have O4_5 := Lib.hid (own2_below O4_4.out hb)
  have Z5 := Lib.hid (Nat.le_trans Z4.out hb.size)
  have O5_5 := Lib.hid ho
  clear hb ho
  go_wp2_with fail
  refine (join_n L false _ _ _ _ A4 A4x A5 A5x i c4 c4x 1 c5 c5x (i + 1) _ _ _ O4_5.out O5_5.out rfl (by have := HE.out; have := HM.out.2; omega)).mono ?_; rintro e w6 ⟨A6, c6, A6x, c6x, rfl, ho, hb⟩
  have B6 := Lib.hid (below_then' B5.out hb)
  have P6 := Lib.hid (keep_row P5.out hb)
  have Q6 := Lib.hid (keep_row Q5.out hb)
  have O4_6 := Lib.hid (own2_below O4_5.out hb)
  have O5_6 := Lib.hid (own2_below O5_5.out hb)
  have Z6 := Lib.hid (Nat.le_trans Z5.out hb.size)
  have O6_6 := Lib.hid ho
  clear hb ho
  obtain ⟨ya, hya⟩ : ∃ x, w6.alloc (.cells #[.bool false, .slice none 0 0, .slice none 0 0] 24) = x := ⟨_, rfl⟩
  obtain ⟨w7, hyb⟩ : ∃ x, ya.setRow w6.heap.size #[.bool L, .slice A6 (i + 1) c6, .slice A6x (i + 1) c6x] = x := ⟨_, rfl⟩
  have X := Lib.hid (one_row hya hyb)
  have B7 := Lib.hid (below_then' B6.out X.out.1)
  have P7 := Lib.hid (keep_row P6.out X.out.1)
  have Q7 := Lib.hid (keep_row Q6.out X.out.1)
  have N7 := Lib.hid X.out.2.2
  have Z7 := Lib.hid (Nat.le_trans Z6.out X.out.1.size)
  have O4_7 := Lib.hid (own2_below O4_6.out X.out.1)
  have O5_7 := Lib.hid (own2_below O5_6.out X.out.1)
  have O6_7 := Lib.hid (own2_below O6_6.out X.out.1)
  go_wp2_with (first | ((with_reducible refine wpList_store_row rfl 24 (.tmp 9) (.tmp 24) rfl w6.heap.size #[.bool L, .slice A6 (i + 1) c6, .slice A6x (i + 1) c6x] ?_ ?_ 24 _ X.out.2.1 (size3 _ _ _) ?_ (one3 _ _ _ _ _ _ _) ?_); rfl; rfl; rfl; rw [hyb]))
  clear hya hyb X
  have B8 := Lib.hid (below_drew B7.out)
  have Z8 := Lib.hid (show w2.heap.size ≤ w7.drew.heap.size from Z7.out)
  have P8 := Lib.hid (keep_row (w' := w7.drew) P7.out (below_drew (Below.refl _ _)))
  have Q8 := Lib.hid (keep_row (w' := w7.drew) Q7.out (below_drew (Below.refl _ _)))
  have N8 := Lib.hid (keep_row (w' := w7.drew) N7.out (below_drew (Below.refl _ _)))
  have O4_8 := Lib.hid (own2_below (w' := w7.drew) O4_7.out (below_drew (Below.refl _ _)))
  have O5_8 := Lib.hid (own2_below (w' := w7.drew) O5_7.out (below_drew (Below.refl _ _)))
  have O6_8 := Lib.hid (own2_below (w' := w7.drew) O6_7.out (below_drew (Below.refl _ _)))
  refine start_ (n := 8) (S := fun w' => w'.cell? ⟨w6.heap.size, 0, none⟩ = some (.bool L) ∧ w'.cell? ⟨w6.heap.size, 1, none⟩ = some (.slice A6 (i + 1) c6) ∧ w'.cell? ⟨w6.heap.size, 2, none⟩ = some (.slice A6x (i + 1) c6x) ∧ w'.cell? ⟨w.heap.size, 0, none⟩ = some (.bool L) ∧ w'.cell? ⟨w.heap.size, 1, none⟩ = some (.slice ak nk ck) ∧ w'.cell? ⟨w.heap.size, 2, none⟩ = some (.slice av nv cv)) (ds := [7]) #[false, false, false, false, false, false, false, false] (by kernel_rfl) rfl rfl ⟨cell_row N7.out rfl, cell_row N7.out rfl, cell_row N7.out rfl, cell_row P7.out rfl, cell_row P7.out rfl, cell_row P7.out rfl⟩ (fun hHeld => ?_)
  refine pure_ (i := 2) (N := some 27) (v := ?_) (a' := ?_) #[false, false, true, false, false, false, false, false] rfl rfl (by kernel_rfl) (fun _ _ _ h => h) (Or.inl ⟨by rfl, ?_⟩) ?_ ?_
  rotate_left
  · intro w'
    go_simp
    with_reducible rfl
  rotate_left
  · simp only [Act.put, List.setIfInBounds_toArray, List.set_cons_zero, List.set_cons_succ, i64_w, i32_w]
    rfl
  refine take_ (i := 0) (N := some 25) (v := ?_) (a' := ?_) #[true, false, true, false, false, false, false, false] rfl rfl (by kernel_rfl) (fun _ _ _ h => h) (Or.inl ⟨by rfl, ?_⟩) hHeld ?_ ?_
  rotate_left
  · rintro w' ⟨s0, s1, s2, s3, s4, s5⟩
    go_simp
    with_reducible rfl
  rotate_left
  · simp only [Act.put, List.setIfInBounds_toArray, List.set_cons_zero, List.set_cons_succ, i64_w, i32_w]
    rfl
  refine take_ (i := 1) (N := some 26) (v := ?_) (a' := ?_) #[true, true, true, false, false, false, false, false] rfl rfl (by kernel_rfl) (fun _ _ _ h => h) (Or.inl ⟨by rfl, ?_⟩) hHeld ?_ ?_
  rotate_left
  · rintro w' ⟨s0, s1, s2, s3, s4, s5⟩
    go_simp
    with_reducible rfl
  rotate_left
  · simp only [Act.put, List.setIfInBounds_toArray, List.set_cons_zero, List.set_cons_succ, i64_w, i32_w]
    rfl
  refine take_ (i := 3) (N := some 28) (v := ?_) (a' := ?_) #[true, true, true, true, false, false, false, false] rfl rfl (by kernel_rfl) (fun _ _ _ h => h) (Or.inl ⟨by rfl, ?_⟩) hHeld ?_ ?_
  rotate_left
  · rintro w' ⟨s0, s1, s2, s3, s4, s5⟩
    go_simp
    with_reducible rfl
  rotate_left
  · simp only [Act.put, List.setIfInBounds_toArray, List.set_cons_zero, List.set_cons_succ, i64_w, i32_w]
    rfl
  refine one_ (i := 4) (N := some 29) #[true, true, true, true, true, false, false, false] rfl rfl (by kernel_rfl) (by decide) (fun K hK => ?_)
  refine goes_ Try.func46 (by kernel_rfl) rfl #[.agg #[.bool L, .slice ak nk ck, .slice av nv cv]] (by rfl) rfl rfl (by simp only [List.map_toArray, List.map_cons, List.map_nil]; rfl) ?_
  with_reducible refine (pairs_at L ak av nk ck nv cv m _ HM.out.1 HN.out.1 HN.out.2).mono ?_
  rintro e w9 ⟨rfl, hb⟩
  refine ⟨_, rfl, ?_⟩
  have B9 := Lib.hid (below_then' B8.out hb)
  have Z9 := Lib.hid (Nat.le_trans Z8.out hb.size)
  have P9 := Lib.hid (keep_row P8.out hb)
  have Q9 := Lib.hid (keep_row Q8.out hb)
  have N9 := Lib.hid (keep_row N8.out hb)
  have O4_9 := Lib.hid (own2_below O4_8.out hb)
  have O5_9 := Lib.hid (own2_below O5_8.out hb)
  have O6_9 := Lib.hid (own2_below O6_8.out hb)
  clear hb
  refine hK.out _ _ ⟨cell_row N9.out rfl, cell_row N9.out rfl, cell_row N9.out rfl, cell_row P9.out rfl, cell_row P9.out rfl, cell_row P9.out rfl⟩ (fun hHeld => ?_)
  clear hK K
  refine norm_ (a' := ?_) ?_ ?_
  rotate_left
  · show Act.put _ (some 29) _ = _
    simp only [Act.put, List.setIfInBounds_toArray, List.set_cons_zero, List.set_cons_succ, i64_w, i32_w]
    rfl
  refine one_ (i := 5) (N := some 30) #[true, true, true, true, true, true, false, false] rfl rfl (by kernel_rfl) (by decide) (fun K hK => ?_)
  refine goes_ Try.func52 (by kernel_rfl) rfl #[.agg #[.bool L, .slice ak nk ck, .slice av nv cv], .int .i64 (i : Int), .int .i64 (m : Int)] (by rfl) rfl rfl (by simp only [List.map_toArray, List.map_cons, List.map_nil]; rfl) ?_
  with_reducible refine (part_int L Ks Vs ak av nk ck nv cv i m d (i : Int) (m : Int) _ (RK.out.1.below B9.out) (RK.out.2.below B9.out) (by omega) (by omega) (by have := HE.out; omega) (by have := HE.out; omega) (by have := HE.out; omega) (by have := HE.out; have := HM.out.2; omega)).mono ?_
  rintro e w10 ⟨A10, c10, A10x, c10x, rfl, ho, hb⟩
  refine ⟨_, rfl, ?_⟩
  have B10 := Lib.hid (below_then' B9.out hb)
  have Z10 := Lib.hid (Nat.le_trans Z9.out hb.size)
  have P10 := Lib.hid (keep_row P9.out hb)
  have Q10 := Lib.hid (keep_row Q9.out hb)
  have N10 := Lib.hid (keep_row N9.out hb)
  have O4_10 := Lib.hid (own2_below O4_9.out hb)
  have O5_10 := Lib.hid (own2_below O5_9.out hb)
  have O6_10 := Lib.hid (own2_below O6_9.out hb)
  have O10_10 := Lib.hid ho
  clear hb ho
  refine hK.out _ _ ⟨cell_row N10.out rfl, cell_row N10.out rfl, cell_row N10.out rfl, cell_row P10.out rfl, cell_row P10.out rfl, cell_row P10.out rfl⟩ (fun hHeld => ?_)
  clear hK K
  refine norm_ (a' := ?_) ?_ ?_
  rotate_left
  · show Act.put _ (some 30) _ = _
    simp only [Act.put, List.setIfInBounds_toArray, List.set_cons_zero, List.set_cons_succ, i64_w, i32_w]
    rfl
  refine one_ (i := 6) (N := some 31) #[true, true, true, true, true, true, true, false] rfl rfl (by kernel_rfl) (by decide) (fun K hK => ?_)
  refine goes_ Try.func25 (by kernel_rfl) rfl #[.agg #[.bool L, .slice A6 (i + 1) c6, .slice A6x (i + 1) c6x], .agg #[.bool L, .slice A10 d c10, .slice A10x d c10x]] (by rfl) rfl rfl (by simp only [List.map_toArray, List.map_cons, List.map_nil]; rfl) ?_
  with_reducible refine (join_n L L _ _ _ _ A6 A6x A10 A10x (i + 1) c6 c6x d c10 c10x (m + 1) _ _ _ O6_10.out O10_10.out (by have := HE.out; omega) (by have := HE.out; have := HM.out.2; omega)).mono ?_
  rintro e w11 ⟨A11, c11, A11x, c11x, rfl, ho, hb⟩
  refine ⟨_, rfl, ?_⟩
  have B11 := Lib.hid (below_then' B10.out hb)
  have Z11 := Lib.hid (Nat.le_trans Z10.out hb.size)
  have P11 := Lib.hid (keep_row P10.out hb)
  have Q11 := Lib.hid (keep_row Q10.out hb)
  have N11 := Lib.hid (keep_row N10.out hb)
  have O4_11 := Lib.hid (own2_below O4_10.out hb)
  have O5_11 := Lib.hid (own2_below O5_10.out hb)
  have O6_11 := Lib.hid (own2_below O6_10.out hb)
  have O10_11 := Lib.hid (own2_below O10_10.out hb)
  have O11_11 := Lib.hid ho
  clear hb ho
  refine hK.out _ _ ⟨cell_row N11.out rfl, cell_row N11.out rfl, cell_row N11.out rfl, cell_row P11.out rfl, cell_row P11.out rfl, cell_row P11.out rfl⟩ (fun hHeld => ?_)
  clear hK K
  refine norm_ (a' := ?_) ?_ ?_
  rotate_left
  · show Act.put _ (some 31) _ = _
    simp only [Act.put, List.setIfInBounds_toArray, List.set_cons_zero, List.set_cons_succ, i64_w, i32_w]
    rfl
  refine last_ (i := 7) (N := none) #[true, true, true, true, true, true, true, true] rfl rfl (by kernel_rfl) (by decide) (fun K hK => ?_)
  refine skip_ (w1 := w11.setRow w1.heap.size #[.bool L, .slice A11 (m + 1) c11, .slice A11x (m + 1) c11x]) (by rfl) rfl (exec_store_row 24 _ _ rfl w1.heap.size #[.bool L, .slice A11 (m + 1) c11, .slice A11x (m + 1) c11x] (by rfl) (by rfl) 24 _ Q11.out (size3 _ _ _) rfl (one3 _ _ _ _ _ _ _)) ?_
  refine hK.out _ _ ?_
  clear hK K
  refine done_ (by kernel_rfl) ?_
  obtain ⟨wz, hwz⟩ : ∃ x, w11.setRow w1.heap.size #[.bool L, .slice A11 (m + 1) c11, .slice A11x (m + 1) c11x] = x := ⟨_, rfl⟩
  have qz : wz.heap[w1.heap.size]? = some (.cells #[.bool L, .slice A11 (m + 1) c11, .slice A11x (m + 1) c11x] 24) := by rw [← hwz]; exact setRow_heap _ _ _ _ _ _ Q11.out
  have ho := own2_setRow (own2_weaken O11_11.out Z10.out) SZ.out.2 #[.bool L, .slice A11 (m + 1) c11, .slice A11x (m + 1) c11x]
  rw [hwz] at ho
  have hbz : Below w.heap.size w wz := by rw [← hwz]; exact below_setRow B11.out (Nat.le_of_lt SZ.out.1) _
  rw [hwz]
  clear hwz
  go_wp2_with fail
  exact ret_c 8 rfl w1.heap.size #[.bool L, .slice A11 (m + 1) c11, .slice A11x (m + 1) c11x] (0, 0) rfl qz rfl rfl ⟨_, _, _, _, rfl, own2_weaken ho (by have := SZ.out; omega), hbz⟩
set_option maxRecDepth 100000 in
set_option maxHeartbeats 3200000 in
theorem rins_hi (L : Bool) (Ks Vs : List Int) (ak av : Option Addr) (nk ck nv cv m : Nat) (at_ key val : Int) (w : World) (HK : ReadsInt w .u64 ak nk Ks) (HV : ReadsInt w .u64 av nv Vs) (hm : min nk nv = m) (hs : (m + 1) * 8 ≤ 140737488355328) (h : (m : Int) < at_) :
    Calls Try.prog 41 #[.agg #[.bool L, .slice ak nk ck, .slice av nv cv], .int .i64 at_, .int .u64 key, .int .u64 val] w fun e w' => N1 w w' e L (m + 1) (m + 1) ((cut Ks 0 m ++ [key]) ++ cut Ks m m) ((cut Vs 0 m ++ [val]) ++ cut Vs m m) := by
  obtain ⟨w1, hw1, b1, f1, s1⟩ := made w #[.bool L, .slice ak nk ck, .slice av nv cv] 24
  obtain ⟨w2, hw2, b2, f2, s2⟩ := made w1 #[.bool false, .slice none 0 0, .slice none 0 0] 24
  have B2 := Lib.hid (below_then' b1 b2)
  have P2 := Lib.hid (keep_row f1 b2)
  have Q2 := Lib.hid f2
  have SZ := Lib.hid (show w.heap.size < w1.heap.size ∧ w1.heap.size < w2.heap.size by omega)
  have Z2 := Lib.hid (Nat.le_refl w2.heap.size)
  have RK := Lib.hid (And.intro HK HV)
  have HN := Lib.hid (And.intro HK.2.1 HV.2.1)
  have HM := Lib.hid (And.intro hm hs)
  have HLK := Lib.hid (show (Ks.take m).length = m by rw [List.length_take, HK.1]; omega)
  have HLV := Lib.hid (show (Vs.take m).length = m by rw [List.length_take, HV.1]; omega)
  obtain ⟨d, hd⟩ : ∃ d, m - m = d := ⟨_, rfl⟩
  have HE := Lib.hid (show m ≤ m ∧ m ≤ nk ∧ m ≤ nv ∧ m + d = m by omega)
  have d1 : decide (at_ < 0) = false := decide_eq_false (by omega)
  have d2 : decide ((m : Int) < at_) = true := decide_eq_true (by omega)
  clear b1 f1 s1 b2 f2 s2 HK HV hm hs h hd
  go_enter Try.func41, Try.ntmps41
  go_wp2_with ((with_reducible refine wpList_load_row rfl 24 (.tmp 4) rfl w.heap.size ?_ 24 _ _ _ P2.out Try.underlying24 ?_ (size3 _ _ _) ?_); rfl; rfl)
  clear hw1 hw2
  refine (pairs_at L ak av nk ck nv cv m _ HM.out.1 HN.out.1 HN.out.2).mono ?_; rintro e w3 ⟨rfl, hb⟩
  have B3 := Lib.hid (below_then' B2.out hb)
  have P3 := Lib.hid (keep_row P2.out hb)
  have Q3 := Lib.hid (keep_row Q2.out hb)
  have Z3 := Lib.hid (Nat.le_trans Z2.out hb.size)
  clear hb
  go_wp2_with ((with_reducible refine wpList_load_row rfl 24 (.tmp 4) rfl w.heap.size ?_ 24 _ _ _ P3.out Try.underlying24 ?_ (size3 _ _ _) ?_); rfl; rfl)
  refine (pairs_at L ak av nk ck nv cv m _ HM.out.1 HN.out.1 HN.out.2).mono ?_; rintro e w4 ⟨rfl, hb⟩
  have B4 := Lib.hid (below_then' B3.out hb)
  have P4 := Lib.hid (keep_row P3.out hb)
  have Q4 := Lib.hid (keep_row Q3.out hb)
  have Z4 := Lib.hid (Nat.le_trans Z3.out hb.size)
  clear hb
  go_wp2_with ((with_reducible refine wpList_load_row rfl 24 (.tmp 4) rfl w.heap.size ?_ 24 _ _ _ P4.out Try.underlying24 ?_ (size3 _ _ _) ?_); rfl; rfl)
  refine (part_int L Ks Vs ak av nk ck nv cv 0 m m 0 (m : Int) _ (RK.out.1.below B4.out) (RK.out.2.below B4.out) (by omega) (by omega) (by have := HE.out; omega) (by have := HE.out; omega) (by have := HE.out; omega) (by have := HE.out; have := HM.out.2; omega)).mono ?_; rintro e w5 ⟨A5, c5, A5x, c5x, rfl, ho, hb⟩
  have B5 := Lib.hid (below_then' B4.out hb)
  have P5 := Lib.hid (keep_row P4.out hb)
  have Q5 := Lib.hid (keep_row Q4.out hb)
  have Z5 := Lib.hid (Nat.le_trans Z4.out hb.size)
  have O5_5 := Lib.hid ho
  clear hb ho
  go_wp2_with fail
  refine (rone_at key val _).mono ?_; rintro e w6 ⟨A6, c6, A6x, c6x, rfl, ho, hb⟩
  have B6 := Lib.hid (below_then' B5.out hb)
  have P6 := Lib.hid (keep_row P5.out hb)
  have Q6 := Lib.hid (keep_row Q5.out hb)
  have O5_6 := Lib.hid (own2_below O5_5.out hb)
  have Z6 := Lib.hid (Nat.le_trans Z5.out hb.size)
  have O6_6 := Lib.hid ho
  clear hb ho
  go_wp2_with fail
  refine (join_n L false _ _ _ _ A5 A5x A6 A6x m c5 c5x 1 c6 c6x (m + 1) _ _ _ O5_6.out O6_6.out rfl (by have := HE.out; have := HM.out.2; omega)).mono ?_; rintro e w7 ⟨A7, c7, A7x, c7x, rfl, ho, hb⟩
  have B7 := Lib.hid (below_then' B6.out hb)
  have P7 := Lib.hid (keep_row P6.out hb)
  have Q7 := Lib.hid (keep_row Q6.out hb)
  have O5_7 := Lib.hid (own2_below O5_6.out hb)
  have O6_7 := Lib.hid (own2_below O6_6.out hb)
  have Z7 := Lib.hid (Nat.le_trans Z6.out hb.size)
  have O7_7 := Lib.hid ho
  clear hb ho
  obtain ⟨ya, hya⟩ : ∃ x, w7.alloc (.cells #[.bool false, .slice none 0 0, .slice none 0 0] 24) = x := ⟨_, rfl⟩
  obtain ⟨w8, hyb⟩ : ∃ x, ya.setRow w7.heap.size #[.bool L, .slice A7 (m + 1) c7, .slice A7x (m + 1) c7x] = x := ⟨_, rfl⟩
  have X := Lib.hid (one_row hya hyb)
  have B8 := Lib.hid (below_then' B7.out X.out.1)
  have P8 := Lib.hid (keep_row P7.out X.out.1)
  have Q8 := Lib.hid (keep_row Q7.out X.out.1)
  have N8 := Lib.hid X.out.2.2
  have Z8 := Lib.hid (Nat.le_trans Z7.out X.out.1.size)
  have O5_8 := Lib.hid (own2_below O5_7.out X.out.1)
  have O6_8 := Lib.hid (own2_below O6_7.out X.out.1)
  have O7_8 := Lib.hid (own2_below O7_7.out X.out.1)
  go_wp2_with (first | ((with_reducible refine wpList_store_row rfl 24 (.tmp 9) (.tmp 24) rfl w7.heap.size #[.bool L, .slice A7 (m + 1) c7, .slice A7x (m + 1) c7x] ?_ ?_ 24 _ X.out.2.1 (size3 _ _ _) ?_ (one3 _ _ _ _ _ _ _) ?_); rfl; rfl; rfl; rw [hyb]))
  clear hya hyb X
  have B9 := Lib.hid (below_drew B8.out)
  have Z9 := Lib.hid (show w2.heap.size ≤ w8.drew.heap.size from Z8.out)
  have P9 := Lib.hid (keep_row (w' := w8.drew) P8.out (below_drew (Below.refl _ _)))
  have Q9 := Lib.hid (keep_row (w' := w8.drew) Q8.out (below_drew (Below.refl _ _)))
  have N9 := Lib.hid (keep_row (w' := w8.drew) N8.out (below_drew (Below.refl _ _)))
  have O5_9 := Lib.hid (own2_below (w' := w8.drew) O5_8.out (below_drew (Below.refl _ _)))
  have O6_9 := Lib.hid (own2_below (w' := w8.drew) O6_8.out (below_drew (Below.refl _ _)))
  have O7_9 := Lib.hid (own2_below (w' := w8.drew) O7_8.out (below_drew (Below.refl _ _)))
  refine start_ (n := 8) (S := fun w' => w'.cell? ⟨w7.heap.size, 0, none⟩ = some (.bool L) ∧ w'.cell? ⟨w7.heap.size, 1, none⟩ = some (.slice A7 (m + 1) c7) ∧ w'.cell? ⟨w7.heap.size, 2, none⟩ = some (.slice A7x (m + 1) c7x) ∧ w'.cell? ⟨w.heap.size, 0, none⟩ = some (.bool L) ∧ w'.cell? ⟨w.heap.size, 1, none⟩ = some (.slice ak nk ck) ∧ w'.cell? ⟨w.heap.size, 2, none⟩ = some (.slice av nv cv)) (ds := [7]) #[false, false, false, false, false, false, false, false] (by kernel_rfl) rfl rfl ⟨cell_row N8.out rfl, cell_row N8.out rfl, cell_row N8.out rfl, cell_row P8.out rfl, cell_row P8.out rfl, cell_row P8.out rfl⟩ (fun hHeld => ?_)
  refine pure_ (i := 2) (N := some 27) (v := ?_) (a' := ?_) #[false, false, true, false, false, false, false, false] rfl rfl (by kernel_rfl) (fun _ _ _ h => h) (Or.inl ⟨by rfl, ?_⟩) ?_ ?_
  rotate_left
  · intro w'
    go_simp
    with_reducible rfl
  rotate_left
  · simp only [Act.put, List.setIfInBounds_toArray, List.set_cons_zero, List.set_cons_succ, i64_w, i32_w]
    rfl
  refine take_ (i := 0) (N := some 25) (v := ?_) (a' := ?_) #[true, false, true, false, false, false, false, false] rfl rfl (by kernel_rfl) (fun _ _ _ h => h) (Or.inl ⟨by rfl, ?_⟩) hHeld ?_ ?_
  rotate_left
  · rintro w' ⟨s0, s1, s2, s3, s4, s5⟩
    go_simp
    with_reducible rfl
  rotate_left
  · simp only [Act.put, List.setIfInBounds_toArray, List.set_cons_zero, List.set_cons_succ, i64_w, i32_w]
    rfl
  refine take_ (i := 1) (N := some 26) (v := ?_) (a' := ?_) #[true, true, true, false, false, false, false, false] rfl rfl (by kernel_rfl) (fun _ _ _ h => h) (Or.inl ⟨by rfl, ?_⟩) hHeld ?_ ?_
  rotate_left
  · rintro w' ⟨s0, s1, s2, s3, s4, s5⟩
    go_simp
    with_reducible rfl
  rotate_left
  · simp only [Act.put, List.setIfInBounds_toArray, List.set_cons_zero, List.set_cons_succ, i64_w, i32_w]
    rfl
  refine take_ (i := 3) (N := some 28) (v := ?_) (a' := ?_) #[true, true, true, true, false, false, false, false] rfl rfl (by kernel_rfl) (fun _ _ _ h => h) (Or.inl ⟨by rfl, ?_⟩) hHeld ?_ ?_
  rotate_left
  · rintro w' ⟨s0, s1, s2, s3, s4, s5⟩
    go_simp
    with_reducible rfl
  rotate_left
  · simp only [Act.put, List.setIfInBounds_toArray, List.set_cons_zero, List.set_cons_succ, i64_w, i32_w]
    rfl
  refine one_ (i := 4) (N := some 29) #[true, true, true, true, true, false, false, false] rfl rfl (by kernel_rfl) (by decide) (fun K hK => ?_)
  refine goes_ Try.func46 (by kernel_rfl) rfl #[.agg #[.bool L, .slice ak nk ck, .slice av nv cv]] (by rfl) rfl rfl (by simp only [List.map_toArray, List.map_cons, List.map_nil]; rfl) ?_
  with_reducible refine (pairs_at L ak av nk ck nv cv m _ HM.out.1 HN.out.1 HN.out.2).mono ?_
  rintro e w10 ⟨rfl, hb⟩
  refine ⟨_, rfl, ?_⟩
  have B10 := Lib.hid (below_then' B9.out hb)
  have Z10 := Lib.hid (Nat.le_trans Z9.out hb.size)
  have P10 := Lib.hid (keep_row P9.out hb)
  have Q10 := Lib.hid (keep_row Q9.out hb)
  have N10 := Lib.hid (keep_row N9.out hb)
  have O5_10 := Lib.hid (own2_below O5_9.out hb)
  have O6_10 := Lib.hid (own2_below O6_9.out hb)
  have O7_10 := Lib.hid (own2_below O7_9.out hb)
  clear hb
  refine hK.out _ _ ⟨cell_row N10.out rfl, cell_row N10.out rfl, cell_row N10.out rfl, cell_row P10.out rfl, cell_row P10.out rfl, cell_row P10.out rfl⟩ (fun hHeld => ?_)
  clear hK K
  refine norm_ (a' := ?_) ?_ ?_
  rotate_left
  · show Act.put _ (some 29) _ = _
    simp only [Act.put, List.setIfInBounds_toArray, List.set_cons_zero, List.set_cons_succ, i64_w, i32_w]
    rfl
  refine one_ (i := 5) (N := some 30) #[true, true, true, true, true, true, false, false] rfl rfl (by kernel_rfl) (by decide) (fun K hK => ?_)
  refine goes_ Try.func52 (by kernel_rfl) rfl #[.agg #[.bool L, .slice ak nk ck, .slice av nv cv], .int .i64 (m : Int), .int .i64 (m : Int)] (by rfl) rfl rfl (by simp only [List.map_toArray, List.map_cons, List.map_nil]; rfl) ?_
  with_reducible refine (part_int L Ks Vs ak av nk ck nv cv m m d (m : Int) (m : Int) _ (RK.out.1.below B10.out) (RK.out.2.below B10.out) (by omega) (by omega) (by have := HE.out; omega) (by have := HE.out; omega) (by have := HE.out; omega) (by have := HE.out; have := HM.out.2; omega)).mono ?_
  rintro e w11 ⟨A11, c11, A11x, c11x, rfl, ho, hb⟩
  refine ⟨_, rfl, ?_⟩
  have B11 := Lib.hid (below_then' B10.out hb)
  have Z11 := Lib.hid (Nat.le_trans Z10.out hb.size)
  have P11 := Lib.hid (keep_row P10.out hb)
  have Q11 := Lib.hid (keep_row Q10.out hb)
  have N11 := Lib.hid (keep_row N10.out hb)
  have O5_11 := Lib.hid (own2_below O5_10.out hb)
  have O6_11 := Lib.hid (own2_below O6_10.out hb)
  have O7_11 := Lib.hid (own2_below O7_10.out hb)
  have O11_11 := Lib.hid ho
  clear hb ho
  refine hK.out _ _ ⟨cell_row N11.out rfl, cell_row N11.out rfl, cell_row N11.out rfl, cell_row P11.out rfl, cell_row P11.out rfl, cell_row P11.out rfl⟩ (fun hHeld => ?_)
  clear hK K
  refine norm_ (a' := ?_) ?_ ?_
  rotate_left
  · show Act.put _ (some 30) _ = _
    simp only [Act.put, List.setIfInBounds_toArray, List.set_cons_zero, List.set_cons_succ, i64_w, i32_w]
    rfl
  refine one_ (i := 6) (N := some 31) #[true, true, true, true, true, true, true, false] rfl rfl (by kernel_rfl) (by decide) (fun K hK => ?_)
  refine goes_ Try.func25 (by kernel_rfl) rfl #[.agg #[.bool L, .slice A7 (m + 1) c7, .slice A7x (m + 1) c7x], .agg #[.bool L, .slice A11 d c11, .slice A11x d c11x]] (by rfl) rfl rfl (by simp only [List.map_toArray, List.map_cons, List.map_nil]; rfl) ?_
  with_reducible refine (join_n L L _ _ _ _ A7 A7x A11 A11x (m + 1) c7 c7x d c11 c11x (m + 1) _ _ _ O7_11.out O11_11.out (by have := HE.out; omega) (by have := HE.out; have := HM.out.2; omega)).mono ?_
  rintro e w12 ⟨A12, c12, A12x, c12x, rfl, ho, hb⟩
  refine ⟨_, rfl, ?_⟩
  have B12 := Lib.hid (below_then' B11.out hb)
  have Z12 := Lib.hid (Nat.le_trans Z11.out hb.size)
  have P12 := Lib.hid (keep_row P11.out hb)
  have Q12 := Lib.hid (keep_row Q11.out hb)
  have N12 := Lib.hid (keep_row N11.out hb)
  have O5_12 := Lib.hid (own2_below O5_11.out hb)
  have O6_12 := Lib.hid (own2_below O6_11.out hb)
  have O7_12 := Lib.hid (own2_below O7_11.out hb)
  have O11_12 := Lib.hid (own2_below O11_11.out hb)
  have O12_12 := Lib.hid ho
  clear hb ho
  refine hK.out _ _ ⟨cell_row N12.out rfl, cell_row N12.out rfl, cell_row N12.out rfl, cell_row P12.out rfl, cell_row P12.out rfl, cell_row P12.out rfl⟩ (fun hHeld => ?_)
  clear hK K
  refine norm_ (a' := ?_) ?_ ?_
  rotate_left
  · show Act.put _ (some 31) _ = _
    simp only [Act.put, List.setIfInBounds_toArray, List.set_cons_zero, List.set_cons_succ, i64_w, i32_w]
    rfl
  refine last_ (i := 7) (N := none) #[true, true, true, true, true, true, true, true] rfl rfl (by kernel_rfl) (by decide) (fun K hK => ?_)
  refine skip_ (w1 := w12.setRow w1.heap.size #[.bool L, .slice A12 (m + 1) c12, .slice A12x (m + 1) c12x]) (by rfl) rfl (exec_store_row 24 _ _ rfl w1.heap.size #[.bool L, .slice A12 (m + 1) c12, .slice A12x (m + 1) c12x] (by rfl) (by rfl) 24 _ Q12.out (size3 _ _ _) rfl (one3 _ _ _ _ _ _ _)) ?_
  refine hK.out _ _ ?_
  clear hK K
  refine done_ (by kernel_rfl) ?_
  obtain ⟨wz, hwz⟩ : ∃ x, w12.setRow w1.heap.size #[.bool L, .slice A12 (m + 1) c12, .slice A12x (m + 1) c12x] = x := ⟨_, rfl⟩
  have qz : wz.heap[w1.heap.size]? = some (.cells #[.bool L, .slice A12 (m + 1) c12, .slice A12x (m + 1) c12x] 24) := by rw [← hwz]; exact setRow_heap _ _ _ _ _ _ Q12.out
  have ho := own2_setRow (own2_weaken O12_12.out Z11.out) SZ.out.2 #[.bool L, .slice A12 (m + 1) c12, .slice A12x (m + 1) c12x]
  rw [hwz] at ho
  have hbz : Below w.heap.size w wz := by rw [← hwz]; exact below_setRow B12.out (Nat.le_of_lt SZ.out.1) _
  rw [hwz]
  clear hwz
  go_wp2_with fail
  exact ret_c 8 rfl w1.heap.size #[.bool L, .slice A12 (m + 1) c12, .slice A12x (m + 1) c12x] (0, 0) rfl qz rfl rfl ⟨_, _, _, _, rfl, own2_weaken ho (by have := SZ.out; omega), hbz⟩
set_option maxRecDepth 100000 in
set_option maxHeartbeats 3200000 in
theorem rset_neg (L : Bool) (Ks Vs : List Int) (ak av : Option Addr) (nk ck nv cv m : Nat) (at_ key val : Int) (w : World) (HK : ReadsInt w .u64 ak nk Ks) (HV : ReadsInt w .u64 av nv Vs) (hm : min nk nv = m) (hs : (m + 1) * 8 ≤ 140737488355328) (h : at_ < 0) :
    Calls Try.prog 42 #[.agg #[.bool L, .slice ak nk ck, .slice av nv cv], .int .i64 at_, .int .u64 key, .int .u64 val] w fun e w' => N1 w w' e L m m (Ks.take m) (Vs.take m) := by
  obtain ⟨w1, hw1, b1, f1, s1⟩ := made w #[.bool L, .slice ak nk ck, .slice av nv cv] 24
  obtain ⟨w2, hw2, b2, f2, s2⟩ := made w1 #[.bool false, .slice none 0 0, .slice none 0 0] 24
  have B2 := Lib.hid (below_then' b1 b2)
  have P2 := Lib.hid (keep_row f1 b2)
  have Q2 := Lib.hid f2
  have SZ := Lib.hid (show w.heap.size < w1.heap.size ∧ w1.heap.size < w2.heap.size by omega)
  have Z2 := Lib.hid (Nat.le_refl w2.heap.size)
  have RK := Lib.hid (And.intro HK HV)
  have HN := Lib.hid (And.intro HK.2.1 HV.2.1)
  have HM := Lib.hid (And.intro hm hs)
  have HLK := Lib.hid (show (Ks.take m).length = m by rw [List.length_take, HK.1]; omega)
  have HLV := Lib.hid (show (Vs.take m).length = m by rw [List.length_take, HV.1]; omega)
  have HE := Lib.hid (show m ≤ nk ∧ m ≤ nv by omega)
  have d1 : decide (at_ < 0) = true := decide_eq_true (by omega)
  clear b1 f1 s1 b2 f2 s2 HK HV hm hs h
  go_enter Try.func42, Try.ntmps42
  go_wp2_with fail
  clear hw1 hw2
  have B3 := Lib.hid (below_drew B2.out)
  have Z3 := Lib.hid (show w2.heap.size ≤ w2.drew.heap.size from Z2.out)
  have P3 := Lib.hid (keep_row (w' := w2.drew) P2.out (below_drew (Below.refl _ _)))
  have Q3 := Lib.hid (keep_row (w' := w2.drew) Q2.out (below_drew (Below.refl _ _)))
  refine start_ (n := 5) (S := fun w' => w'.cell? ⟨w.heap.size, 0, none⟩ = some (.bool L) ∧ w'.cell? ⟨w.heap.size, 1, none⟩ = some (.slice ak nk ck) ∧ w'.cell? ⟨w.heap.size, 2, none⟩ = some (.slice av nv cv)) (ds := [4]) #[false, false, false, false, false] (by kernel_rfl) rfl rfl ⟨cell_row P2.out rfl, cell_row P2.out rfl, cell_row P2.out rfl⟩ (fun hHeld => ?_)
  refine take_ (i := 0) (N := some 18) (v := ?_) (a' := ?_) #[true, false, false, false, false] rfl rfl (by kernel_rfl) (fun _ _ _ h => h) (Or.inl ⟨by rfl, ?_⟩) hHeld ?_ ?_
  rotate_left
  · rintro w' ⟨s0, s1, s2⟩
    go_simp
    with_reducible rfl
  rotate_left
  · simp only [Act.put, List.setIfInBounds_toArray, List.set_cons_zero, List.set_cons_succ, i64_w, i32_w]
    rfl
  refine take_ (i := 1) (N := some 19) (v := ?_) (a' := ?_) #[true, true, false, false, false] rfl rfl (by kernel_rfl) (fun _ _ _ h => h) (Or.inl ⟨by rfl, ?_⟩) hHeld ?_ ?_
  rotate_left
  · rintro w' ⟨s0, s1, s2⟩
    go_simp
    with_reducible rfl
  rotate_left
  · simp only [Act.put, List.setIfInBounds_toArray, List.set_cons_zero, List.set_cons_succ, i64_w, i32_w]
    rfl
  refine one_ (i := 2) (N := some 20) #[true, true, true, false, false] rfl rfl (by kernel_rfl) (by decide) (fun K hK => ?_)
  refine goes_ Try.func46 (by kernel_rfl) rfl #[.agg #[.bool L, .slice ak nk ck, .slice av nv cv]] (by rfl) rfl rfl (by simp only [List.map_toArray, List.map_cons, List.map_nil]; rfl) ?_
  with_reducible refine (pairs_at L ak av nk ck nv cv m _ HM.out.1 HN.out.1 HN.out.2).mono ?_
  rintro e w4 ⟨rfl, hb⟩
  refine ⟨_, rfl, ?_⟩
  have B4 := Lib.hid (below_then' B3.out hb)
  have Z4 := Lib.hid (Nat.le_trans Z3.out hb.size)
  have P4 := Lib.hid (keep_row P3.out hb)
  have Q4 := Lib.hid (keep_row Q3.out hb)
  clear hb
  refine hK.out _ _ ⟨cell_row P4.out rfl, cell_row P4.out rfl, cell_row P4.out rfl⟩ (fun hHeld => ?_)
  clear hK K
  refine norm_ (a' := ?_) ?_ ?_
  rotate_left
  · show Act.put _ (some 20) _ = _
    simp only [Act.put, List.setIfInBounds_toArray, List.set_cons_zero, List.set_cons_succ, i64_w, i32_w]
    rfl
  refine one_ (i := 3) (N := some 21) #[true, true, true, true, false] rfl rfl (by kernel_rfl) (by decide) (fun K hK => ?_)
  refine goes_ Try.func52 (by kernel_rfl) rfl #[.agg #[.bool L, .slice ak nk ck, .slice av nv cv], .int .i64 0, .int .i64 (m : Int)] (by rfl) rfl rfl (by simp only [List.map_toArray, List.map_cons, List.map_nil]; rfl) ?_
  with_reducible refine (part_int L Ks Vs ak av nk ck nv cv 0 m m 0 (m : Int) _ (RK.out.1.below B4.out) (RK.out.2.below B4.out) (by omega) (by omega) (by have := HE.out; omega) (by have := HE.out; omega) (by have := HE.out; omega) (by have := HE.out; have := HM.out.2; omega)).mono ?_
  rintro e w5 ⟨A5, c5, A5x, c5x, rfl, ho, hb⟩
  refine ⟨_, rfl, ?_⟩
  have B5 := Lib.hid (below_then' B4.out hb)
  have Z5 := Lib.hid (Nat.le_trans Z4.out hb.size)
  have P5 := Lib.hid (keep_row P4.out hb)
  have Q5 := Lib.hid (keep_row Q4.out hb)
  have O5_5 := Lib.hid ho
  clear hb ho
  refine hK.out _ _ ⟨cell_row P5.out rfl, cell_row P5.out rfl, cell_row P5.out rfl⟩ (fun hHeld => ?_)
  clear hK K
  refine norm_ (a' := ?_) ?_ ?_
  rotate_left
  · show Act.put _ (some 21) _ = _
    simp only [Act.put, List.setIfInBounds_toArray, List.set_cons_zero, List.set_cons_succ, i64_w, i32_w]
    rfl
  refine last_ (i := 4) (N := none) #[true, true, true, true, true] rfl rfl (by kernel_rfl) (by decide) (fun K hK => ?_)
  refine skip_ (w1 := w5.setRow w1.heap.size #[.bool L, .slice A5 m c5, .slice A5x m c5x]) (by rfl) rfl (exec_store_row 24 _ _ rfl w1.heap.size #[.bool L, .slice A5 m c5, .slice A5x m c5x] (by rfl) (by rfl) 24 _ Q5.out (size3 _ _ _) rfl (one3 _ _ _ _ _ _ _)) ?_
  refine hK.out _ _ ?_
  clear hK K
  refine done_ (by kernel_rfl) ?_
  obtain ⟨wz, hwz⟩ : ∃ x, w5.setRow w1.heap.size #[.bool L, .slice A5 m c5, .slice A5x m c5x] = x := ⟨_, rfl⟩
  have qz : wz.heap[w1.heap.size]? = some (.cells #[.bool L, .slice A5 m c5, .slice A5x m c5x] 24) := by rw [← hwz]; exact setRow_heap _ _ _ _ _ _ Q5.out
  have ho := own2_setRow (own2_weaken O5_5.out Z4.out) SZ.out.2 #[.bool L, .slice A5 m c5, .slice A5x m c5x]
  rw [hwz] at ho
  have hbz : Below w.heap.size w wz := by rw [← hwz]; exact below_setRow B5.out (Nat.le_of_lt SZ.out.1) _
  rw [hwz]
  clear hwz
  go_wp2_with fail
  exact ret_c 8 rfl w1.heap.size #[.bool L, .slice A5 m c5, .slice A5x m c5x] (0, 0) rfl qz rfl rfl ⟨_, _, _, _, rfl, own2_weaken ho (by have := SZ.out; omega), hbz⟩
set_option maxRecDepth 100000 in
set_option maxHeartbeats 3200000 in
theorem rset_far (L : Bool) (Ks Vs : List Int) (ak av : Option Addr) (nk ck nv cv m : Nat) (at_ key val : Int) (w : World) (HK : ReadsInt w .u64 ak nk Ks) (HV : ReadsInt w .u64 av nv Vs) (hm : min nk nv = m) (hs : (m + 1) * 8 ≤ 140737488355328) (h0 : 0 ≤ at_) (h : (m : Int) ≤ at_) :
    Calls Try.prog 42 #[.agg #[.bool L, .slice ak nk ck, .slice av nv cv], .int .i64 at_, .int .u64 key, .int .u64 val] w fun e w' => N1 w w' e L m m (Ks.take m) (Vs.take m) := by
  obtain ⟨w1, hw1, b1, f1, s1⟩ := made w #[.bool L, .slice ak nk ck, .slice av nv cv] 24
  obtain ⟨w2, hw2, b2, f2, s2⟩ := made w1 #[.bool false, .slice none 0 0, .slice none 0 0] 24
  have B2 := Lib.hid (below_then' b1 b2)
  have P2 := Lib.hid (keep_row f1 b2)
  have Q2 := Lib.hid f2
  have SZ := Lib.hid (show w.heap.size < w1.heap.size ∧ w1.heap.size < w2.heap.size by omega)
  have Z2 := Lib.hid (Nat.le_refl w2.heap.size)
  have RK := Lib.hid (And.intro HK HV)
  have HN := Lib.hid (And.intro HK.2.1 HV.2.1)
  have HM := Lib.hid (And.intro hm hs)
  have HLK := Lib.hid (show (Ks.take m).length = m by rw [List.length_take, HK.1]; omega)
  have HLV := Lib.hid (show (Vs.take m).length = m by rw [List.length_take, HV.1]; omega)
  have HE := Lib.hid (show m ≤ nk ∧ m ≤ nv by omega)
  have d1 : decide (at_ < 0) = false := decide_eq_false (by omega)
  have d2 : decide ((m : Int) ≤ at_) = true := decide_eq_true (by omega)
  clear b1 f1 s1 b2 f2 s2 HK HV hm hs h h0
  go_enter Try.func42, Try.ntmps42
  have x0 : w2.cell? ⟨w.heap.size, 0, none⟩ = some (.bool L) := cell_row P2.out rfl
  have x1 : w2.cell? ⟨w.heap.size, 1, none⟩ = some (.slice ak nk ck) := cell_row P2.out rfl
  have x2 : w2.cell? ⟨w.heap.size, 2, none⟩ = some (.slice av nv cv) := cell_row P2.out rfl
  go_wp2_with fail
  clear x0 x1 x2
  clear hw1 hw2
  refine (pairs_at L ak av nk ck nv cv m _ HM.out.1 HN.out.1 HN.out.2).mono ?_; rintro e w3 ⟨rfl, hb⟩
  have B3 := Lib.hid (below_then' B2.out hb)
  have P3 := Lib.hid (keep_row P2.out hb)
  have Q3 := Lib.hid (keep_row Q2.out hb)
  have Z3 := Lib.hid (Nat.le_trans Z2.out hb.size)
  clear hb
  go_wp2_with fail
  have B4 := Lib.hid (below_drew B3.out)
  have Z4 := Lib.hid (show w2.heap.size ≤ w3.drew.heap.size from Z3.out)
  have P4 := Lib.hid (keep_row (w' := w3.drew) P3.out (below_drew (Below.refl _ _)))
  have Q4 := Lib.hid (keep_row (w' := w3.drew) Q3.out (below_drew (Below.refl _ _)))
  refine start_ (n := 5) (S := fun w' => w'.cell? ⟨w.heap.size, 0, none⟩ = some (.bool L) ∧ w'.cell? ⟨w.heap.size, 1, none⟩ = some (.slice ak nk ck) ∧ w'.cell? ⟨w.heap.size, 2, none⟩ = some (.slice av nv cv)) (ds := [4]) #[false, false, false, false, false] (by kernel_rfl) rfl rfl ⟨cell_row P3.out rfl, cell_row P3.out rfl, cell_row P3.out rfl⟩ (fun hHeld => ?_)
  refine take_ (i := 0) (N := some 18) (v := ?_) (a' := ?_) #[true, false, false, false, false] rfl rfl (by kernel_rfl) (fun _ _ _ h => h) (Or.inl ⟨by rfl, ?_⟩) hHeld ?_ ?_
  rotate_left
  · rintro w' ⟨s0, s1, s2⟩
    go_simp
    with_reducible rfl
  rotate_left
  · simp only [Act.put, List.setIfInBounds_toArray, List.set_cons_zero, List.set_cons_succ, i64_w, i32_w]
    rfl
  refine take_ (i := 1) (N := some 19) (v := ?_) (a' := ?_) #[true, true, false, false, false] rfl rfl (by kernel_rfl) (fun _ _ _ h => h) (Or.inl ⟨by rfl, ?_⟩) hHeld ?_ ?_
  rotate_left
  · rintro w' ⟨s0, s1, s2⟩
    go_simp
    with_reducible rfl
  rotate_left
  · simp only [Act.put, List.setIfInBounds_toArray, List.set_cons_zero, List.set_cons_succ, i64_w, i32_w]
    rfl
  refine one_ (i := 2) (N := some 20) #[true, true, true, false, false] rfl rfl (by kernel_rfl) (by decide) (fun K hK => ?_)
  refine goes_ Try.func46 (by kernel_rfl) rfl #[.agg #[.bool L, .slice ak nk ck, .slice av nv cv]] (by rfl) rfl rfl (by simp only [List.map_toArray, List.map_cons, List.map_nil]; rfl) ?_
  with_reducible refine (pairs_at L ak av nk ck nv cv m _ HM.out.1 HN.out.1 HN.out.2).mono ?_
  rintro e w5 ⟨rfl, hb⟩
  refine ⟨_, rfl, ?_⟩
  have B5 := Lib.hid (below_then' B4.out hb)
  have Z5 := Lib.hid (Nat.le_trans Z4.out hb.size)
  have P5 := Lib.hid (keep_row P4.out hb)
  have Q5 := Lib.hid (keep_row Q4.out hb)
  clear hb
  refine hK.out _ _ ⟨cell_row P5.out rfl, cell_row P5.out rfl, cell_row P5.out rfl⟩ (fun hHeld => ?_)
  clear hK K
  refine norm_ (a' := ?_) ?_ ?_
  rotate_left
  · show Act.put _ (some 20) _ = _
    simp only [Act.put, List.setIfInBounds_toArray, List.set_cons_zero, List.set_cons_succ, i64_w, i32_w]
    rfl
  refine one_ (i := 3) (N := some 21) #[true, true, true, true, false] rfl rfl (by kernel_rfl) (by decide) (fun K hK => ?_)
  refine goes_ Try.func52 (by kernel_rfl) rfl #[.agg #[.bool L, .slice ak nk ck, .slice av nv cv], .int .i64 0, .int .i64 (m : Int)] (by rfl) rfl rfl (by simp only [List.map_toArray, List.map_cons, List.map_nil]; rfl) ?_
  with_reducible refine (part_int L Ks Vs ak av nk ck nv cv 0 m m 0 (m : Int) _ (RK.out.1.below B5.out) (RK.out.2.below B5.out) (by omega) (by omega) (by have := HE.out; omega) (by have := HE.out; omega) (by have := HE.out; omega) (by have := HE.out; have := HM.out.2; omega)).mono ?_
  rintro e w6 ⟨A6, c6, A6x, c6x, rfl, ho, hb⟩
  refine ⟨_, rfl, ?_⟩
  have B6 := Lib.hid (below_then' B5.out hb)
  have Z6 := Lib.hid (Nat.le_trans Z5.out hb.size)
  have P6 := Lib.hid (keep_row P5.out hb)
  have Q6 := Lib.hid (keep_row Q5.out hb)
  have O6_6 := Lib.hid ho
  clear hb ho
  refine hK.out _ _ ⟨cell_row P6.out rfl, cell_row P6.out rfl, cell_row P6.out rfl⟩ (fun hHeld => ?_)
  clear hK K
  refine norm_ (a' := ?_) ?_ ?_
  rotate_left
  · show Act.put _ (some 21) _ = _
    simp only [Act.put, List.setIfInBounds_toArray, List.set_cons_zero, List.set_cons_succ, i64_w, i32_w]
    rfl
  refine last_ (i := 4) (N := none) #[true, true, true, true, true] rfl rfl (by kernel_rfl) (by decide) (fun K hK => ?_)
  refine skip_ (w1 := w6.setRow w1.heap.size #[.bool L, .slice A6 m c6, .slice A6x m c6x]) (by rfl) rfl (exec_store_row 24 _ _ rfl w1.heap.size #[.bool L, .slice A6 m c6, .slice A6x m c6x] (by rfl) (by rfl) 24 _ Q6.out (size3 _ _ _) rfl (one3 _ _ _ _ _ _ _)) ?_
  refine hK.out _ _ ?_
  clear hK K
  refine done_ (by kernel_rfl) ?_
  obtain ⟨wz, hwz⟩ : ∃ x, w6.setRow w1.heap.size #[.bool L, .slice A6 m c6, .slice A6x m c6x] = x := ⟨_, rfl⟩
  have qz : wz.heap[w1.heap.size]? = some (.cells #[.bool L, .slice A6 m c6, .slice A6x m c6x] 24) := by rw [← hwz]; exact setRow_heap _ _ _ _ _ _ Q6.out
  have ho := own2_setRow (own2_weaken O6_6.out Z5.out) SZ.out.2 #[.bool L, .slice A6 m c6, .slice A6x m c6x]
  rw [hwz] at ho
  have hbz : Below w.heap.size w wz := by rw [← hwz]; exact below_setRow B6.out (Nat.le_of_lt SZ.out.1) _
  rw [hwz]
  clear hwz
  go_wp2_with fail
  exact ret_c 8 rfl w1.heap.size #[.bool L, .slice A6 m c6, .slice A6x m c6x] (0, 0) rfl qz rfl rfl ⟨_, _, _, _, rfl, own2_weaken ho (by have := SZ.out; omega), hbz⟩
set_option maxRecDepth 100000 in
set_option maxHeartbeats 3200000 in
theorem rset_in (L : Bool) (Ks Vs : List Int) (ak av : Option Addr) (nk ck nv cv m i : Nat) (key val : Int) (w : World) (HK : ReadsInt w .u64 ak nk Ks) (HV : ReadsInt w .u64 av nv Vs) (hm : min nk nv = m) (hs : (m + 1) * 8 ≤ 140737488355328) (h : i < m) :
    Calls Try.prog 42 #[.agg #[.bool L, .slice ak nk ck, .slice av nv cv], .int .i64 (i : Int), .int .u64 key, .int .u64 val] w fun e w' => N1 w w' e L m m ((cut Ks 0 i ++ [key]) ++ cut Ks (i + 1) m) ((cut Vs 0 i ++ [val]) ++ cut Vs (i + 1) m) := by
  obtain ⟨w1, hw1, b1, f1, s1⟩ := made w #[.bool L, .slice ak nk ck, .slice av nv cv] 24
  obtain ⟨w2, hw2, b2, f2, s2⟩ := made w1 #[.bool false, .slice none 0 0, .slice none 0 0] 24
  have B2 := Lib.hid (below_then' b1 b2)
  have P2 := Lib.hid (keep_row f1 b2)
  have Q2 := Lib.hid f2
  have SZ := Lib.hid (show w.heap.size < w1.heap.size ∧ w1.heap.size < w2.heap.size by omega)
  have Z2 := Lib.hid (Nat.le_refl w2.heap.size)
  have RK := Lib.hid (And.intro HK HV)
  have HN := Lib.hid (And.intro HK.2.1 HV.2.1)
  have HM := Lib.hid (And.intro hm hs)
  have HLK := Lib.hid (show (Ks.take m).length = m by rw [List.length_take, HK.1]; omega)
  have HLV := Lib.hid (show (Vs.take m).length = m by rw [List.length_take, HV.1]; omega)
  obtain ⟨d, hd⟩ : ∃ d, m - (i + 1) = d := ⟨_, rfl⟩
  have HE := Lib.hid (show i < m ∧ m ≤ nk ∧ m ≤ nv ∧ i + 1 + d = m by omega)
  have wi : IntKind.i64.wrap ((i : Int) + 1) = (i : Int) + 1 := by rw [IntKind.wrap_i64]; omega
  have ui : (i : Int) < 17592186044417 := by omega
  have d1 : decide ((i : Int) < 0) = false := decide_eq_false (by omega)
  have d2n : decide (m ≤ i) = false := decide_eq_false (by omega)
  have d2 : decide ((m : Int) ≤ (i : Int)) = false := decide_eq_false (by omega)
  clear b1 f1 s1 b2 f2 s2 HK HV hm hs h hd
  go_enter Try.func42, Try.ntmps42
  have x0 : w2.cell? ⟨w.heap.size, 0, none⟩ = some (.bool L) := cell_row P2.out rfl
  have x1 : w2.cell? ⟨w.heap.size, 1, none⟩ = some (.slice ak nk ck) := cell_row P2.out rfl
  have x2 : w2.cell? ⟨w.heap.size, 2, none⟩ = some (.slice av nv cv) := cell_row P2.out rfl
  go_wp2_with fail
  clear x0 x1 x2
  clear hw1 hw2
  refine (pairs_at L ak av nk ck nv cv m _ HM.out.1 HN.out.1 HN.out.2).mono ?_; rintro e w3 ⟨rfl, hb⟩
  have B3 := Lib.hid (below_then' B2.out hb)
  have P3 := Lib.hid (keep_row P2.out hb)
  have Q3 := Lib.hid (keep_row Q2.out hb)
  have Z3 := Lib.hid (Nat.le_trans Z2.out hb.size)
  clear hb
  go_wp2_with ((with_reducible refine wpList_load_row rfl 24 (.tmp 4) rfl w.heap.size ?_ 24 _ _ _ P3.out Try.underlying24 ?_ (size3 _ _ _) ?_); rfl; rfl)
  refine (part_int L Ks Vs ak av nk ck nv cv 0 i i 0 (i : Int) _ (RK.out.1.below B3.out) (RK.out.2.below B3.out) (by omega) (by omega) (by have := HE.out; omega) (by have := HE.out; omega) (by have := HE.out; omega) (by have := HE.out; have := HM.out.2; omega)).mono ?_; rintro e w4 ⟨A4, c4, A4x, c4x, rfl, ho, hb⟩
  have B4 := Lib.hid (below_then' B3.out hb)
  have P4 := Lib.hid (keep_row P3.out hb)
  have Q4 := Lib.hid (keep_row Q3.out hb)
  have Z4 := Lib.hid (Nat.le_trans Z3.out hb.size)
  have O4_4 := Lib.hid ho
  clear hb ho
  go_wp2_with fail
  refine (rone_at key val _).mono ?_; rintro e w5 ⟨A5, c5, A5x, c5x, rfl, ho, hb⟩
  have B5 := Lib.hid (below_then' B4.out hb)
  have P5 := Lib.hid (keep_row P4.out hb)
  have Q5 := Lib.hid (keep_row Q4.out hb)
  have O4_5 := Lib.hid (own2_below O4_4.out hb)
  have Z5 := Lib.hid (Nat.le_trans Z4.out hb.size)
  have O5_5 := Lib.hid ho
  clear hb ho
  go_wp2_with fail
  refine (join_n L false _ _ _ _ A4 A4x A5 A5x i c4 c4x 1 c5 c5x (i + 1) _ _ _ O4_5.out O5_5.out rfl (by have := HE.out; have := HM.out.2; omega)).mono ?_; rintro e w6 ⟨A6, c6, A6x, c6x, rfl, ho, hb⟩
  have B6 := Lib.hid (below_then' B5.out hb)
  have P6 := Lib.hid (keep_row P5.out hb)
  have Q6 := Lib.hid (keep_row Q5.out hb)
  have O4_6 := Lib.hid (own2_below O4_5.out hb)
  have O5_6 := Lib.hid (own2_below O5_5.out hb)
  have Z6 := Lib.hid (Nat.le_trans Z5.out hb.size)
  have O6_6 := Lib.hid ho
  clear hb ho
  obtain ⟨ya, hya⟩ : ∃ x, w6.alloc (.cells #[.bool false, .slice none 0 0, .slice none 0 0] 24) = x := ⟨_, rfl⟩
  obtain ⟨w7, hyb⟩ : ∃ x, ya.setRow w6.heap.size #[.bool L, .slice A6 (i + 1) c6, .slice A6x (i + 1) c6x] = x := ⟨_, rfl⟩
  have X := Lib.hid (one_row hya hyb)
  have B7 := Lib.hid (below_then' B6.out X.out.1)
  have P7 := Lib.hid (keep_row P6.out X.out.1)
  have Q7 := Lib.hid (keep_row Q6.out X.out.1)
  have N7 := Lib.hid X.out.2.2
  have Z7 := Lib.hid (Nat.le_trans Z6.out X.out.1.size)
  have O4_7 := Lib.hid (own2_below O4_6.out X.out.1)
  have O5_7 := Lib.hid (own2_below O5_6.out X.out.1)
  have O6_7 := Lib.hid (own2_below O6_6.out X.out.1)
  go_wp2_with (first | ((with_reducible refine wpList_store_row rfl 24 (.tmp 9) (.tmp 28) rfl w6.heap.size #[.bool L, .slice A6 (i + 1) c6, .slice A6x (i + 1) c6x] ?_ ?_ 24 _ X.out.2.1 (size3 _ _ _) ?_ (one3 _ _ _ _ _ _ _) ?_); rfl; rfl; rfl; rw [hyb]))
  clear hya hyb X
  have B8 := Lib.hid (below_drew B7.out)
  have Z8 := Lib.hid (show w2.heap.size ≤ w7.drew.heap.size from Z7.out)
  have P8 := Lib.hid (keep_row (w' := w7.drew) P7.out (below_drew (Below.refl _ _)))
  have Q8 := Lib.hid (keep_row (w' := w7.drew) Q7.out (below_drew (Below.refl _ _)))
  have N8 := Lib.hid (keep_row (w' := w7.drew) N7.out (below_drew (Below.refl _ _)))
  have O4_8 := Lib.hid (own2_below (w' := w7.drew) O4_7.out (below_drew (Below.refl _ _)))
  have O5_8 := Lib.hid (own2_below (w' := w7.drew) O5_7.out (below_drew (Below.refl _ _)))
  have O6_8 := Lib.hid (own2_below (w' := w7.drew) O6_7.out (below_drew (Below.refl _ _)))
  refine start_ (n := 9) (S := fun w' => w'.cell? ⟨w6.heap.size, 0, none⟩ = some (.bool L) ∧ w'.cell? ⟨w6.heap.size, 1, none⟩ = some (.slice A6 (i + 1) c6) ∧ w'.cell? ⟨w6.heap.size, 2, none⟩ = some (.slice A6x (i + 1) c6x) ∧ w'.cell? ⟨w.heap.size, 0, none⟩ = some (.bool L) ∧ w'.cell? ⟨w.heap.size, 1, none⟩ = some (.slice ak nk ck) ∧ w'.cell? ⟨w.heap.size, 2, none⟩ = some (.slice av nv cv)) (ds := [8]) #[false, false, false, false, false, false, false, false, false] (by kernel_rfl) rfl rfl ⟨cell_row N7.out rfl, cell_row N7.out rfl, cell_row N7.out rfl, cell_row P7.out rfl, cell_row P7.out rfl, cell_row P7.out rfl⟩ (fun hHeld => ?_)
  refine pure_ (i := 2) (N := some 31) (v := ?_) (a' := ?_) #[false, false, true, false, false, false, false, false, false] rfl rfl (by kernel_rfl) (fun _ _ _ h => h) (Or.inl ⟨by rfl, ?_⟩) ?_ ?_
  rotate_left
  · intro w'
    go_simp
    with_reducible rfl
  rotate_left
  · simp only [Act.put, List.setIfInBounds_toArray, List.set_cons_zero, List.set_cons_succ, i64_w, i32_w]
    rfl
  refine pure_ (i := 3) (N := some 32) (v := ?_) (a' := ?_) #[false, false, true, true, false, false, false, false, false] rfl rfl (by kernel_rfl) (fun _ _ _ h => h) (Or.inl ⟨by rfl, ?_⟩) ?_ ?_
  rotate_left
  · intro w'
    go_simp
    with_reducible rfl
  rotate_left
  · simp only [Act.put, List.setIfInBounds_toArray, List.set_cons_zero, List.set_cons_succ, i64_w, i32_w]
    rfl
  refine take_ (i := 0) (N := some 29) (v := ?_) (a' := ?_) #[true, false, true, true, false, false, false, false, false] rfl rfl (by kernel_rfl) (fun _ _ _ h => h) (Or.inl ⟨by rfl, ?_⟩) hHeld ?_ ?_
  rotate_left
  · rintro w' ⟨s0, s1, s2, s3, s4, s5⟩
    go_simp
    with_reducible rfl
  rotate_left
  · simp only [Act.put, List.setIfInBounds_toArray, List.set_cons_zero, List.set_cons_succ, i64_w, i32_w]
    rfl
  refine take_ (i := 1) (N := some 30) (v := ?_) (a' := ?_) #[true, true, true, true, false, false, false, false, false] rfl rfl (by kernel_rfl) (fun _ _ _ h => h) (Or.inl ⟨by rfl, ?_⟩) hHeld ?_ ?_
  rotate_left
  · rintro w' ⟨s0, s1, s2, s3, s4, s5⟩
    go_simp
    with_reducible rfl
  rotate_left
  · simp only [Act.put, List.setIfInBounds_toArray, List.set_cons_zero, List.set_cons_succ, i64_w, i32_w]
    rfl
  refine take_ (i := 4) (N := some 33) (v := ?_) (a' := ?_) #[true, true, true, true, true, false, false, false, false] rfl rfl (by kernel_rfl) (fun _ _ _ h => h) (Or.inl ⟨by rfl, ?_⟩) hHeld ?_ ?_
  rotate_left
  · rintro w' ⟨s0, s1, s2, s3, s4, s5⟩
    go_simp
    with_reducible rfl
  rotate_left
  · simp only [Act.put, List.setIfInBounds_toArray, List.set_cons_zero, List.set_cons_succ, i64_w, i32_w]
    rfl
  refine one_ (i := 5) (N := some 34) #[true, true, true, true, true, true, false, false, false] rfl rfl (by kernel_rfl) (by decide) (fun K hK => ?_)
  refine goes_ Try.func46 (by kernel_rfl) rfl #[.agg #[.bool L, .slice ak nk ck, .slice av nv cv]] (by rfl) rfl rfl (by simp only [List.map_toArray, List.map_cons, List.map_nil]; rfl) ?_
  with_reducible refine (pairs_at L ak av nk ck nv cv m _ HM.out.1 HN.out.1 HN.out.2).mono ?_
  rintro e w9 ⟨rfl, hb⟩
  refine ⟨_, rfl, ?_⟩
  have B9 := Lib.hid (below_then' B8.out hb)
  have Z9 := Lib.hid (Nat.le_trans Z8.out hb.size)
  have P9 := Lib.hid (keep_row P8.out hb)
  have Q9 := Lib.hid (keep_row Q8.out hb)
  have N9 := Lib.hid (keep_row N8.out hb)
  have O4_9 := Lib.hid (own2_below O4_8.out hb)
  have O5_9 := Lib.hid (own2_below O5_8.out hb)
  have O6_9 := Lib.hid (own2_below O6_8.out hb)
  clear hb
  refine hK.out _ _ ⟨cell_row N9.out rfl, cell_row N9.out rfl, cell_row N9.out rfl, cell_row P9.out rfl, cell_row P9.out rfl, cell_row P9.out rfl⟩ (fun hHeld => ?_)
  clear hK K
  refine norm_ (a' := ?_) ?_ ?_
  rotate_left
  · show Act.put _ (some 34) _ = _
    simp only [Act.put, List.setIfInBounds_toArray, List.set_cons_zero, List.set_cons_succ, i64_w, i32_w]
    rfl
  refine one_ (i := 6) (N := some 35) #[true, true, true, true, true, true, true, false, false] rfl rfl (by kernel_rfl) (by decide) (fun K hK => ?_)
  refine goes_ Try.func52 (by kernel_rfl) rfl #[.agg #[.bool L, .slice ak nk ck, .slice av nv cv], .int .i64 ((i : Int) + 1), .int .i64 (m : Int)] (by rfl) rfl rfl (by simp only [List.map_toArray, List.map_cons, List.map_nil]; rfl) ?_
  with_reducible refine (part_int L Ks Vs ak av nk ck nv cv (i + 1) m d ((i : Int) + 1) (m : Int) _ (RK.out.1.below B9.out) (RK.out.2.below B9.out) (by omega) (by omega) (by have := HE.out; omega) (by have := HE.out; omega) (by have := HE.out; omega) (by have := HE.out; have := HM.out.2; omega)).mono ?_
  rintro e w10 ⟨A10, c10, A10x, c10x, rfl, ho, hb⟩
  refine ⟨_, rfl, ?_⟩
  have B10 := Lib.hid (below_then' B9.out hb)
  have Z10 := Lib.hid (Nat.le_trans Z9.out hb.size)
  have P10 := Lib.hid (keep_row P9.out hb)
  have Q10 := Lib.hid (keep_row Q9.out hb)
  have N10 := Lib.hid (keep_row N9.out hb)
  have O4_10 := Lib.hid (own2_below O4_9.out hb)
  have O5_10 := Lib.hid (own2_below O5_9.out hb)
  have O6_10 := Lib.hid (own2_below O6_9.out hb)
  have O10_10 := Lib.hid ho
  clear hb ho
  refine hK.out _ _ ⟨cell_row N10.out rfl, cell_row N10.out rfl, cell_row N10.out rfl, cell_row P10.out rfl, cell_row P10.out rfl, cell_row P10.out rfl⟩ (fun hHeld => ?_)
  clear hK K
  refine norm_ (a' := ?_) ?_ ?_
  rotate_left
  · show Act.put _ (some 35) _ = _
    simp only [Act.put, List.setIfInBounds_toArray, List.set_cons_zero, List.set_cons_succ, i64_w, i32_w]
    rfl
  refine one_ (i := 7) (N := some 36) #[true, true, true, true, true, true, true, true, false] rfl rfl (by kernel_rfl) (by decide) (fun K hK => ?_)
  refine goes_ Try.func25 (by kernel_rfl) rfl #[.agg #[.bool L, .slice A6 (i + 1) c6, .slice A6x (i + 1) c6x], .agg #[.bool L, .slice A10 d c10, .slice A10x d c10x]] (by rfl) rfl rfl (by simp only [List.map_toArray, List.map_cons, List.map_nil]; rfl) ?_
  with_reducible refine (join_n L L _ _ _ _ A6 A6x A10 A10x (i + 1) c6 c6x d c10 c10x m _ _ _ O6_10.out O10_10.out (by have := HE.out; omega) (by have := HE.out; have := HM.out.2; omega)).mono ?_
  rintro e w11 ⟨A11, c11, A11x, c11x, rfl, ho, hb⟩
  refine ⟨_, rfl, ?_⟩
  have B11 := Lib.hid (below_then' B10.out hb)
  have Z11 := Lib.hid (Nat.le_trans Z10.out hb.size)
  have P11 := Lib.hid (keep_row P10.out hb)
  have Q11 := Lib.hid (keep_row Q10.out hb)
  have N11 := Lib.hid (keep_row N10.out hb)
  have O4_11 := Lib.hid (own2_below O4_10.out hb)
  have O5_11 := Lib.hid (own2_below O5_10.out hb)
  have O6_11 := Lib.hid (own2_below O6_10.out hb)
  have O10_11 := Lib.hid (own2_below O10_10.out hb)
  have O11_11 := Lib.hid ho
  clear hb ho
  refine hK.out _ _ ⟨cell_row N11.out rfl, cell_row N11.out rfl, cell_row N11.out rfl, cell_row P11.out rfl, cell_row P11.out rfl, cell_row P11.out rfl⟩ (fun hHeld => ?_)
  clear hK K
  refine norm_ (a' := ?_) ?_ ?_
  rotate_left
  · show Act.put _ (some 36) _ = _
    simp only [Act.put, List.setIfInBounds_toArray, List.set_cons_zero, List.set_cons_succ, i64_w, i32_w]
    rfl
  refine last_ (i := 8) (N := none) #[true, true, true, true, true, true, true, true, true] rfl rfl (by kernel_rfl) (by decide) (fun K hK => ?_)
  refine skip_ (w1 := w11.setRow w1.heap.size #[.bool L, .slice A11 m c11, .slice A11x m c11x]) (by rfl) rfl (exec_store_row 24 _ _ rfl w1.heap.size #[.bool L, .slice A11 m c11, .slice A11x m c11x] (by rfl) (by rfl) 24 _ Q11.out (size3 _ _ _) rfl (one3 _ _ _ _ _ _ _)) ?_
  refine hK.out _ _ ?_
  clear hK K
  refine done_ (by kernel_rfl) ?_
  obtain ⟨wz, hwz⟩ : ∃ x, w11.setRow w1.heap.size #[.bool L, .slice A11 m c11, .slice A11x m c11x] = x := ⟨_, rfl⟩
  have qz : wz.heap[w1.heap.size]? = some (.cells #[.bool L, .slice A11 m c11, .slice A11x m c11x] 24) := by rw [← hwz]; exact setRow_heap _ _ _ _ _ _ Q11.out
  have ho := own2_setRow (own2_weaken O11_11.out Z10.out) SZ.out.2 #[.bool L, .slice A11 m c11, .slice A11x m c11x]
  rw [hwz] at ho
  have hbz : Below w.heap.size w wz := by rw [← hwz]; exact below_setRow B11.out (Nat.le_of_lt SZ.out.1) _
  rw [hwz]
  clear hwz
  go_wp2_with fail
  exact ret_c 8 rfl w1.heap.size #[.bool L, .slice A11 m c11, .slice A11x m c11x] (0, 0) rfl qz rfl rfl ⟨_, _, _, _, rfl, own2_weaken ho (by have := SZ.out; omega), hbz⟩
set_option maxRecDepth 100000 in
set_option maxHeartbeats 3200000 in
theorem rrem_neg (L : Bool) (Ks Vs : List Int) (ak av : Option Addr) (nk ck nv cv m : Nat) (at_ : Int) (w : World) (HK : ReadsInt w .u64 ak nk Ks) (HV : ReadsInt w .u64 av nv Vs) (hm : min nk nv = m) (hs : (m + 1) * 8 ≤ 140737488355328) (h : at_ < 0) :
    Calls Try.prog 43 #[.agg #[.bool L, .slice ak nk ck, .slice av nv cv], .int .i64 at_] w fun e w' => N1 w w' e L m m (Ks.take m) (Vs.take m) := by
  obtain ⟨w1, hw1, b1, f1, s1⟩ := made w #[.bool L, .slice ak nk ck, .slice av nv cv] 24
  obtain ⟨w2, hw2, b2, f2, s2⟩ := made w1 #[.bool false, .slice none 0 0, .slice none 0 0] 24
  have B2 := Lib.hid (below_then' b1 b2)
  have P2 := Lib.hid (keep_row f1 b2)
  have Q2 := Lib.hid f2
  have SZ := Lib.hid (show w.heap.size < w1.heap.size ∧ w1.heap.size < w2.heap.size by omega)
  have Z2 := Lib.hid (Nat.le_refl w2.heap.size)
  have RK := Lib.hid (And.intro HK HV)
  have HN := Lib.hid (And.intro HK.2.1 HV.2.1)
  have HM := Lib.hid (And.intro hm hs)
  have HLK := Lib.hid (show (Ks.take m).length = m by rw [List.length_take, HK.1]; omega)
  have HLV := Lib.hid (show (Vs.take m).length = m by rw [List.length_take, HV.1]; omega)
  have HE := Lib.hid (show m ≤ nk ∧ m ≤ nv by omega)
  have d1 : decide (at_ < 0) = true := decide_eq_true (by omega)
  clear b1 f1 s1 b2 f2 s2 HK HV hm hs h
  go_enter Try.func43, Try.ntmps43
  go_wp2_with fail
  clear hw1 hw2
  have B3 := Lib.hid (below_drew B2.out)
  have Z3 := Lib.hid (show w2.heap.size ≤ w2.drew.heap.size from Z2.out)
  have P3 := Lib.hid (keep_row (w' := w2.drew) P2.out (below_drew (Below.refl _ _)))
  have Q3 := Lib.hid (keep_row (w' := w2.drew) Q2.out (below_drew (Below.refl _ _)))
  refine start_ (n := 5) (S := fun w' => w'.cell? ⟨w.heap.size, 0, none⟩ = some (.bool L) ∧ w'.cell? ⟨w.heap.size, 1, none⟩ = some (.slice ak nk ck) ∧ w'.cell? ⟨w.heap.size, 2, none⟩ = some (.slice av nv cv)) (ds := [4]) #[false, false, false, false, false] (by kernel_rfl) rfl rfl ⟨cell_row P2.out rfl, cell_row P2.out rfl, cell_row P2.out rfl⟩ (fun hHeld => ?_)
  refine take_ (i := 0) (N := some 13) (v := ?_) (a' := ?_) #[true, false, false, false, false] rfl rfl (by kernel_rfl) (fun _ _ _ h => h) (Or.inl ⟨by rfl, ?_⟩) hHeld ?_ ?_
  rotate_left
  · rintro w' ⟨s0, s1, s2⟩
    go_simp
    with_reducible rfl
  rotate_left
  · simp only [Act.put, List.setIfInBounds_toArray, List.set_cons_zero, List.set_cons_succ, i64_w, i32_w]
    rfl
  refine take_ (i := 1) (N := some 14) (v := ?_) (a' := ?_) #[true, true, false, false, false] rfl rfl (by kernel_rfl) (fun _ _ _ h => h) (Or.inl ⟨by rfl, ?_⟩) hHeld ?_ ?_
  rotate_left
  · rintro w' ⟨s0, s1, s2⟩
    go_simp
    with_reducible rfl
  rotate_left
  · simp only [Act.put, List.setIfInBounds_toArray, List.set_cons_zero, List.set_cons_succ, i64_w, i32_w]
    rfl
  refine one_ (i := 2) (N := some 15) #[true, true, true, false, false] rfl rfl (by kernel_rfl) (by decide) (fun K hK => ?_)
  refine goes_ Try.func46 (by kernel_rfl) rfl #[.agg #[.bool L, .slice ak nk ck, .slice av nv cv]] (by rfl) rfl rfl (by simp only [List.map_toArray, List.map_cons, List.map_nil]; rfl) ?_
  with_reducible refine (pairs_at L ak av nk ck nv cv m _ HM.out.1 HN.out.1 HN.out.2).mono ?_
  rintro e w4 ⟨rfl, hb⟩
  refine ⟨_, rfl, ?_⟩
  have B4 := Lib.hid (below_then' B3.out hb)
  have Z4 := Lib.hid (Nat.le_trans Z3.out hb.size)
  have P4 := Lib.hid (keep_row P3.out hb)
  have Q4 := Lib.hid (keep_row Q3.out hb)
  clear hb
  refine hK.out _ _ ⟨cell_row P4.out rfl, cell_row P4.out rfl, cell_row P4.out rfl⟩ (fun hHeld => ?_)
  clear hK K
  refine norm_ (a' := ?_) ?_ ?_
  rotate_left
  · show Act.put _ (some 15) _ = _
    simp only [Act.put, List.setIfInBounds_toArray, List.set_cons_zero, List.set_cons_succ, i64_w, i32_w]
    rfl
  refine one_ (i := 3) (N := some 16) #[true, true, true, true, false] rfl rfl (by kernel_rfl) (by decide) (fun K hK => ?_)
  refine goes_ Try.func52 (by kernel_rfl) rfl #[.agg #[.bool L, .slice ak nk ck, .slice av nv cv], .int .i64 0, .int .i64 (m : Int)] (by rfl) rfl rfl (by simp only [List.map_toArray, List.map_cons, List.map_nil]; rfl) ?_
  with_reducible refine (part_int L Ks Vs ak av nk ck nv cv 0 m m 0 (m : Int) _ (RK.out.1.below B4.out) (RK.out.2.below B4.out) (by omega) (by omega) (by have := HE.out; omega) (by have := HE.out; omega) (by have := HE.out; omega) (by have := HE.out; have := HM.out.2; omega)).mono ?_
  rintro e w5 ⟨A5, c5, A5x, c5x, rfl, ho, hb⟩
  refine ⟨_, rfl, ?_⟩
  have B5 := Lib.hid (below_then' B4.out hb)
  have Z5 := Lib.hid (Nat.le_trans Z4.out hb.size)
  have P5 := Lib.hid (keep_row P4.out hb)
  have Q5 := Lib.hid (keep_row Q4.out hb)
  have O5_5 := Lib.hid ho
  clear hb ho
  refine hK.out _ _ ⟨cell_row P5.out rfl, cell_row P5.out rfl, cell_row P5.out rfl⟩ (fun hHeld => ?_)
  clear hK K
  refine norm_ (a' := ?_) ?_ ?_
  rotate_left
  · show Act.put _ (some 16) _ = _
    simp only [Act.put, List.setIfInBounds_toArray, List.set_cons_zero, List.set_cons_succ, i64_w, i32_w]
    rfl
  refine last_ (i := 4) (N := none) #[true, true, true, true, true] rfl rfl (by kernel_rfl) (by decide) (fun K hK => ?_)
  refine skip_ (w1 := w5.setRow w1.heap.size #[.bool L, .slice A5 m c5, .slice A5x m c5x]) (by rfl) rfl (exec_store_row 24 _ _ rfl w1.heap.size #[.bool L, .slice A5 m c5, .slice A5x m c5x] (by rfl) (by rfl) 24 _ Q5.out (size3 _ _ _) rfl (one3 _ _ _ _ _ _ _)) ?_
  refine hK.out _ _ ?_
  clear hK K
  refine done_ (by kernel_rfl) ?_
  obtain ⟨wz, hwz⟩ : ∃ x, w5.setRow w1.heap.size #[.bool L, .slice A5 m c5, .slice A5x m c5x] = x := ⟨_, rfl⟩
  have qz : wz.heap[w1.heap.size]? = some (.cells #[.bool L, .slice A5 m c5, .slice A5x m c5x] 24) := by rw [← hwz]; exact setRow_heap _ _ _ _ _ _ Q5.out
  have ho := own2_setRow (own2_weaken O5_5.out Z4.out) SZ.out.2 #[.bool L, .slice A5 m c5, .slice A5x m c5x]
  rw [hwz] at ho
  have hbz : Below w.heap.size w wz := by rw [← hwz]; exact below_setRow B5.out (Nat.le_of_lt SZ.out.1) _
  rw [hwz]
  clear hwz
  go_wp2_with fail
  exact ret_c 4 rfl w1.heap.size #[.bool L, .slice A5 m c5, .slice A5x m c5x] (0, 0) rfl qz rfl rfl ⟨_, _, _, _, rfl, own2_weaken ho (by have := SZ.out; omega), hbz⟩
set_option maxRecDepth 100000 in
set_option maxHeartbeats 3200000 in
theorem rrem_far (L : Bool) (Ks Vs : List Int) (ak av : Option Addr) (nk ck nv cv m : Nat) (at_ : Int) (w : World) (HK : ReadsInt w .u64 ak nk Ks) (HV : ReadsInt w .u64 av nv Vs) (hm : min nk nv = m) (hs : (m + 1) * 8 ≤ 140737488355328) (h0 : 0 ≤ at_) (h : (m : Int) ≤ at_) :
    Calls Try.prog 43 #[.agg #[.bool L, .slice ak nk ck, .slice av nv cv], .int .i64 at_] w fun e w' => N1 w w' e L m m (Ks.take m) (Vs.take m) := by
  obtain ⟨w1, hw1, b1, f1, s1⟩ := made w #[.bool L, .slice ak nk ck, .slice av nv cv] 24
  obtain ⟨w2, hw2, b2, f2, s2⟩ := made w1 #[.bool false, .slice none 0 0, .slice none 0 0] 24
  have B2 := Lib.hid (below_then' b1 b2)
  have P2 := Lib.hid (keep_row f1 b2)
  have Q2 := Lib.hid f2
  have SZ := Lib.hid (show w.heap.size < w1.heap.size ∧ w1.heap.size < w2.heap.size by omega)
  have Z2 := Lib.hid (Nat.le_refl w2.heap.size)
  have RK := Lib.hid (And.intro HK HV)
  have HN := Lib.hid (And.intro HK.2.1 HV.2.1)
  have HM := Lib.hid (And.intro hm hs)
  have HLK := Lib.hid (show (Ks.take m).length = m by rw [List.length_take, HK.1]; omega)
  have HLV := Lib.hid (show (Vs.take m).length = m by rw [List.length_take, HV.1]; omega)
  have HE := Lib.hid (show m ≤ nk ∧ m ≤ nv by omega)
  have d1 : decide (at_ < 0) = false := decide_eq_false (by omega)
  have d2 : decide ((m : Int) ≤ at_) = true := decide_eq_true (by omega)
  clear b1 f1 s1 b2 f2 s2 HK HV hm hs h h0
  go_enter Try.func43, Try.ntmps43
  have x0 : w2.cell? ⟨w.heap.size, 0, none⟩ = some (.bool L) := cell_row P2.out rfl
  have x1 : w2.cell? ⟨w.heap.size, 1, none⟩ = some (.slice ak nk ck) := cell_row P2.out rfl
  have x2 : w2.cell? ⟨w.heap.size, 2, none⟩ = some (.slice av nv cv) := cell_row P2.out rfl
  go_wp2_with fail
  clear x0 x1 x2
  clear hw1 hw2
  refine (pairs_at L ak av nk ck nv cv m _ HM.out.1 HN.out.1 HN.out.2).mono ?_; rintro e w3 ⟨rfl, hb⟩
  have B3 := Lib.hid (below_then' B2.out hb)
  have P3 := Lib.hid (keep_row P2.out hb)
  have Q3 := Lib.hid (keep_row Q2.out hb)
  have Z3 := Lib.hid (Nat.le_trans Z2.out hb.size)
  clear hb
  go_wp2_with fail
  have B4 := Lib.hid (below_drew B3.out)
  have Z4 := Lib.hid (show w2.heap.size ≤ w3.drew.heap.size from Z3.out)
  have P4 := Lib.hid (keep_row (w' := w3.drew) P3.out (below_drew (Below.refl _ _)))
  have Q4 := Lib.hid (keep_row (w' := w3.drew) Q3.out (below_drew (Below.refl _ _)))
  refine start_ (n := 5) (S := fun w' => w'.cell? ⟨w.heap.size, 0, none⟩ = some (.bool L) ∧ w'.cell? ⟨w.heap.size, 1, none⟩ = some (.slice ak nk ck) ∧ w'.cell? ⟨w.heap.size, 2, none⟩ = some (.slice av nv cv)) (ds := [4]) #[false, false, false, false, false] (by kernel_rfl) rfl rfl ⟨cell_row P3.out rfl, cell_row P3.out rfl, cell_row P3.out rfl⟩ (fun hHeld => ?_)
  refine take_ (i := 0) (N := some 13) (v := ?_) (a' := ?_) #[true, false, false, false, false] rfl rfl (by kernel_rfl) (fun _ _ _ h => h) (Or.inl ⟨by rfl, ?_⟩) hHeld ?_ ?_
  rotate_left
  · rintro w' ⟨s0, s1, s2⟩
    go_simp
    with_reducible rfl
  rotate_left
  · simp only [Act.put, List.setIfInBounds_toArray, List.set_cons_zero, List.set_cons_succ, i64_w, i32_w]
    rfl
  refine take_ (i := 1) (N := some 14) (v := ?_) (a' := ?_) #[true, true, false, false, false] rfl rfl (by kernel_rfl) (fun _ _ _ h => h) (Or.inl ⟨by rfl, ?_⟩) hHeld ?_ ?_
  rotate_left
  · rintro w' ⟨s0, s1, s2⟩
    go_simp
    with_reducible rfl
  rotate_left
  · simp only [Act.put, List.setIfInBounds_toArray, List.set_cons_zero, List.set_cons_succ, i64_w, i32_w]
    rfl
  refine one_ (i := 2) (N := some 15) #[true, true, true, false, false] rfl rfl (by kernel_rfl) (by decide) (fun K hK => ?_)
  refine goes_ Try.func46 (by kernel_rfl) rfl #[.agg #[.bool L, .slice ak nk ck, .slice av nv cv]] (by rfl) rfl rfl (by simp only [List.map_toArray, List.map_cons, List.map_nil]; rfl) ?_
  with_reducible refine (pairs_at L ak av nk ck nv cv m _ HM.out.1 HN.out.1 HN.out.2).mono ?_
  rintro e w5 ⟨rfl, hb⟩
  refine ⟨_, rfl, ?_⟩
  have B5 := Lib.hid (below_then' B4.out hb)
  have Z5 := Lib.hid (Nat.le_trans Z4.out hb.size)
  have P5 := Lib.hid (keep_row P4.out hb)
  have Q5 := Lib.hid (keep_row Q4.out hb)
  clear hb
  refine hK.out _ _ ⟨cell_row P5.out rfl, cell_row P5.out rfl, cell_row P5.out rfl⟩ (fun hHeld => ?_)
  clear hK K
  refine norm_ (a' := ?_) ?_ ?_
  rotate_left
  · show Act.put _ (some 15) _ = _
    simp only [Act.put, List.setIfInBounds_toArray, List.set_cons_zero, List.set_cons_succ, i64_w, i32_w]
    rfl
  refine one_ (i := 3) (N := some 16) #[true, true, true, true, false] rfl rfl (by kernel_rfl) (by decide) (fun K hK => ?_)
  refine goes_ Try.func52 (by kernel_rfl) rfl #[.agg #[.bool L, .slice ak nk ck, .slice av nv cv], .int .i64 0, .int .i64 (m : Int)] (by rfl) rfl rfl (by simp only [List.map_toArray, List.map_cons, List.map_nil]; rfl) ?_
  with_reducible refine (part_int L Ks Vs ak av nk ck nv cv 0 m m 0 (m : Int) _ (RK.out.1.below B5.out) (RK.out.2.below B5.out) (by omega) (by omega) (by have := HE.out; omega) (by have := HE.out; omega) (by have := HE.out; omega) (by have := HE.out; have := HM.out.2; omega)).mono ?_
  rintro e w6 ⟨A6, c6, A6x, c6x, rfl, ho, hb⟩
  refine ⟨_, rfl, ?_⟩
  have B6 := Lib.hid (below_then' B5.out hb)
  have Z6 := Lib.hid (Nat.le_trans Z5.out hb.size)
  have P6 := Lib.hid (keep_row P5.out hb)
  have Q6 := Lib.hid (keep_row Q5.out hb)
  have O6_6 := Lib.hid ho
  clear hb ho
  refine hK.out _ _ ⟨cell_row P6.out rfl, cell_row P6.out rfl, cell_row P6.out rfl⟩ (fun hHeld => ?_)
  clear hK K
  refine norm_ (a' := ?_) ?_ ?_
  rotate_left
  · show Act.put _ (some 16) _ = _
    simp only [Act.put, List.setIfInBounds_toArray, List.set_cons_zero, List.set_cons_succ, i64_w, i32_w]
    rfl
  refine last_ (i := 4) (N := none) #[true, true, true, true, true] rfl rfl (by kernel_rfl) (by decide) (fun K hK => ?_)
  refine skip_ (w1 := w6.setRow w1.heap.size #[.bool L, .slice A6 m c6, .slice A6x m c6x]) (by rfl) rfl (exec_store_row 24 _ _ rfl w1.heap.size #[.bool L, .slice A6 m c6, .slice A6x m c6x] (by rfl) (by rfl) 24 _ Q6.out (size3 _ _ _) rfl (one3 _ _ _ _ _ _ _)) ?_
  refine hK.out _ _ ?_
  clear hK K
  refine done_ (by kernel_rfl) ?_
  obtain ⟨wz, hwz⟩ : ∃ x, w6.setRow w1.heap.size #[.bool L, .slice A6 m c6, .slice A6x m c6x] = x := ⟨_, rfl⟩
  have qz : wz.heap[w1.heap.size]? = some (.cells #[.bool L, .slice A6 m c6, .slice A6x m c6x] 24) := by rw [← hwz]; exact setRow_heap _ _ _ _ _ _ Q6.out
  have ho := own2_setRow (own2_weaken O6_6.out Z5.out) SZ.out.2 #[.bool L, .slice A6 m c6, .slice A6x m c6x]
  rw [hwz] at ho
  have hbz : Below w.heap.size w wz := by rw [← hwz]; exact below_setRow B6.out (Nat.le_of_lt SZ.out.1) _
  rw [hwz]
  clear hwz
  go_wp2_with fail
  exact ret_c 4 rfl w1.heap.size #[.bool L, .slice A6 m c6, .slice A6x m c6x] (0, 0) rfl qz rfl rfl ⟨_, _, _, _, rfl, own2_weaken ho (by have := SZ.out; omega), hbz⟩
set_option maxRecDepth 100000 in
set_option maxHeartbeats 3200000 in
theorem rrem_in (L : Bool) (Ks Vs : List Int) (ak av : Option Addr) (nk ck nv cv m i : Nat) (w : World) (HK : ReadsInt w .u64 ak nk Ks) (HV : ReadsInt w .u64 av nv Vs) (hm : min nk nv = m) (hs : (m + 1) * 8 ≤ 140737488355328) (h : i < m) :
    Calls Try.prog 43 #[.agg #[.bool L, .slice ak nk ck, .slice av nv cv], .int .i64 (i : Int)] w fun e w' => N1 w w' e L (m - 1) (m - 1) (cut Ks 0 i ++ cut Ks (i + 1) m) (cut Vs 0 i ++ cut Vs (i + 1) m) := by
  obtain ⟨w1, hw1, b1, f1, s1⟩ := made w #[.bool L, .slice ak nk ck, .slice av nv cv] 24
  obtain ⟨w2, hw2, b2, f2, s2⟩ := made w1 #[.bool false, .slice none 0 0, .slice none 0 0] 24
  have B2 := Lib.hid (below_then' b1 b2)
  have P2 := Lib.hid (keep_row f1 b2)
  have Q2 := Lib.hid f2
  have SZ := Lib.hid (show w.heap.size < w1.heap.size ∧ w1.heap.size < w2.heap.size by omega)
  have Z2 := Lib.hid (Nat.le_refl w2.heap.size)
  have RK := Lib.hid (And.intro HK HV)
  have HN := Lib.hid (And.intro HK.2.1 HV.2.1)
  have HM := Lib.hid (And.intro hm hs)
  have HLK := Lib.hid (show (Ks.take m).length = m by rw [List.length_take, HK.1]; omega)
  have HLV := Lib.hid (show (Vs.take m).length = m by rw [List.length_take, HV.1]; omega)
  obtain ⟨d, hd⟩ : ∃ d, m - (i + 1) = d := ⟨_, rfl⟩
  have HE := Lib.hid (show i < m ∧ m ≤ nk ∧ m ≤ nv ∧ i + 1 + d = m by omega)
  have wi : IntKind.i64.wrap ((i : Int) + 1) = (i : Int) + 1 := by rw [IntKind.wrap_i64]; omega
  have ui : (i : Int) < 17592186044417 := by omega
  have d1 : decide ((i : Int) < 0) = false := decide_eq_false (by omega)
  have d2n : decide (m ≤ i) = false := decide_eq_false (by omega)
  have d2 : decide ((m : Int) ≤ (i : Int)) = false := decide_eq_false (by omega)
  clear b1 f1 s1 b2 f2 s2 HK HV hm hs h hd
  go_enter Try.func43, Try.ntmps43
  have x0 : w2.cell? ⟨w.heap.size, 0, none⟩ = some (.bool L) := cell_row P2.out rfl
  have x1 : w2.cell? ⟨w.heap.size, 1, none⟩ = some (.slice ak nk ck) := cell_row P2.out rfl
  have x2 : w2.cell? ⟨w.heap.size, 2, none⟩ = some (.slice av nv cv) := cell_row P2.out rfl
  go_wp2_with fail
  clear x0 x1 x2
  clear hw1 hw2
  refine (pairs_at L ak av nk ck nv cv m _ HM.out.1 HN.out.1 HN.out.2).mono ?_; rintro e w3 ⟨rfl, hb⟩
  have B3 := Lib.hid (below_then' B2.out hb)
  have P3 := Lib.hid (keep_row P2.out hb)
  have Q3 := Lib.hid (keep_row Q2.out hb)
  have Z3 := Lib.hid (Nat.le_trans Z2.out hb.size)
  clear hb
  go_wp2_with fail
  have B4 := Lib.hid (below_drew B3.out)
  have Z4 := Lib.hid (show w2.heap.size ≤ w3.drew.heap.size from Z3.out)
  have P4 := Lib.hid (keep_row (w' := w3.drew) P3.out (below_drew (Below.refl _ _)))
  have Q4 := Lib.hid (keep_row (w' := w3.drew) Q3.out (below_drew (Below.refl _ _)))
  refine start_ (n := 11) (S := fun w' => w'.cell? ⟨w.heap.size, 0, none⟩ = some (.bool L) ∧ w'.cell? ⟨w.heap.size, 1, none⟩ = some (.slice ak nk ck) ∧ w'.cell? ⟨w.heap.size, 2, none⟩ = some (.slice av nv cv)) (ds := [10]) #[false, false, false, false, false, false, false, false, false, false, false] (by kernel_rfl) rfl rfl ⟨cell_row P3.out rfl, cell_row P3.out rfl, cell_row P3.out rfl⟩ (fun hHeld => ?_)
  refine pure_ (i := 1) (N := some 18) (v := ?_) (a' := ?_) #[false, true, false, false, false, false, false, false, false, false, false] rfl rfl (by kernel_rfl) (fun _ _ _ h => h) (Or.inl ⟨by rfl, ?_⟩) ?_ ?_
  rotate_left
  · intro w'
    go_simp
    with_reducible rfl
  rotate_left
  · simp only [Act.put, List.setIfInBounds_toArray, List.set_cons_zero, List.set_cons_succ, i64_w, i32_w]
    rfl
  refine pure_ (i := 4) (N := some 21) (v := ?_) (a' := ?_) #[false, true, false, false, true, false, false, false, false, false, false] rfl rfl (by kernel_rfl) (fun _ _ _ h => h) (Or.inl ⟨by rfl, ?_⟩) ?_ ?_
  rotate_left
  · intro w'
    go_simp
    with_reducible rfl
  rotate_left
  · simp only [Act.put, List.setIfInBounds_toArray, List.set_cons_zero, List.set_cons_succ, i64_w, i32_w]
    rfl
  refine pure_ (i := 5) (N := some 22) (v := ?_) (a' := ?_) #[false, true, false, false, true, true, false, false, false, false, false] rfl rfl (by kernel_rfl) (fun _ _ _ h => h) (Or.inl ⟨by rfl, ?_⟩) ?_ ?_
  rotate_left
  · intro w'
    go_simp
    with_reducible rfl
  rotate_left
  · simp only [Act.put, List.setIfInBounds_toArray, List.set_cons_zero, List.set_cons_succ, i64_w, i32_w]
    rfl
  refine take_ (i := 0) (N := some 17) (v := ?_) (a' := ?_) #[true, true, false, false, true, true, false, false, false, false, false] rfl rfl (by kernel_rfl) (fun _ _ _ h => h) (Or.inl ⟨by rfl, ?_⟩) hHeld ?_ ?_
  rotate_left
  · rintro w' ⟨s0, s1, s2⟩
    go_simp
    with_reducible rfl
  rotate_left
  · simp only [Act.put, List.setIfInBounds_toArray, List.set_cons_zero, List.set_cons_succ, i64_w, i32_w]
    rfl
  refine take_ (i := 3) (N := some 20) (v := ?_) (a' := ?_) #[true, true, false, true, true, true, false, false, false, false, false] rfl rfl (by kernel_rfl) (fun _ _ _ h => h) (Or.inl ⟨by rfl, ?_⟩) hHeld ?_ ?_
  rotate_left
  · rintro w' ⟨s0, s1, s2⟩
    go_simp
    with_reducible rfl
  rotate_left
  · simp only [Act.put, List.setIfInBounds_toArray, List.set_cons_zero, List.set_cons_succ, i64_w, i32_w]
    rfl
  refine take_ (i := 6) (N := some 23) (v := ?_) (a' := ?_) #[true, true, false, true, true, true, true, false, false, false, false] rfl rfl (by kernel_rfl) (fun _ _ _ h => h) (Or.inl ⟨by rfl, ?_⟩) hHeld ?_ ?_
  rotate_left
  · rintro w' ⟨s0, s1, s2⟩
    go_simp
    with_reducible rfl
  rotate_left
  · simp only [Act.put, List.setIfInBounds_toArray, List.set_cons_zero, List.set_cons_succ, i64_w, i32_w]
    rfl
  refine one_ (i := 2) (N := some 19) #[true, true, true, true, true, true, true, false, false, false, false] rfl rfl (by kernel_rfl) (by decide) (fun K hK => ?_)
  refine goes_ Try.func52 (by kernel_rfl) rfl #[.agg #[.bool L, .slice ak nk ck, .slice av nv cv], .int .i64 0, .int .i64 (i : Int)] (by rfl) rfl rfl (by simp only [List.map_toArray, List.map_cons, List.map_nil]; rfl) ?_
  with_reducible refine (part_int L Ks Vs ak av nk ck nv cv 0 i i 0 (i : Int) _ (RK.out.1.below B4.out) (RK.out.2.below B4.out) (by omega) (by omega) (by have := HE.out; omega) (by have := HE.out; omega) (by have := HE.out; omega) (by have := HE.out; have := HM.out.2; omega)).mono ?_
  rintro e w5 ⟨A5, c5, A5x, c5x, rfl, ho, hb⟩
  refine ⟨_, rfl, ?_⟩
  have B5 := Lib.hid (below_then' B4.out hb)
  have Z5 := Lib.hid (Nat.le_trans Z4.out hb.size)
  have P5 := Lib.hid (keep_row P4.out hb)
  have Q5 := Lib.hid (keep_row Q4.out hb)
  have O5_5 := Lib.hid ho
  clear hb ho
  refine hK.out _ _ ⟨cell_row P5.out rfl, cell_row P5.out rfl, cell_row P5.out rfl⟩ (fun hHeld => ?_)
  clear hK K
  refine norm_ (a' := ?_) ?_ ?_
  rotate_left
  · show Act.put _ (some 19) _ = _
    simp only [Act.put, List.setIfInBounds_toArray, List.set_cons_zero, List.set_cons_succ, i64_w, i32_w]
    rfl
  refine one_ (i := 7) (N := some 24) #[true, true, true, true, true, true, true, true, false, false, false] rfl rfl (by kernel_rfl) (by decide) (fun K hK => ?_)
  refine goes_ Try.func46 (by kernel_rfl) rfl #[.agg #[.bool L, .slice ak nk ck, .slice av nv cv]] (by rfl) rfl rfl (by simp only [List.map_toArray, List.map_cons, List.map_nil]; rfl) ?_
  with_reducible refine (pairs_at L ak av nk ck nv cv m _ HM.out.1 HN.out.1 HN.out.2).mono ?_
  rintro e w6 ⟨rfl, hb⟩
  refine ⟨_, rfl, ?_⟩
  have B6 := Lib.hid (below_then' B5.out hb)
  have Z6 := Lib.hid (Nat.le_trans Z5.out hb.size)
  have P6 := Lib.hid (keep_row P5.out hb)
  have Q6 := Lib.hid (keep_row Q5.out hb)
  have O5_6 := Lib.hid (own2_below O5_5.out hb)
  clear hb
  refine hK.out _ _ ⟨cell_row P6.out rfl, cell_row P6.out rfl, cell_row P6.out rfl⟩ (fun hHeld => ?_)
  clear hK K
  refine norm_ (a' := ?_) ?_ ?_
  rotate_left
  · show Act.put _ (some 24) _ = _
    simp only [Act.put, List.setIfInBounds_toArray, List.set_cons_zero, List.set_cons_succ, i64_w, i32_w]
    rfl
  refine one_ (i := 8) (N := some 25) #[true, true, true, true, true, true, true, true, true, false, false] rfl rfl (by kernel_rfl) (by decide) (fun K hK => ?_)
  refine goes_ Try.func52 (by kernel_rfl) rfl #[.agg #[.bool L, .slice ak nk ck, .slice av nv cv], .int .i64 ((i : Int) + 1), .int .i64 (m : Int)] (by rfl) rfl rfl (by simp only [List.map_toArray, List.map_cons, List.map_nil]; rfl) ?_
  with_reducible refine (part_int L Ks Vs ak av nk ck nv cv (i + 1) m d ((i : Int) + 1) (m : Int) _ (RK.out.1.below B6.out) (RK.out.2.below B6.out) (by omega) (by omega) (by have := HE.out; omega) (by have := HE.out; omega) (by have := HE.out; omega) (by have := HE.out; have := HM.out.2; omega)).mono ?_
  rintro e w7 ⟨A7, c7, A7x, c7x, rfl, ho, hb⟩
  refine ⟨_, rfl, ?_⟩
  have B7 := Lib.hid (below_then' B6.out hb)
  have Z7 := Lib.hid (Nat.le_trans Z6.out hb.size)
  have P7 := Lib.hid (keep_row P6.out hb)
  have Q7 := Lib.hid (keep_row Q6.out hb)
  have O5_7 := Lib.hid (own2_below O5_6.out hb)
  have O7_7 := Lib.hid ho
  clear hb ho
  refine hK.out _ _ ⟨cell_row P7.out rfl, cell_row P7.out rfl, cell_row P7.out rfl⟩ (fun hHeld => ?_)
  clear hK K
  refine norm_ (a' := ?_) ?_ ?_
  rotate_left
  · show Act.put _ (some 25) _ = _
    simp only [Act.put, List.setIfInBounds_toArray, List.set_cons_zero, List.set_cons_succ, i64_w, i32_w]
    rfl
  refine one_ (i := 9) (N := some 26) #[true, true, true, true, true, true, true, true, true, true, false] rfl rfl (by kernel_rfl) (by decide) (fun K hK => ?_)
  refine goes_ Try.func25 (by kernel_rfl) rfl #[.agg #[.bool L, .slice A5 i c5, .slice A5x i c5x], .agg #[.bool L, .slice A7 d c7, .slice A7x d c7x]] (by rfl) rfl rfl (by simp only [List.map_toArray, List.map_cons, List.map_nil]; rfl) ?_
  with_reducible refine (join_n L L _ _ _ _ A5 A5x A7 A7x i c5 c5x d c7 c7x (m - 1) _ _ _ O5_7.out O7_7.out (by have := HE.out; omega) (by have := HE.out; have := HM.out.2; omega)).mono ?_
  rintro e w8 ⟨A8, c8, A8x, c8x, rfl, ho, hb⟩
  refine ⟨_, rfl, ?_⟩
  have B8 := Lib.hid (below_then' B7.out hb)
  have Z8 := Lib.hid (Nat.le_trans Z7.out hb.size)
  have P8 := Lib.hid (keep_row P7.out hb)
  have Q8 := Lib.hid (keep_row Q7.out hb)
  have O5_8 := Lib.hid (own2_below O5_7.out hb)
  have O7_8 := Lib.hid (own2_below O7_7.out hb)
  have O8_8 := Lib.hid ho
  clear hb ho
  refine hK.out _ _ ⟨cell_row P8.out rfl, cell_row P8.out rfl, cell_row P8.out rfl⟩ (fun hHeld => ?_)
  clear hK K
  refine norm_ (a' := ?_) ?_ ?_
  rotate_left
  · show Act.put _ (some 26) _ = _
    simp only [Act.put, List.setIfInBounds_toArray, List.set_cons_zero, List.set_cons_succ, i64_w, i32_w]
    rfl
  refine last_ (i := 10) (N := none) #[true, true, true, true, true, true, true, true, true, true, true] rfl rfl (by kernel_rfl) (by decide) (fun K hK => ?_)
  refine skip_ (w1 := w8.setRow w1.heap.size #[.bool L, .slice A8 (m - 1) c8, .slice A8x (m - 1) c8x]) (by rfl) rfl (exec_store_row 24 _ _ rfl w1.heap.size #[.bool L, .slice A8 (m - 1) c8, .slice A8x (m - 1) c8x] (by rfl) (by rfl) 24 _ Q8.out (size3 _ _ _) rfl (one3 _ _ _ _ _ _ _)) ?_
  refine hK.out _ _ ?_
  clear hK K
  refine done_ (by kernel_rfl) ?_
  obtain ⟨wz, hwz⟩ : ∃ x, w8.setRow w1.heap.size #[.bool L, .slice A8 (m - 1) c8, .slice A8x (m - 1) c8x] = x := ⟨_, rfl⟩
  have qz : wz.heap[w1.heap.size]? = some (.cells #[.bool L, .slice A8 (m - 1) c8, .slice A8x (m - 1) c8x] 24) := by rw [← hwz]; exact setRow_heap _ _ _ _ _ _ Q8.out
  have ho := own2_setRow (own2_weaken O8_8.out Z7.out) SZ.out.2 #[.bool L, .slice A8 (m - 1) c8, .slice A8x (m - 1) c8x]
  rw [hwz] at ho
  have hbz : Below w.heap.size w wz := by rw [← hwz]; exact below_setRow B8.out (Nat.le_of_lt SZ.out.1) _
  rw [hwz]
  clear hwz
  go_wp2_with fail
  exact ret_c 4 rfl w1.heap.size #[.bool L, .slice A8 (m - 1) c8, .slice A8x (m - 1) c8x] (0, 0) rfl qz rfl rfl ⟨_, _, _, _, rfl, own2_weaken ho (by have := SZ.out; omega), hbz⟩
theorem rinst_at (L : Bool) (Ks Vs xs ys : List Int) (ak av : Option Addr) (nk ck nv cv m : Nat) (at_ key val : Int) (w : World) (HK : ReadsInt w .u64 ak nk Ks) (HV : ReadsInt w .u64 av nv Vs) (hm : min nk nv = m) (hx : insL (Ks.take m) at_ key = xs) (hy : insL (Vs.take m) at_ val = ys) (hs : (m + 1) * 8 ≤ 140737488355328) :
    Calls Try.prog 41 #[.agg #[.bool L, .slice ak nk ck, .slice av nv cv], .int .i64 at_, .int .u64 key, .int .u64 val] w fun e w' => N1 w w' e L (m + 1) (m + 1) xs ys := by
  have lk : (Ks.take m).length = m := by rw [List.length_take, HK.1]; omega
  have lv : (Vs.take m).length = m := by rw [List.length_take, HV.1]; omega
  by_cases h : at_ < 0
  · have e : min at_.toNat m = 0 := by omega
    rw [← hx, ← hy, ← ins_eq lk e, ← ins_eq lv e]
    exact rins_lo L Ks Vs ak av nk ck nv cv m at_ key val w HK HV hm hs h
  · by_cases h2 : (m : Int) < at_
    · have e : min at_.toNat m = m := by omega
      rw [← hx, ← hy, ← ins_eq lk e, ← ins_eq lv e]
      exact rins_hi L Ks Vs ak av nk ck nv cv m at_ key val w HK HV hm hs h2
    · obtain ⟨i, rfl⟩ := Int.eq_ofNat_of_zero_le (show 0 ≤ at_ by omega)
      have e : min (i : Int).toNat m = i := by omega
      rw [← hx, ← hy, ← ins_eq lk e, ← ins_eq lv e]
      exact rins_mid L Ks Vs ak av nk ck nv cv m i key val w HK HV hm hs (by omega)
theorem rset_at (L : Bool) (Ks Vs xs ys : List Int) (ak av : Option Addr) (nk ck nv cv m : Nat) (at_ key val : Int) (w : World) (HK : ReadsInt w .u64 ak nk Ks) (HV : ReadsInt w .u64 av nv Vs) (hm : min nk nv = m) (hx : setL (Ks.take m) at_ key = xs) (hy : setL (Vs.take m) at_ val = ys) (hs : (m + 1) * 8 ≤ 140737488355328) :
    Calls Try.prog 42 #[.agg #[.bool L, .slice ak nk ck, .slice av nv cv], .int .i64 at_, .int .u64 key, .int .u64 val] w fun e w' => N1 w w' e L m m xs ys := by
  have lk : (Ks.take m).length = m := by rw [List.length_take, HK.1]; omega
  have lv : (Vs.take m).length = m := by rw [List.length_take, HV.1]; omega
  have out : ¬ (0 ≤ at_ ∧ at_ < (m : Int)) → xs = Ks.take m ∧ ys = Vs.take m := fun h => by
    rw [← hx, ← hy]; unfold setL; rw [lk, lv, if_neg h, if_neg h]; exact ⟨rfl, rfl⟩
  by_cases h : at_ < 0
  · obtain ⟨e1, e2⟩ := out (by omega)
    rw [e1, e2]
    exact rset_neg L Ks Vs ak av nk ck nv cv m at_ key val w HK HV hm hs h
  · by_cases h2 : (m : Int) ≤ at_
    · obtain ⟨e1, e2⟩ := out (by omega)
      rw [e1, e2]
      exact rset_far L Ks Vs ak av nk ck nv cv m at_ key val w HK HV hm hs (by omega) h2
    · obtain ⟨i, rfl⟩ := Int.eq_ofNat_of_zero_le (show 0 ≤ at_ by omega)
      rw [← hx, ← hy, ← set_eq lk (by omega), ← set_eq lv (by omega)]
      exact rset_in L Ks Vs ak av nk ck nv cv m i key val w HK HV hm hs (by omega)
theorem rrem_at (L : Bool) (Ks Vs xs ys : List Int) (ak av : Option Addr) (nk ck nv cv m q : Nat) (at_ : Int) (w : World) (HK : ReadsInt w .u64 ak nk Ks) (HV : ReadsInt w .u64 av nv Vs) (hm : min nk nv = m) (hx : remL (Ks.take m) at_ = xs) (hy : remL (Vs.take m) at_ = ys) (hq : remN m at_ = q) (hs : (m + 1) * 8 ≤ 140737488355328) :
    Calls Try.prog 43 #[.agg #[.bool L, .slice ak nk ck, .slice av nv cv], .int .i64 at_] w fun e w' => N1 w w' e L q q xs ys := by
  have lk : (Ks.take m).length = m := by rw [List.length_take, HK.1]; omega
  have lv : (Vs.take m).length = m := by rw [List.length_take, HV.1]; omega
  have out : ¬ (0 ≤ at_ ∧ at_ < (m : Int)) → xs = Ks.take m ∧ ys = Vs.take m ∧ q = m := fun h => by
    rw [← hx, ← hy, ← hq]; unfold remL remN; rw [lk, lv, if_neg h, if_neg h, if_neg h]; exact ⟨rfl, rfl, rfl⟩
  by_cases h : at_ < 0
  · obtain ⟨e1, e2, e3⟩ := out (by omega)
    rw [e1, e2, e3]
    exact rrem_neg L Ks Vs ak av nk ck nv cv m at_ w HK HV hm hs h
  · by_cases h2 : (m : Int) ≤ at_
    · obtain ⟨e1, e2, e3⟩ := out (by omega)
      rw [e1, e2, e3]
      exact rrem_far L Ks Vs ak av nk ck nv cv m at_ w HK HV hm hs (by omega) h2
    · obtain ⟨i, rfl⟩ := Int.eq_ofNat_of_zero_le (show 0 ≤ at_ by omega)
      have e3 : q = m - 1 := by rw [← hq]; unfold remN; rw [if_pos (by omega)]
      rw [← hx, ← hy, e3, ← rem_eq lk (by omega), ← rem_eq lv (by omega)]
      exact rrem_in L Ks Vs ak av nk ck nv cv m i w HK HV hm hs (by omega)
end Go.Proofs.Ytdekplalhfpooaa.Knt
