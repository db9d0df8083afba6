/- Knots: Split and Even, with the room of the first half's lists (every input). -/
import Derived.BigQuiet
import Derived.Test.YtdekplalhfpooaaKntR
set_option linter.unusedVariables false
set_option linter.unusedSimpArgs false
namespace Go.Proofs.Ytdekplalhfpooaa.Knt
open Go Go.RowKit Go.Proofs.YtdekplalhfpooaaW.PrintWords Go.Proofs.YtdekplalhfpooaaW.PrintLast Go.Proofs.YtdekplalhfpooaaW.PrintMore Base Odr Hlp Nod

/-- A node of the call's own, with no room behind its lists. -/
def NBc (w w' : World) (e : Ending) (L : Bool) (n : Nat) (xs ys : List Int) : Prop :=
  ∃ A A', e = .returned (.agg #[.bool L, .slice A n n, .slice A' n n]) ∧ Own2 w' w.heap.size A n A' n n n xs ys ∧ Below w.heap.size w w'
def N2c (w w' : World) (e : Ending) (L : Bool) (n m : Nat) (xs ys xs' ys' : List Int) : Prop :=
  ∃ A A' D k D' k', e = .returned (.tuple #[.agg #[.bool L, .slice A n n, .slice A' n n], .agg #[.bool L, .slice D m k, .slice D' m k']]) ∧ Own2 w' w.heap.size A n A' n n n xs ys ∧ Own2 w' w.heap.size D k D' k' m m xs' ys' ∧
    Far A n D m ∧ Far A n D' m ∧ Far A' n D m ∧ Far A' n D' m ∧ Below w.heap.size w w'
set_option maxRecDepth 100000 in
set_option maxHeartbeats 3200000 in
theorem both_h1c (L : Bool) (Ks V : List Int) (ak av : Option Addr) (nk ck nv cv m : Nat) (ge h : Nat) (w : World) (HK : ReadsInt w .u64 ak nk Ks) (HV : ReadsInt w .u64 av nv V) (hm : min nk nv = m) (henv : w.heap[ge]? = some (.cells #[.int .i64 (h : Int)] 3)) (hh : h ≤ m) (hk : nk ≤ ck ∧ nv ≤ cv) (hn : ak = none → ck = 0) (hn' : av = none → cv = 0) (hs : m * 8 ≤ 140737488355328) :
    Calls Try.prog 47 #[.agg #[.bool L, .slice ak nk ck, .slice av nv cv], .func (.func 48) #[] #[.pointer (some ⟨ge, 0, none⟩)]] w fun e w' => NBc w w' e L h ((Ks.take m).take h) ((V.take m).take h) := by
  obtain ⟨w1, hw1, b1, f1, s1⟩ := made w #[.bool L, .slice ak nk ck, .slice av nv cv] 24
  obtain ⟨w2, hw2, b2, f2, s2⟩ := made w1 #[.bool false, .slice none 0 0, .slice none 0 0] 24
  have B2 := Lib.hid (below_then' b1 b2)
  have P2 := Lib.hid (keep_row f1 b2)
  have Q2 := Lib.hid f2
  have SP := Lib.hid (show w.heap.size < w2.heap.size ∧ w1.heap.size < w2.heap.size ∧ w.heap.size ≤ w1.heap.size by omega)
  have RK := Lib.hid (HK.below B2.out)
  have RV := Lib.hid (HV.below B2.out)
  have HM := Lib.hid hm
  have HC := Lib.hid (And.intro hk (And.intro hn hn'))
  have HS := Lib.hid (And.intro HK.2.1 (And.intro HV.2.1 hs))
  have HL := Lib.hid (And.intro HK.1 HV.1)
  have HE := Lib.hid (keep_row henv B2.out)
  have HH := Lib.hid hh
  have HLK := Lib.hid (show (Ks.take m).length = m by rw [List.length_take, HK.1]; omega)
  have HLV := Lib.hid (show (V.take m).length = m by rw [List.length_take, HV.1]; omega)
  clear b1 f1 s1 b2 f2 s2 HK HV hm hk hn hn' hs henv hh
  go_enter Try.func47, Try.ntmps47
  go_wp2_with ((with_reducible refine wpList_load_row rfl 24 (.tmp 2) rfl w.heap.size ?_ 24 _ _ _ P2.out Try.underlying24 ?_ (size3 _ _ _) ?_); rfl; rfl)
  refine (count_at L ak av nk ck nv cv m _ HM.out HS.out.1 HS.out.2.1).mono ?_; rintro e w3 ⟨rfl, hb⟩
  have B3 := Lib.hid (below_then' B2.out hb)
  have P3 := Lib.hid (keep_row P2.out hb)
  have Q3 := Lib.hid (keep_row Q2.out hb)
  have RK3 := Lib.hid (RK.out.below hb)
  have RV3 := Lib.hid (RV.out.below hb)
  have SP3 := Lib.hid (show w2.heap.size ≤ w3.heap.size from hb.size)
  have HE3 := Lib.hid (keep_row HE.out hb)
  have hmk : (m : Int) ≤ (ck : Int) := by have h1 := HM.out; have h2 := HC.out.1; omega
  have hmv : (m : Int) ≤ (cv : Int) := by have h1 := HM.out; have h2 := HC.out.1; omega
  have hmk' : m ≤ ck := by omega
  have hmv' : m ≤ cv := by omega
  clear hb hw1 hw2
  go_wp2_with fail
  refine start_ (n := 20) (S := fun w' => w'.cell? ⟨w.heap.size, 0, none⟩ = some (.bool L) ∧ w'.cell? ⟨w.heap.size, 1, none⟩ = some (.slice ak nk ck) ∧ w'.cell? ⟨w.heap.size, 2, none⟩ = some (.slice av nv cv)) (ds := [19]) #[false, false, false, false, false, false, false, false, false, false, false, false, false, false, false, false, false, false, false, false] (by kernel_rfl) rfl rfl ⟨cell_row P3.out rfl, cell_row P3.out rfl, cell_row P3.out rfl⟩ (fun hHeld => ?_)
  refine pure_ (i := 0) (N := some 8) (v := ?_) (a' := ?_) #[true, false, false, false, false, false, false, false, false, false, false, false, false, false, false, false, false, false, false, false] rfl rfl (by kernel_rfl) (fun _ _ _ h => h) (Or.inl ⟨by rfl, ?_⟩) ?_ ?_
  rotate_left
  · intro w'
    go_simp
    with_reducible rfl
  rotate_left
  · simp only [Act.put, List.setIfInBounds_toArray, List.set_cons_zero, List.set_cons_succ, i64_w, i32_w]
    rfl
  refine pure_ (i := 2) (N := some 10) (v := ?_) (a' := ?_) #[true, false, true, false, false, false, false, false, false, false, false, false, false, false, false, false, false, false, false, false] rfl rfl (by kernel_rfl) (fun _ _ _ h => h) (Or.inl ⟨by rfl, ?_⟩) ?_ ?_
  rotate_left
  · intro w'
    go_simp
    with_reducible rfl
  rotate_left
  · simp only [Act.put, List.setIfInBounds_toArray, List.set_cons_zero, List.set_cons_succ, i64_w, i32_w]
    rfl
  refine pure_ (i := 3) (N := some 11) (v := ?_) (a' := ?_) #[true, false, true, true, false, false, false, false, false, false, false, false, false, false, false, false, false, false, false, false] rfl rfl (by kernel_rfl) (fun _ _ _ h => h) (Or.inl ⟨by rfl, ?_⟩) ?_ ?_
  rotate_left
  · intro w'
    go_simp
    with_reducible rfl
  rotate_left
  · simp only [Act.put, List.setIfInBounds_toArray, List.set_cons_zero, List.set_cons_succ, i64_w, i32_w]
    rfl
  refine pure_ (i := 5) (N := some 13) (v := ?_) (a' := ?_) #[true, false, true, true, false, true, false, false, false, false, false, false, false, false, false, false, false, false, false, false] rfl rfl (by kernel_rfl) (fun _ _ _ h => h) (Or.inl ⟨by rfl, ?_⟩) ?_ ?_
  rotate_left
  · intro w'
    go_simp
    with_reducible rfl
  rotate_left
  · simp only [Act.put, List.setIfInBounds_toArray, List.set_cons_zero, List.set_cons_succ, i64_w, i32_w]
    rfl
  refine pure_ (i := 6) (N := some 14) (v := ?_) (a' := ?_) #[true, false, true, true, false, true, true, false, false, false, false, false, false, false, false, false, false, false, false, false] rfl rfl (by kernel_rfl) (fun _ _ _ h => h) (Or.inl ⟨by rfl, ?_⟩) ?_ ?_
  rotate_left
  · intro w'
    go_simp
    with_reducible rfl
  rotate_left
  · simp only [Act.put, List.setIfInBounds_toArray, List.set_cons_zero, List.set_cons_succ, i64_w, i32_w]
    rfl
  refine pure_ (i := 10) (N := some 18) (v := ?_) (a' := ?_) #[true, false, true, true, false, true, true, false, false, false, true, false, false, false, false, false, false, false, false, false] rfl rfl (by kernel_rfl) (fun _ _ _ h => h) (Or.inl ⟨by rfl, ?_⟩) ?_ ?_
  rotate_left
  · intro w'
    go_simp
    with_reducible rfl
  rotate_left
  · simp only [Act.put, List.setIfInBounds_toArray, List.set_cons_zero, List.set_cons_succ, i64_w, i32_w]
    rfl
  refine pure_ (i := 11) (N := some 19) (v := ?_) (a' := ?_) #[true, false, true, true, false, true, true, false, false, false, true, true, false, false, false, false, false, false, false, false] rfl rfl (by kernel_rfl) (fun _ _ _ h => h) (Or.inl ⟨by rfl, ?_⟩) ?_ ?_
  rotate_left
  · intro w'
    go_simp
    with_reducible rfl
  rotate_left
  · simp only [Act.put, List.setIfInBounds_toArray, List.set_cons_zero, List.set_cons_succ, i64_w, i32_w]
    rfl
  refine pure_ (i := 13) (N := some 21) (v := ?_) (a' := ?_) #[true, false, true, true, false, true, true, false, false, false, true, true, false, true, false, false, false, false, false, false] rfl rfl (by kernel_rfl) (fun _ _ _ h => h) (Or.inl ⟨by rfl, ?_⟩) ?_ ?_
  rotate_left
  · intro w'
    go_simp
    with_reducible rfl
  rotate_left
  · simp only [Act.put, List.setIfInBounds_toArray, List.set_cons_zero, List.set_cons_succ, i64_w, i32_w]
    rfl
  refine pure_ (i := 14) (N := some 22) (v := ?_) (a' := ?_) #[true, false, true, true, false, true, true, false, false, false, true, true, false, true, true, false, false, false, false, false] rfl rfl (by kernel_rfl) (fun _ _ _ h => h) (Or.inl ⟨by rfl, ?_⟩) ?_ ?_
  rotate_left
  · intro w'
    go_simp
    with_reducible rfl
  rotate_left
  · simp only [Act.put, List.setIfInBounds_toArray, List.set_cons_zero, List.set_cons_succ, i64_w, i32_w]
    rfl
  refine take_ (i := 1) (N := some 9) (v := ?_) (a' := ?_) #[true, true, true, true, false, true, true, false, false, false, true, true, false, true, true, false, false, false, false, false] rfl rfl (by kernel_rfl) (fun _ _ _ h => h) (Or.inl ⟨by rfl, ?_⟩) hHeld ?_ ?_
  rotate_left
  · rintro w' ⟨s0, s1, s2⟩
    go_simp
    with_reducible rfl
  rotate_left
  · simp only [Act.put, List.setIfInBounds_toArray, List.set_cons_zero, List.set_cons_succ, i64_w, i32_w]
    rfl
  refine take_ (i := 4) (N := some 12) (v := ?_) (a' := ?_) #[true, true, true, true, true, true, true, false, false, false, true, true, false, true, true, false, false, false, false, false] rfl rfl (by kernel_rfl) (fun _ _ _ h => h) (Or.inl ⟨by rfl, ?_⟩) hHeld ?_ ?_
  rotate_left
  · rintro w' ⟨s0, s1, s2⟩
    go_simp
    with_reducible rfl
  rotate_left
  · simp only [Act.put, List.setIfInBounds_toArray, List.set_cons_zero, List.set_cons_succ, i64_w, i32_w]
    rfl
  refine pure_ (i := 7) (N := some 15) (v := ?_) (a' := ?_) #[true, true, true, true, true, true, true, true, false, false, true, true, false, true, true, false, false, false, false, false] rfl rfl (by kernel_rfl) (fun _ _ _ h => h) (Or.inl ⟨by rfl, ?_⟩) ?_ ?_
  rotate_left
  · intro w'
    go_simp
    with_reducible rfl
  rotate_left
  · simp only [Act.put, List.setIfInBounds_toArray, List.set_cons_zero, List.set_cons_succ, i64_w, i32_w]
    rfl
  refine take_ (i := 12) (N := some 20) (v := ?_) (a' := ?_) #[true, true, true, true, true, true, true, true, false, false, true, true, true, true, true, false, false, false, false, false] rfl rfl (by kernel_rfl) (fun _ _ _ h => h) (Or.inl ⟨by rfl, ?_⟩) hHeld ?_ ?_
  rotate_left
  · rintro w' ⟨s0, s1, s2⟩
    go_simp
    with_reducible rfl
  rotate_left
  · simp only [Act.put, List.setIfInBounds_toArray, List.set_cons_zero, List.set_cons_succ, i64_w, i32_w]
    rfl
  refine pure_ (i := 15) (N := some 23) (v := ?_) (a' := ?_) #[true, true, true, true, true, true, true, true, false, false, true, true, true, true, true, true, false, false, false, false] rfl rfl (by kernel_rfl) (fun _ _ _ h => h) (Or.inl ⟨by rfl, ?_⟩) ?_ ?_
  rotate_left
  · intro w'
    go_simp
    with_reducible rfl
  rotate_left
  · simp only [Act.put, List.setIfInBounds_toArray, List.set_cons_zero, List.set_cons_succ, i64_w, i32_w]
    rfl
  refine one_ (i := 8) (N := some 16) #[true, true, true, true, true, true, true, true, true, false, true, true, true, true, true, true, false, false, false, false] rfl rfl (by kernel_rfl) (by decide) (fun K hK => ?_)
  refine goes_ Try.func65 (by kernel_rfl) rfl #[.slice ak m m] (by rfl) rfl rfl (by simp only [List.map_toArray, List.map_cons, List.map_nil]; rfl) ?_
  with_reducible refine (clone_any (Ks.take m) ak m m _ (ReadsInt.take_ (reads_drew RK3.out) m (by have := HM.out; omega)) HS.out.2.2 (by have h1 := HC.out.2.1; intro h; have := h1 h; have := hmk'; omega)).mono ?_
  rintro e w4 ⟨A4, c4, rfl, ho, hb⟩
  refine ⟨_, rfl, ?_⟩
  have BB4 := Lib.hid hb
  have OK4 := Lib.hid ho
  have P4 := Lib.hid (keep_row (w := w3.drew) P3.out hb)
  have Q4 := Lib.hid (keep_row (w := w3.drew) Q3.out hb)
  have RV4 := Lib.hid (ReadsInt.below (reads_drew RV3.out) hb)
  have HE4 := Lib.hid (keep_row (w := w3.drew) HE3.out hb)
  clear ho hb
  refine hK.out _ _ ⟨cell_row P4.out rfl, cell_row P4.out rfl, cell_row P4.out rfl⟩ (fun hHeld => ?_)
  clear hK K
  refine norm_ (a' := ?_) ?_ ?_
  rotate_left
  · show Act.put _ (some 16) _ = _
    simp only [Act.put, List.setIfInBounds_toArray, List.set_cons_zero, List.set_cons_succ, i64_w, i32_w]
    rfl
  refine one_ (i := 9) (N := some 17) #[true, true, true, true, true, true, true, true, true, true, true, true, true, true, true, true, false, false, false, false] rfl rfl (by kernel_rfl) (by decide) (fun K hK => ?_)
  refine goes_fv Try.func48 (by kernel_rfl) rfl (.tmp 10) #[] #[.pointer (some ⟨ge, 0, none⟩)] #[.slice A4 m c4, .bool true, .pointer (some ⟨ge, 0, none⟩)] (by rfl) rfl rfl rfl (by simp only [List.map_toArray, List.map_cons, List.map_nil]; rfl) ?_
  with_reducible refine (half1_at A4 m c4 h ge true _ HE4.out HH.out (own_cap OK4.out)).mono ?_
  rintro e w5 ⟨rfl, rfl⟩
  refine ⟨_, rfl, ?_⟩
  refine hK.out _ _ ⟨cell_row P4.out rfl, cell_row P4.out rfl, cell_row P4.out rfl⟩ (fun hHeld => ?_)
  clear hK K
  refine norm_ (a' := ?_) ?_ ?_
  rotate_left
  · show Act.put _ (some 17) _ = _
    simp only [Act.put, List.setIfInBounds_toArray, List.set_cons_zero, List.set_cons_succ, i64_w, i32_w]
    rfl
  refine one_ (i := 16) (N := some 24) #[true, true, true, true, true, true, true, true, true, true, true, true, true, true, true, true, true, false, false, false] rfl rfl (by kernel_rfl) (by decide) (fun K hK => ?_)
  refine goes_ Try.func65 (by kernel_rfl) rfl #[.slice av m m] (by rfl) rfl rfl (by simp only [List.map_toArray, List.map_cons, List.map_nil]; rfl) ?_
  with_reducible refine (clone_any (V.take m) av m m _ (ReadsInt.take_ RV4.out m (by have := HM.out; omega)) HS.out.2.2 (by have h1 := HC.out.2.2; intro h; have := h1 h; have := hmv'; omega)).mono ?_
  rintro e w6 ⟨A6, c6, rfl, ho, hb⟩
  refine ⟨_, rfl, ?_⟩
  have BB6 := Lib.hid (below_then BB4.out BB4.out.size hb)
  have OV6 := Lib.hid ho
  have OK6 := Lib.hid (pw_own_below OK4.out hb)
  have AP6 := Lib.hid (apart_own (p := 0) OK4.out ho (Nat.le_refl _))
  have P6 := Lib.hid (keep_row (w := w3.drew) P3.out BB6.out)
  have Q6 := Lib.hid (keep_row (w := w3.drew) Q3.out BB6.out)
  have HE6 := Lib.hid (keep_row (w := w3.drew) HE3.out BB6.out)
  clear ho hb
  refine hK.out _ _ ⟨cell_row P6.out rfl, cell_row P6.out rfl, cell_row P6.out rfl⟩ (fun hHeld => ?_)
  clear hK K
  refine norm_ (a' := ?_) ?_ ?_
  rotate_left
  · show Act.put _ (some 24) _ = _
    simp only [Act.put, List.setIfInBounds_toArray, List.set_cons_zero, List.set_cons_succ, i64_w, i32_w]
    rfl
  refine one_ (i := 17) (N := some 25) #[true, true, true, true, true, true, true, true, true, true, true, true, true, true, true, true, true, true, false, false] rfl rfl (by kernel_rfl) (by decide) (fun K hK => ?_)
  refine goes_fv Try.func48 (by kernel_rfl) rfl (.tmp 18) #[] #[.pointer (some ⟨ge, 0, none⟩)] #[.slice A6 m c6, .bool false, .pointer (some ⟨ge, 0, none⟩)] (by rfl) rfl rfl rfl (by simp only [List.map_toArray, List.map_cons, List.map_nil]; rfl) ?_
  with_reducible refine (half1_at A6 m c6 h ge false _ HE6.out HH.out (own_cap OV6.out)).mono ?_
  rintro e w7 ⟨rfl, rfl⟩
  refine ⟨_, rfl, ?_⟩
  refine hK.out _ _ ⟨cell_row P6.out rfl, cell_row P6.out rfl, cell_row P6.out rfl⟩ (fun hHeld => ?_)
  clear hK K
  refine norm_ (a' := ?_) ?_ ?_
  rotate_left
  · show Act.put _ (some 25) _ = _
    simp only [Act.put, List.setIfInBounds_toArray, List.set_cons_zero, List.set_cons_succ, i64_w, i32_w]
    rfl
  refine pure_ (i := 18) (N := some 26) (v := ?_) (a' := ?_) #[true, true, true, true, true, true, true, true, true, true, true, true, true, true, true, true, true, true, true, false] rfl rfl (by kernel_rfl) (fun _ _ _ h => h) (Or.inl ⟨by rfl, ?_⟩) ?_ ?_
  rotate_left
  · intro w'
    go_simp
    with_reducible rfl
  rotate_left
  · simp only [Act.put, List.setIfInBounds_toArray, List.set_cons_zero, List.set_cons_succ, i64_w, i32_w]
    rfl
  refine last_ (i := 19) (N := none) #[true, true, true, true, true, true, true, true, true, true, true, true, true, true, true, true, true, true, true, true] rfl rfl (by kernel_rfl) (by decide) (fun K hK => ?_)
  refine skip_ (w1 := w6.setRow w1.heap.size #[.bool L, .slice A4 h h, .slice A6 h h]) (by rfl) rfl (exec_store_row 24 _ _ rfl w1.heap.size #[.bool L, .slice A4 h h, .slice A6 h h] (by rfl) (by rfl) 24 _ Q6.out (size3 _ _ _) rfl (one3 _ _ _ _ _ _ _)) ?_
  obtain ⟨w8, hw8⟩ : ∃ w8, w8 = w6.setRow w1.heap.size #[.bool L, .slice A4 h h, .slice A6 h h] := ⟨_, rfl⟩
  rw [← hw8]
  have HW8 := Lib.hid hw8
  clear hw8
  refine hK.out _ _ ?_
  clear hK K
  refine done_ (by kernel_rfl) ?_
  have hbase : w2.heap.size ≤ w3.drew.heap.size := SP3.out
  have hk8 : w8.heap[w1.heap.size]? = some (.cells #[.bool L, .slice A4 h h, .slice A6 h h] 24) := by rw [HW8.out]; exact setRow_heap _ _ _ _ _ _ Q6.out
  have ok8 := own_setRow (g := w1.heap.size) OK6.out (own_ne OK6.out (by have := SP.out; omega)) #[.bool L, .slice A4 h h, .slice A6 h h]
  have ov8 := own_setRow (g := w1.heap.size) OV6.out (own_ne OV6.out (by have h1 := SP.out; have h2 := BB4.out.size; omega)) #[.bool L, .slice A4 h h, .slice A6 h h]
  rw [← HW8.out] at ok8 ov8
  have b8 : Below w.heap.size w w8 := by rw [HW8.out]; exact below_setRow (below_then (below_drew B3.out) (below_drew B3.out).size BB6.out) SP.out.2.2 _
  have hbw : w.heap.size ≤ w3.drew.heap.size := by have h1 := SP.out; omega
  have hbv : w.heap.size ≤ w4.heap.size := Nat.le_trans hbw BB4.out.size
  go_wp2_with fail
  refine ret_c 4 rfl w1.heap.size #[.bool L, .slice A4 h h, .slice A6 h h] (0, 0) rfl hk8 rfl rfl ?_
  exact ⟨A4, A6, rfl, ⟨mine_weaken (mine_take ok8 HLK.out HH.out) hbw, mine_weaken (mine_take ov8 HLV.out HH.out) hbv, far_apart AP6.out _ _, Nat.le_refl _, Nat.le_refl _, fun h0 => by have h1 := own_nilc ok8 h0; have h2 := HH.out; omega, fun h0 => by have h1 := own_nilc ov8 h0; have h2 := HH.out; omega⟩, b8⟩
set_option maxRecDepth 100000 in
set_option maxHeartbeats 3200000 in
theorem split_cap (L : Bool) (Ks Vs : List Int) (ak av : Option Addr) (nk ck nv cv m h d : Nat) (w : World) (HK : ReadsInt w .u64 ak nk Ks) (HV : ReadsInt w .u64 av nv Vs) (hm : min nk nv = m) (hh : (m + 1) / 2 = h) (hd : m - h = d) (hk : nk ≤ ck ∧ nv ≤ cv) (hn : (ak = none → ck = 0) ∧ (av = none → cv = 0)) (hs : m * 8 ≤ 140737488355328) :
    Calls Try.prog 21 #[.agg #[.bool L, .slice ak nk ck, .slice av nv cv]] w fun e w' => N2c w w' e L h d ((Ks.take m).take h) ((Vs.take m).take h) ((Ks.take m).drop h) ((Vs.take m).drop h) := by
  obtain ⟨w1, hw1, b1, f1, s1⟩ := made w #[.bool L, .slice ak nk ck, .slice av nv cv] 24
  obtain ⟨w2, hw2, b2, f2, s2⟩ := made w1 #[.bool false, .slice none 0 0, .slice none 0 0] 24
  obtain ⟨w3, hw3, b3, f3, s3⟩ := made w2 #[.bool false, .slice none 0 0, .slice none 0 0] 24
  have B3 := Lib.hid (below_then' (below_then' b1 b2) b3)
  have P3 := Lib.hid (keep_row (keep_row f1 b2) b3)
  have Q3 := Lib.hid (keep_row f2 b3)
  have F3 := Lib.hid f3
  have SP := Lib.hid (show w.heap.size < w1.heap.size ∧ w1.heap.size < w2.heap.size ∧ w2.heap.size < w3.heap.size by omega)
  have RK := Lib.hid (And.intro (HK.below B3.out) (HV.below B3.out))
  have HM := Lib.hid (And.intro hm (And.intro hh hd))
  have HC := Lib.hid (And.intro hk hn)
  have HS := Lib.hid (And.intro HK.2.1 (And.intro HV.2.1 hs))
  clear b1 f1 s1 b2 f2 s2 b3 f3 s3 HK HV hm hh hd hk hn hs
  go_enter Try.func21, Try.ntmps21
  go_wp2_with ((with_reducible refine wpList_load_row rfl 24 (.tmp 1) rfl w.heap.size ?_ 24 _ _ _ P3.out Try.underlying24 ?_ (size3 _ _ _) ?_); rfl; rfl)
  clear hw1 hw2 hw3
  refine (count_at L ak av nk ck nv cv m _ HM.out.1 HS.out.1 HS.out.2.1).mono ?_; rintro e w4 ⟨rfl, hb⟩
  have B4 := Lib.hid (below_then' B3.out hb)
  have P4 := Lib.hid (keep_row P3.out hb)
  have Q4 := Lib.hid (keep_row Q3.out hb)
  have F4 := Lib.hid (keep_row F3.out hb)
  have RK4 := Lib.hid (And.intro (RK.out.1.below hb) (RK.out.2.below hb))
  have SP4 := Lib.hid (show w3.heap.size ≤ w4.heap.size from hb.size)
  clear hb
  obtain ⟨w5, hw5, b5, f5, s5⟩ := made w4 #[.int .i64 0] 3
  obtain ⟨w6, hw6⟩ : ∃ w6, w5.setCell ⟨w4.heap.size, 0, none⟩ (.int .i64 (h : Int)) = w6 := ⟨_, rfl⟩
  have y0 : w5.cell? ⟨w4.heap.size, 0, none⟩ = some (.int .i64 0) := cell_row f5 rfl
  have z0 : w5.frozen? ⟨w4.heap.size, 0, none⟩ = false := blk_frozen f5 0
  have E6 := Lib.hid (show w6.heap[w4.heap.size]? = some (.cells #[.int .i64 (h : Int)] 3) by rw [← hw6]; exact blk_put f5 0 _ rfl)
  have BB6 := Lib.hid (show Below w4.heap.size w4 w6 by rw [← hw6]; exact b5.setCell (Nat.le_refl _) _)
  have P6 := Lib.hid (keep_row P4.out BB6.out)
  have hm1 : m < 140737488355328 := by have h1 := HS.out.2.2; omega
  have hq : ((m : Int) + 1) / 2 = (h : Int) := by have h1 := HM.out.2.1; omega
  have hq2 : Int.tdiv ((m : Int) + 1) 2 = (h : Int) := by rw [Int.tdiv_eq_ediv_of_nonneg (by omega)]; exact hq
  have hh1 : h < 140737488355329 := by have h1 := HM.out.2.1; omega
  clear b5 f5 s5
  go_wp2_with ((with_reducible refine wpList_load_row rfl 24 (.tmp 1) rfl w.heap.size ?_ 24 _ _ _ P6.out Try.underlying24 ?_ (size3 _ _ _) ?_); rfl; rfl)
  clear hw5 hw6 y0 z0 hq hq2 hm1 hh1
  refine (both_h1c L Ks Vs ak av nk ck nv cv m w4.heap.size h _ (RK4.out.1.below BB6.out) (RK4.out.2.below BB6.out) HM.out.1 E6.out (by have := HM.out; omega) HC.out.1 HC.out.2.1 HC.out.2.2 HS.out.2.2).mono ?_; rintro e w7 hnb
  obtain ⟨A7, B7', rfl, ho, hb⟩ := hnb
  have OW7 := Lib.hid ho
  have B7 := Lib.hid (below_then' (below_then' B4.out BB6.out) hb)
  have P7 := Lib.hid (keep_row P6.out hb)
  have E7 := Lib.hid (keep_row E6.out hb)
  have Q7 := Lib.hid (keep_row (keep_row Q4.out BB6.out) hb)
  have F7 := Lib.hid (keep_row (keep_row F4.out BB6.out) hb)
  have RK7 := Lib.hid (And.intro ((RK4.out.1.below BB6.out).below hb) ((RK4.out.2.below BB6.out).below hb))
  have SP7 := Lib.hid (show w3.heap.size ≤ w6.heap.size ∧ w6.heap.size ≤ w7.heap.size by have h1 := SP4.out; have h2 := BB6.out.size; have h3 := hb.size; omega)
  clear ho hb
  obtain ⟨w8, hw8, b8, f8, s8⟩ := made w7 #[.bool false, .slice none 0 0, .slice none 0 0] 24
  obtain ⟨w9, hw9⟩ : ∃ w9, w8.setRow w7.heap.size #[.bool L, .slice A7 h h, .slice B7' h h] = w9 := ⟨_, rfl⟩
  have R8 := Lib.hid f8
  have X9 := Lib.hid (show w9.heap[w7.heap.size]? = some (.cells #[.bool L, .slice A7 h h, .slice B7' h h] 24) by rw [← hw9]; exact setRow_heap _ _ _ _ _ _ f8)
  have BB9 := Lib.hid (show Below w7.heap.size w7 w9 by rw [← hw9]; exact below_setRow b8 (Nat.le_refl _) _)
  have P9 := Lib.hid (keep_row P7.out BB9.out)
  clear b8 f8 s8
  go_wp2_with (first | ((with_reducible refine wpList_load_row rfl 24 (.tmp 1) rfl w.heap.size ?_ 24 _ _ _ P9.out Try.underlying24 ?_ (size3 _ _ _) ?_); rfl; rfl) | ((with_reducible refine wpList_store_row rfl 24 (.tmp 5) (.tmp 13) rfl w7.heap.size #[.bool L, .slice A7 h h, .slice B7' h h] ?_ ?_ 24 _ R8.out (size3 _ _ _) ?_ (one3 _ _ _ _ _ _ _) ?_); rfl; rfl; rfl; rw [hw9]))
  clear hw8 hw9
  refine (both_h2 L Ks Vs ak av nk ck nv cv m w4.heap.size h d _ (RK7.out.1.below BB9.out) (RK7.out.2.below BB9.out) HM.out.1 (keep_row E7.out BB9.out) (by have := HM.out; omega) HM.out.2.2 HC.out.1 HC.out.2.1 HC.out.2.2 HS.out.2.2).mono ?_; rintro e w10 hnb
  obtain ⟨A10, c10, B10', d10, rfl, ho, hb⟩ := nb_own hnb
  have OW10 := Lib.hid ho
  have OW7b := Lib.hid (own2_below (own2_below OW7.out BB9.out) hb)
  have FA := Lib.hid (And.intro (far_mine OW7.out.k ho.k BB9.out.size) (And.intro (far_mine OW7.out.k ho.v BB9.out.size) (And.intro (far_mine OW7.out.v ho.k BB9.out.size) (far_mine OW7.out.v ho.v BB9.out.size))))
  have B10 := Lib.hid (below_then' (below_then' B7.out BB9.out) hb)
  have X10 := Lib.hid (keep_row X9.out hb)
  have Q10 := Lib.hid (keep_row (keep_row Q7.out BB9.out) hb)
  have F10 := Lib.hid (keep_row (keep_row F7.out BB9.out) hb)
  have SP10 := Lib.hid (show w7.heap.size < w9.heap.size ∧ w9.heap.size ≤ w10.heap.size from ⟨(Array.getElem?_eq_some_iff.1 X9.out).1, hb.size⟩)
  clear hnb ho hb
  obtain ⟨w11, hw11, b11, f11, s11⟩ := made w10 #[.bool false, .slice none 0 0, .slice none 0 0] 24
  obtain ⟨w12, hw12⟩ : ∃ w12, w11.setRow w10.heap.size #[.bool L, .slice A10 d c10, .slice B10' d d10] = w12 := ⟨_, rfl⟩
  have R11 := Lib.hid f11
  have Y12 := Lib.hid (show w12.heap[w10.heap.size]? = some (.cells #[.bool L, .slice A10 d c10, .slice B10' d d10] 24) by rw [← hw12]; exact setRow_heap _ _ _ _ _ _ f11)
  have BB12 := Lib.hid (show Below w10.heap.size w10 w12 by rw [← hw12]; exact below_setRow b11 (Nat.le_refl _) _)
  have X12 := Lib.hid (keep_row X10.out BB12.out)
  have Q12 := Lib.hid (keep_row Q10.out BB12.out)
  have F12 := Lib.hid (keep_row F10.out BB12.out)
  clear b11 f11 s11
  go_wp2_with ((with_reducible refine wpList_store_row rfl 24 (.tmp 6) (.tmp 16) rfl w10.heap.size #[.bool L, .slice A10 d c10, .slice B10' d d10] ?_ ?_ 24 _ R11.out (size3 _ _ _) ?_ (one3 _ _ _ _ _ _ _) ?_); rfl; rfl; rfl; rw [hw12])
  clear hw11 hw12
  have hn1 : w7.heap.size ≠ w1.heap.size := by have h1 := SP.out; have h2 := SP7.out; omega
  have hn2 : w10.heap.size ≠ w1.heap.size := by have h1 := SP.out; have h2 := SP7.out; have h3 := SP10.out; omega
  have hn3 : w2.heap.size ≠ w1.heap.size := by have h1 := SP.out; omega
  refine start_ (n := 4) (S := fun w' => w'.cell? ⟨w7.heap.size, 0, none⟩ = some (.bool L) ∧ w'.cell? ⟨w7.heap.size, 1, none⟩ = some (.slice A7 h h) ∧ w'.cell? ⟨w7.heap.size, 2, none⟩ = some (.slice B7' h h) ∧ w'.cell? ⟨w10.heap.size, 0, none⟩ = some (.bool L) ∧ w'.cell? ⟨w10.heap.size, 1, none⟩ = some (.slice A10 d c10) ∧ w'.cell? ⟨w10.heap.size, 2, none⟩ = some (.slice B10' d d10)) (ds := [3]) #[false, false, false, false] (by kernel_rfl) rfl rfl ⟨cell_row X12.out rfl, cell_row X12.out rfl, cell_row X12.out rfl, cell_row Y12.out rfl, cell_row Y12.out rfl, cell_row Y12.out rfl⟩ (fun hHeld => ?_)
  refine take_ (i := 0) (N := some 17) (v := ?_) (a' := ?_) #[true, false, false, false] rfl rfl (by kernel_rfl) (fun _ _ _ h => h) (Or.inl ⟨by rfl, ?_⟩) hHeld ?_ ?_
  rotate_left
  · rintro w' ⟨s0, s1, s2, s3, s4, s5⟩
    go_simp
    with_reducible rfl
  rotate_left
  · simp only [Act.put, List.setIfInBounds_toArray, List.set_cons_zero, List.set_cons_succ, i64_w, i32_w]
    rfl
  refine take_ (i := 1) (N := some 18) (v := ?_) (a' := ?_) #[true, true, false, false] rfl rfl (by kernel_rfl) (fun _ _ _ h => h) (Or.inl ⟨by rfl, ?_⟩) hHeld ?_ ?_
  rotate_left
  · rintro w' ⟨s0, s1, s2, s3, s4, s5⟩
    go_simp
    with_reducible rfl
  rotate_left
  · simp only [Act.put, List.setIfInBounds_toArray, List.set_cons_zero, List.set_cons_succ, i64_w, i32_w]
    rfl
  refine one_ (i := 2) (N := none) #[true, true, true, false] rfl rfl (by kernel_rfl) (by decide) (fun K hK => ?_)
  refine skip_ (w1 := w12.drew.setRow w1.heap.size #[.bool L, .slice A7 h h, .slice B7' h h]) (by rfl) rfl (exec_store_row 24 _ _ rfl w1.heap.size #[.bool L, .slice A7 h h, .slice B7' h h] (by rfl) (by rfl) 24 _ Q12.out (size3 _ _ _) rfl (one3 _ _ _ _ _ _ _)) ?_
  obtain ⟨w13, hw13⟩ : ∃ w13, w13 = w12.drew.setRow w1.heap.size #[.bool L, .slice A7 h h, .slice B7' h h] := ⟨_, rfl⟩
  rw [← hw13]
  have X13 := Lib.hid (show w13.heap[w7.heap.size]? = some (.cells #[.bool L, .slice A7 h h, .slice B7' h h] 24) by rw [hw13, setRow_other _ _ _ _ hn1]; exact X12.out)
  have Y13 := Lib.hid (show w13.heap[w10.heap.size]? = some (.cells #[.bool L, .slice A10 d c10, .slice B10' d d10] 24) by rw [hw13, setRow_other _ _ _ _ hn2]; exact Y12.out)
  have F13 := Lib.hid (show w13.heap[w2.heap.size]? = some (.cells #[.bool false, .slice none 0 0, .slice none 0 0] 24) by rw [hw13, setRow_other _ _ _ _ hn3]; exact F12.out)
  have Q13 := Lib.hid (show w13.heap[w1.heap.size]? = some (.cells #[.bool L, .slice A7 h h, .slice B7' h h] 24) by rw [hw13]; exact setRow_heap _ _ _ _ _ _ Q12.out)
  have HW13 := Lib.hid hw13
  clear hw13
  refine hK.out _ _ ⟨cell_row X13.out rfl, cell_row X13.out rfl, cell_row X13.out rfl, cell_row Y13.out rfl, cell_row Y13.out rfl, cell_row Y13.out rfl⟩ (fun hHeld => ?_)
  clear hK K
  refine last_ (i := 3) (N := none) #[true, true, true, true] rfl rfl (by kernel_rfl) (by decide) (fun K hK => ?_)
  refine skip_ (w1 := w13.setRow w2.heap.size #[.bool L, .slice A10 d c10, .slice B10' d d10]) (by rfl) rfl (exec_store_row 24 _ _ rfl w2.heap.size #[.bool L, .slice A10 d c10, .slice B10' d d10] (by rfl) (by rfl) 24 _ F13.out (size3 _ _ _) rfl (one3 _ _ _ _ _ _ _)) ?_
  obtain ⟨w14, hw14⟩ : ∃ w14, w14 = w13.setRow w2.heap.size #[.bool L, .slice A10 d c10, .slice B10' d d10] := ⟨_, rfl⟩
  rw [← hw14]
  have HW14 := Lib.hid hw14
  clear hw14
  refine hK.out _ _ ?_
  clear hK K
  refine done_ (by kernel_rfl) ?_
  have q14 : w14.heap[w1.heap.size]? = some (.cells #[.bool L, .slice A7 h h, .slice B7' h h] 24) := by rw [HW14.out, setRow_other _ _ _ _ (Ne.symm hn3)]; exact Q13.out
  have f14 : w14.heap[w2.heap.size]? = some (.cells #[.bool L, .slice A10 d c10, .slice B10' d d10] 24) := by rw [HW14.out]; exact setRow_heap _ _ _ _ _ _ F13.out
  have l1 : w1.heap.size < w6.heap.size ∧ w2.heap.size < w6.heap.size ∧ w1.heap.size < w9.heap.size ∧ w2.heap.size < w9.heap.size ∧ w.heap.size ≤ w1.heap.size ∧ w.heap.size ≤ w2.heap.size ∧ w.heap.size ≤ w6.heap.size ∧ w.heap.size ≤ w9.heap.size := by have h1 := SP.out; have h2 := SP7.out; have h3 := SP10.out; omega
  have o7 := own2_weaken (own2_setRow (own2_setRow (own2_below OW7b.out (below_drew BB12.out)) l1.1 #[.bool L, .slice A7 h h, .slice B7' h h]) l1.2.1 #[.bool L, .slice A10 d c10, .slice B10' d d10]) l1.2.2.2.2.2.2.1
  have o10 := own2_weaken (own2_setRow (own2_setRow (own2_below OW10.out (below_drew BB12.out)) l1.2.2.1 #[.bool L, .slice A7 h h, .slice B7' h h]) l1.2.2.2.1 #[.bool L, .slice A10 d c10, .slice B10' d d10]) l1.2.2.2.2.2.2.2
  have b14 : Below w.heap.size w w14 := by rw [HW14.out, HW13.out]; exact below_setRow (below_setRow (below_drew (below_then' B10.out BB12.out)) l1.2.2.2.2.1 _) l1.2.2.2.2.2.1 _
  rw [← HW13.out, ← HW14.out] at o7 o10
  go_wp2_with fail
  exact ret_cc 2 3 rfl w1.heap.size w2.heap.size _ _ (0, 0) (0, 0) rfl rfl q14 f14 rfl rfl rfl ⟨A7, B7', A10, c10, B10', d10, rfl, o7, o10, FA.out.1, FA.out.2.1, FA.out.2.2.1, FA.out.2.2.2, b14⟩
set_option maxRecDepth 100000 in
set_option maxHeartbeats 3200000 in
theorem even_cap (L L2 : Bool) (Ks Vs K2 V2 JK JV : List Int) (ak av ak2 av2 : Option Addr) (nk ck nv cv nk2 ck2 nv2 cv2 m m2 q h d : Nat) (w : World) (HK : ReadsInt w .u64 ak nk Ks) (HV : ReadsInt w .u64 av nv Vs) (HK2 : ReadsInt w .u64 ak2 nk2 K2) (HV2 : ReadsInt w .u64 av2 nv2 V2)
    (hm : min nk nv = m) (hm2 : min nk2 nv2 = m2) (hq : m + m2 = q) (hh : (q + 1) / 2 = h) (hd : q - h = d) (hJ : Ks.take m ++ K2.take m2 = JK ∧ Vs.take m ++ V2.take m2 = JV) (hk : nk ≤ ck ∧ nv ≤ cv) (hn : (ak = none → ck = 0) ∧ (av = none → cv = 0)) (hk2 : nk2 ≤ ck2 ∧ nv2 ≤ cv2) (hn2 : (ak2 = none → ck2 = 0) ∧ (av2 = none → cv2 = 0)) (hs : q * 8 ≤ 140737488355328) :
    Calls Try.prog 23 #[.agg #[.bool L, .slice ak nk ck, .slice av nv cv], .agg #[.bool L2, .slice ak2 nk2 ck2, .slice av2 nv2 cv2]] w fun e w' => N2c w w' e L h d (JK.take h) (JV.take h) (JK.drop h) (JV.drop h) := by
  obtain ⟨w1, hw1, b1, f1, s1⟩ := made w #[.bool L, .slice ak nk ck, .slice av nv cv] 24
  obtain ⟨w2, hw2, b2, f2, s2⟩ := made w1 #[.bool L2, .slice ak2 nk2 ck2, .slice av2 nv2 cv2] 24
  obtain ⟨w3, hw3, b3, f3, s3⟩ := made w2 #[.bool false, .slice none 0 0, .slice none 0 0] 24
  obtain ⟨w4, hw4, b4, f4, s4⟩ := made w3 #[.bool false, .slice none 0 0, .slice none 0 0] 24
  have B4 := Lib.hid (below_then' (below_then' (below_then' b1 b2) b3) b4)
  have P4 := Lib.hid (keep_row (keep_row (keep_row f1 b2) b3) b4)
  have Q4 := Lib.hid (keep_row (keep_row f2 b3) b4)
  have F4 := Lib.hid (keep_row f3 b4)
  have G4 := Lib.hid f4
  have SP := Lib.hid (show w.heap.size ≤ w2.heap.size ∧ w2.heap.size < w3.heap.size ∧ w3.heap.size < w4.heap.size by omega)
  have RK := Lib.hid (And.intro (HK.below B4.out) (HV.below B4.out))
  have RK2 := Lib.hid (And.intro (HK2.below B4.out) (HV2.below B4.out))
  have HM := Lib.hid (And.intro hm (And.intro hm2 hq))
  have HD := Lib.hid (And.intro hh hd)
  have HJ := Lib.hid hJ
  have HC := Lib.hid (And.intro hk hn)
  have HC2 := Lib.hid (And.intro hk2 hn2)
  have HS := Lib.hid hs
  clear b1 f1 s1 b2 f2 s2 b3 f3 s3 b4 f4 s4 HK HV HK2 HV2 hm hm2 hq hh hd hJ hk hn hk2 hn2 hs
  go_enter Try.func23, Try.ntmps23
  go_wp2_with (first | ((with_reducible refine wpList_load_row rfl 24 (.tmp 2) rfl w.heap.size ?_ 24 _ _ _ P4.out Try.underlying24 ?_ (size3 _ _ _) ?_); rfl; rfl) | ((with_reducible refine wpList_load_row rfl 24 (.tmp 3) rfl w1.heap.size ?_ 24 _ _ _ Q4.out Try.underlying24 ?_ (size3 _ _ _) ?_); rfl; rfl))
  clear hw1 hw2 hw3 hw4
  refine (join_at L L2 Ks Vs K2 V2 ak av ak2 av2 nk ck nv cv nk2 ck2 nv2 cv2 m m2 q _ RK.out.1 RK.out.2 RK2.out.1 RK2.out.2 HM.out.1 HM.out.2.1 HM.out.2.2 HC.out.1 HC.out.2 HC2.out.1 HC2.out.2 HS.out).mono ?_; rintro e w5 ⟨A5, c5, B5', d5, rfl, ho, hb⟩
  rw [HJ.out.1, HJ.out.2] at ho
  have OW5 := Lib.hid ho
  have B5 := Lib.hid (below_then' B4.out hb)
  have F5 := Lib.hid (keep_row F4.out hb)
  have G5 := Lib.hid (keep_row G4.out hb)
  have SP5 := Lib.hid (show w4.heap.size ≤ w5.heap.size from hb.size)
  have HJL := Lib.hid (And.intro ho.k.1 ho.v.1)
  clear ho hb
  go_wp2_with fail
  refine (split_cap L JK JV A5 B5' q c5 q d5 q h d _ (mine_reads OW5.out.k) (mine_reads OW5.out.v) (Nat.min_self q) HD.out.1 HD.out.2 ⟨OW5.out.lk, OW5.out.lv⟩ ⟨fun h => (OW5.out.nk h).2, fun h => (OW5.out.nv h).2⟩ HS.out).mono ?_
  rintro e w6 ⟨A6, A6', D6, k6, D6', k6', rfl, o1, o2, g1, g2, g3, g4, hb⟩
  rw [List.take_of_length_le (l := JK) (by rw [HJL.out.1]; exact Nat.le_refl _), List.take_of_length_le (l := JV) (by rw [HJL.out.2]; exact Nat.le_refl _)] at o1 o2
  have O1 := Lib.hid o1
  have O2 := Lib.hid o2
  have FA := Lib.hid (And.intro g1 (And.intro g2 (And.intro g3 g4)))
  have B6 := Lib.hid (below_then' B5.out hb)
  have F6 := Lib.hid (keep_row F5.out hb)
  have G6 := Lib.hid (keep_row G5.out hb)
  clear o1 o2 g1 g2 g3 g4 hb
  obtain ⟨w7, hw7⟩ : ∃ w7, w6.setRow w2.heap.size #[.bool L, .slice A6 h h, .slice A6' h h] = w7 := ⟨_, rfl⟩
  have hne : w3.heap.size ≠ w2.heap.size := by have := SP.out; omega
  have G7 := Lib.hid (show w7.heap[w3.heap.size]? = some (.cells #[.bool false, .slice none 0 0, .slice none 0 0] 24) by rw [← hw7, setRow_other _ _ _ _ hne]; exact G6.out)
  have F7 := Lib.hid (show w7.heap[w2.heap.size]? = some (.cells #[.bool L, .slice A6 h h, .slice A6' h h] 24) by rw [← hw7]; exact setRow_heap _ _ _ _ _ _ F6.out)
  have HW7 := Lib.hid hw7
  have HNE := Lib.hid hne
  clear hne
  go_wp2_with (first | ((with_reducible refine wpList_store_row rfl 24 (.tmp 4) (.tmp 10) rfl w2.heap.size #[.bool L, .slice A6 h h, .slice A6' h h] ?_ ?_ 24 _ F6.out (size3 _ _ _) ?_ (one3 _ _ _ _ _ _ _) ?_); rfl; rfl; rfl; rw [hw7]) | ((with_reducible refine wpList_store_row rfl 24 (.tmp 5) (.tmp 11) rfl w3.heap.size #[.bool L, .slice D6 d k6, .slice D6' d k6'] ?_ ?_ 24 _ G7.out (size3 _ _ _) ?_ (one3 _ _ _ _ _ _ _) ?_); rfl; rfl; rfl))
  have l1 : w2.heap.size < w5.heap.size ∧ w3.heap.size < w5.heap.size ∧ w.heap.size ≤ w2.heap.size ∧ w.heap.size ≤ w3.heap.size ∧ w.heap.size ≤ w5.heap.size := by have h1 := SP.out; have h2 := SP5.out; omega
  have o1 := own2_weaken (own2_setRow (own2_setRow O1.out l1.1 #[.bool L, .slice A6 h h, .slice A6' h h]) l1.2.1 #[.bool L, .slice D6 d k6, .slice D6' d k6']) l1.2.2.2.2
  have o2 := own2_weaken (own2_setRow (own2_setRow O2.out l1.1 #[.bool L, .slice A6 h h, .slice A6' h h]) l1.2.1 #[.bool L, .slice D6 d k6, .slice D6' d k6']) l1.2.2.2.2
  rw [HW7.out] at o1 o2
  exact ret_cc 4 5 rfl w2.heap.size w3.heap.size _ _ (0, 0) (0, 0) rfl rfl (by rw [setRow_other _ _ _ _ (Ne.symm HNE.out)]; exact F7.out) (setRow_heap _ _ _ _ _ _ G7.out) rfl rfl rfl ⟨A6, A6', D6, k6, D6', k6', rfl, o1, o2, FA.out.1, FA.out.2.1, FA.out.2.2.1, FA.out.2.2.2, below_setRow (by rw [← HW7.out]; exact below_setRow B6.out l1.2.2.1 _) l1.2.2.2.1 _⟩
end Go.Proofs.Ytdekplalhfpooaa.Knt
