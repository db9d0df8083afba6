/- Knots: a node whose lists are what a function makes of a node's, whatever the function (it writes its own list alone, or makes a new one); Insert, Set, Remove, by their contracts (every input). -/
import Derived.BigQuiet
import Derived.Test.YtdekplalhfpooaaKntW
set_option linter.unusedVariables false
set_option linter.unusedSimpArgs false
namespace Go.Proofs.Ytdekplalhfpooaa.Knt
open Go Go.RowKit Go.Proofs.YtdekplalhfpooaaW.PrintWords Go.Proofs.YtdekplalhfpooaaW.PrintLast Go.Proofs.YtdekplalhfpooaaW.PrintMore Base Odr Hlp Nod Go.Proofs.Ytdekplalhfpooaa.Inv

set_option maxRecDepth 100000 in
set_option maxHeartbeats 3200000 in
theorem both_g (L : Bool) (Ks V : List Int) (ak av : Option Addr) (nk ck nv cv m : Nat) (f : FuncId) (fn : Func) (frs : Array Value) (q : Nat) (xs ys : List Int) (w : World) (HK : ReadsInt w .u64 ak nk Ks) (HV : ReadsInt w .u64 av nv V) (hm : min nk nv = m) (hf : Try.prog.funcs[f]? = some fn) (hname : (fn.name == "runtime.NumGoroutine") = false) (hbd : fn.body.isSome = true) (hq : xs.length = q) (hq' : ys.length = q)
    (hclk : ∀ (A : Option Addr) (c base : Nat) (W : World), Below w.heap.size w W → base ≤ W.heap.size → W.ownsRow base 25 1 (.slice A m c) m (nums .u64 (Ks.take m)) → Calls Try.prog f (#[.slice A m c, .bool true] ++ frs) W fun e w' => INS W w' e base (Value.slice A m c).ownBlock q xs)
    (hclv : ∀ (A : Option Addr) (c base : Nat) (W : World), Below w.heap.size w W → base ≤ W.heap.size → W.ownsRow base 25 1 (.slice A m c) m (nums .u64 (V.take m)) → Calls Try.prog f (#[.slice A m c, .bool false] ++ frs) W fun e w' => INS W w' e base (Value.slice A m c).ownBlock q ys) (hk : nk ≤ ck ∧ nv ≤ cv) (hn : ak = none → ck = 0) (hn' : av = none → cv = 0) (hs : m * 8 ≤ 140737488355328) :
    Calls Try.prog 47 #[.agg #[.bool L, .slice ak nk ck, .slice av nv cv], .func (.func f) #[] frs] w fun e w' => NB w w' e L q q xs ys := by
  obtain ⟨w1, hw1, b1, f1, s1⟩ := made w #[.bool L, .slice ak nk ck, .slice av nv cv] 24
  obtain ⟨w2, hw2, b2, f2, s2⟩ := made w1 #[.bool false, .slice none 0 0, .slice none 0 0] 24
  have B2 := Lib.hid (below_then' b1 b2)
  have P2 := Lib.hid (keep_row f1 b2)
  have Q2 := Lib.hid f2
  have SP := Lib.hid (show w.heap.size < w2.heap.size ∧ w1.heap.size < w2.heap.size ∧ w.heap.size ≤ w1.heap.size by omega)
  have RK := Lib.hid (HK.below B2.out)
  have RV := Lib.hid (HV.below B2.out)
  have HM := Lib.hid hm
  have HC := Lib.hid (And.intro hk (And.intro hn hn'))
  have HS := Lib.hid (And.intro HK.2.1 (And.intro HV.2.1 hs))
  have HL := Lib.hid (And.intro HK.1 HV.1)
  have HF := Lib.hid (And.intro hf (And.intro hname hbd))
  have HCK := Lib.hid hclk
  have HCV := Lib.hid hclv
  have HQ := Lib.hid (And.intro hq hq')
  have HLK := Lib.hid (show (Ks.take m).length = m by rw [List.length_take, HK.1]; omega)
  have HLV := Lib.hid (show (V.take m).length = m by rw [List.length_take, HV.1]; omega)
  clear b1 f1 s1 b2 f2 s2 HK HV hm hk hn hn' hs hf hname hbd hclk hclv hq hq'
  go_enter Try.func47, Try.ntmps47
  go_wp2_with ((with_reducible refine wpList_load_row rfl 24 (.tmp 2) rfl w.heap.size ?_ 24 _ _ _ P2.out Try.underlying24 ?_ (size3 _ _ _) ?_); rfl; rfl)
  refine (count_at L ak av nk ck nv cv m _ HM.out HS.out.1 HS.out.2.1).mono ?_; rintro e w3 ⟨rfl, hb⟩
  have B3 := Lib.hid (below_then' B2.out hb)
  have P3 := Lib.hid (keep_row P2.out hb)
  have Q3 := Lib.hid (keep_row Q2.out hb)
  have RK3 := Lib.hid (RK.out.below hb)
  have RV3 := Lib.hid (RV.out.below hb)
  have SP3 := Lib.hid (show w2.heap.size ≤ w3.heap.size from hb.size)
  have hmk : (m : Int) ≤ (ck : Int) := by have h1 := HM.out; have h2 := HC.out.1; omega
  have hmv : (m : Int) ≤ (cv : Int) := by have h1 := HM.out; have h2 := HC.out.1; omega
  have hmk' : m ≤ ck := by omega
  have hmv' : m ≤ cv := by omega
  clear hb hw1 hw2
  go_wp2_with fail
  refine start_ (n := 20) (S := fun w' => w'.cell? ⟨w.heap.size, 0, none⟩ = some (.bool L) ∧ w'.cell? ⟨w.heap.size, 1, none⟩ = some (.slice ak nk ck) ∧ w'.cell? ⟨w.heap.size, 2, none⟩ = some (.slice av nv cv)) (ds := [19]) #[false, false, false, false, false, false, false, false, false, false, false, false, false, false, false, false, false, false, false, false] (by kernel_rfl) rfl rfl ⟨cell_row P3.out rfl, cell_row P3.out rfl, cell_row P3.out rfl⟩ (fun hHeld => ?_)
  refine pure_ (i := 0) (N := some 8) (v := ?_) (a' := ?_) #[true, false, false, false, false, false, false, false, false, false, false, false, false, false, false, false, false, false, false, false] rfl rfl (by kernel_rfl) (fun _ _ _ h => h) (Or.inl ⟨by rfl, ?_⟩) ?_ ?_
  rotate_left
  · intro w'
    go_simp
    with_reducible rfl
  rotate_left
  · simp only [Act.put, List.setIfInBounds_toArray, List.set_cons_zero, List.set_cons_succ, i64_w, i32_w]
    rfl
  refine pure_ (i := 2) (N := some 10) (v := ?_) (a' := ?_) #[true, false, true, false, false, false, false, false, false, false, false, false, false, false, false, false, false, false, false, false] rfl rfl (by kernel_rfl) (fun _ _ _ h => h) (Or.inl ⟨by rfl, ?_⟩) ?_ ?_
  rotate_left
  · intro w'
    go_simp
    with_reducible rfl
  rotate_left
  · simp only [Act.put, List.setIfInBounds_toArray, List.set_cons_zero, List.set_cons_succ, i64_w, i32_w]
    rfl
  refine pure_ (i := 3) (N := some 11) (v := ?_) (a' := ?_) #[true, false, true, true, false, false, false, false, false, false, false, false, false, false, false, false, false, false, false, false] rfl rfl (by kernel_rfl) (fun _ _ _ h => h) (Or.inl ⟨by rfl, ?_⟩) ?_ ?_
  rotate_left
  · intro w'
    go_simp
    with_reducible rfl
  rotate_left
  · simp only [Act.put, List.setIfInBounds_toArray, List.set_cons_zero, List.set_cons_succ, i64_w, i32_w]
    rfl
  refine pure_ (i := 5) (N := some 13) (v := ?_) (a' := ?_) #[true, false, true, true, false, true, false, false, false, false, false, false, false, false, false, false, false, false, false, false] rfl rfl (by kernel_rfl) (fun _ _ _ h => h) (Or.inl ⟨by rfl, ?_⟩) ?_ ?_
  rotate_left
  · intro w'
    go_simp
    with_reducible rfl
  rotate_left
  · simp only [Act.put, List.setIfInBounds_toArray, List.set_cons_zero, List.set_cons_succ, i64_w, i32_w]
    rfl
  refine pure_ (i := 6) (N := some 14) (v := ?_) (a' := ?_) #[true, false, true, true, false, true, true, false, false, false, false, false, false, false, false, false, false, false, false, false] rfl rfl (by kernel_rfl) (fun _ _ _ h => h) (Or.inl ⟨by rfl, ?_⟩) ?_ ?_
  rotate_left
  · intro w'
    go_simp
    with_reducible rfl
  rotate_left
  · simp only [Act.put, List.setIfInBounds_toArray, List.set_cons_zero, List.set_cons_succ, i64_w, i32_w]
    rfl
  refine pure_ (i := 10) (N := some 18) (v := ?_) (a' := ?_) #[true, false, true, true, false, true, true, false, false, false, true, false, false, false, false, false, false, false, false, false] rfl rfl (by kernel_rfl) (fun _ _ _ h => h) (Or.inl ⟨by rfl, ?_⟩) ?_ ?_
  rotate_left
  · intro w'
    go_simp
    with_reducible rfl
  rotate_left
  · simp only [Act.put, List.setIfInBounds_toArray, List.set_cons_zero, List.set_cons_succ, i64_w, i32_w]
    rfl
  refine pure_ (i := 11) (N := some 19) (v := ?_) (a' := ?_) #[true, false, true, true, false, true, true, false, false, false, true, true, false, false, false, false, false, false, false, false] rfl rfl (by kernel_rfl) (fun _ _ _ h => h) (Or.inl ⟨by rfl, ?_⟩) ?_ ?_
  rotate_left
  · intro w'
    go_simp
    with_reducible rfl
  rotate_left
  · simp only [Act.put, List.setIfInBounds_toArray, List.set_cons_zero, List.set_cons_succ, i64_w, i32_w]
    rfl
  refine pure_ (i := 13) (N := some 21) (v := ?_) (a' := ?_) #[true, false, true, true, false, true, true, false, false, false, true, true, false, true, false, false, false, false, false, false] rfl rfl (by kernel_rfl) (fun _ _ _ h => h) (Or.inl ⟨by rfl, ?_⟩) ?_ ?_
  rotate_left
  · intro w'
    go_simp
    with_reducible rfl
  rotate_left
  · simp only [Act.put, List.setIfInBounds_toArray, List.set_cons_zero, List.set_cons_succ, i64_w, i32_w]
    rfl
  refine pure_ (i := 14) (N := some 22) (v := ?_) (a' := ?_) #[true, false, true, true, false, true, true, false, false, false, true, true, false, true, true, false, false, false, false, false] rfl rfl (by kernel_rfl) (fun _ _ _ h => h) (Or.inl ⟨by rfl, ?_⟩) ?_ ?_
  rotate_left
  · intro w'
    go_simp
    with_reducible rfl
  rotate_left
  · simp only [Act.put, List.setIfInBounds_toArray, List.set_cons_zero, List.set_cons_succ, i64_w, i32_w]
    rfl
  refine take_ (i := 1) (N := some 9) (v := ?_) (a' := ?_) #[true, true, true, true, false, true, true, false, false, false, true, true, false, true, true, false, false, false, false, false] rfl rfl (by kernel_rfl) (fun _ _ _ h => h) (Or.inl ⟨by rfl, ?_⟩) hHeld ?_ ?_
  rotate_left
  · rintro w' ⟨s0, s1, s2⟩
    go_simp
    with_reducible rfl
  rotate_left
  · simp only [Act.put, List.setIfInBounds_toArray, List.set_cons_zero, List.set_cons_succ, i64_w, i32_w]
    rfl
  refine take_ (i := 4) (N := some 12) (v := ?_) (a' := ?_) #[true, true, true, true, true, true, true, false, false, false, true, true, false, true, true, false, false, false, false, false] rfl rfl (by kernel_rfl) (fun _ _ _ h => h) (Or.inl ⟨by rfl, ?_⟩) hHeld ?_ ?_
  rotate_left
  · rintro w' ⟨s0, s1, s2⟩
    go_simp
    with_reducible rfl
  rotate_left
  · simp only [Act.put, List.setIfInBounds_toArray, List.set_cons_zero, List.set_cons_succ, i64_w, i32_w]
    rfl
  refine pure_ (i := 7) (N := some 15) (v := ?_) (a' := ?_) #[true, true, true, true, true, true, true, true, false, false, true, true, false, true, true, false, false, false, false, false] rfl rfl (by kernel_rfl) (fun _ _ _ h => h) (Or.inl ⟨by rfl, ?_⟩) ?_ ?_
  rotate_left
  · intro w'
    go_simp
    with_reducible rfl
  rotate_left
  · simp only [Act.put, List.setIfInBounds_toArray, List.set_cons_zero, List.set_cons_succ, i64_w, i32_w]
    rfl
  refine take_ (i := 12) (N := some 20) (v := ?_) (a' := ?_) #[true, true, true, true, true, true, true, true, false, false, true, true, true, true, true, false, false, false, false, false] rfl rfl (by kernel_rfl) (fun _ _ _ h => h) (Or.inl ⟨by rfl, ?_⟩) hHeld ?_ ?_
  rotate_left
  · rintro w' ⟨s0, s1, s2⟩
    go_simp
    with_reducible rfl
  rotate_left
  · simp only [Act.put, List.setIfInBounds_toArray, List.set_cons_zero, List.set_cons_succ, i64_w, i32_w]
    rfl
  refine pure_ (i := 15) (N := some 23) (v := ?_) (a' := ?_) #[true, true, true, true, true, true, true, true, false, false, true, true, true, true, true, true, false, false, false, false] rfl rfl (by kernel_rfl) (fun _ _ _ h => h) (Or.inl ⟨by rfl, ?_⟩) ?_ ?_
  rotate_left
  · intro w'
    go_simp
    with_reducible rfl
  rotate_left
  · simp only [Act.put, List.setIfInBounds_toArray, List.set_cons_zero, List.set_cons_succ, i64_w, i32_w]
    rfl
  refine one_ (i := 8) (N := some 16) #[true, true, true, true, true, true, true, true, true, false, true, true, true, true, true, true, false, false, false, false] rfl rfl (by kernel_rfl) (by decide) (fun K hK => ?_)
  refine goes_ Try.func65 (by kernel_rfl) rfl #[.slice ak m m] (by rfl) rfl rfl (by simp only [List.map_toArray, List.map_cons, List.map_nil]; rfl) ?_
  with_reducible refine (clone_any (Ks.take m) ak m m _ (ReadsInt.take_ (reads_drew RK3.out) m (by have := HM.out; omega)) HS.out.2.2 (by have h1 := HC.out.2.1; intro h; have := h1 h; have := hmk'; omega)).mono ?_
  rintro e w4 ⟨A4, c4, rfl, ho, hb⟩
  refine ⟨_, rfl, ?_⟩
  have BB4 := Lib.hid hb
  have OK4 := Lib.hid ho
  have P4 := Lib.hid (keep_row (w := w3.drew) P3.out hb)
  have Q4 := Lib.hid (keep_row (w := w3.drew) Q3.out hb)
  have RV4 := Lib.hid (ReadsInt.below (reads_drew RV3.out) hb)
  clear ho hb
  refine hK.out _ _ ⟨cell_row P4.out rfl, cell_row P4.out rfl, cell_row P4.out rfl⟩ (fun hHeld => ?_)
  clear hK K
  refine norm_ (a' := ?_) ?_ ?_
  rotate_left
  · show Act.put _ (some 16) _ = _
    simp only [Act.put, List.setIfInBounds_toArray, List.set_cons_zero, List.set_cons_succ, i64_w, i32_w]
    rfl
  refine one_ (i := 9) (N := some 17) #[true, true, true, true, true, true, true, true, true, true, true, true, true, true, true, true, false, false, false, false] rfl rfl (by kernel_rfl) (by decide) (fun K hK => ?_)
  refine goes_fv HF.out.1 HF.out.2.1 HF.out.2.2 (.tmp 10) #[] frs (#[.slice A4 m c4, .bool true] ++ frs) (by rfl) rfl rfl rfl (by simp only [List.map_toArray, List.map_cons, List.map_nil]; rfl) ?_
  with_reducible refine (HCK.out A4 c4 w3.drew.heap.size _ (below_then (below_drew B3.out) (below_drew B3.out).size BB4.out) BB4.out.size OK4.out).mono ?_
  rintro e w5 h5
  obtain ⟨A5, c5, rfl, ho, hb, hgr, hat⟩ := h5
  refine ⟨_, rfl, ?_⟩
  have BB5 := Lib.hid (BB4.out.trans hb)
  have OK5 := Lib.hid (show w5.ownsRow w3.drew.heap.size 25 1 (.slice A5 q c5) q (nums .u64 xs) from ho)
  have P5 := Lib.hid (keep_row (w := w3.drew) P3.out BB5.out)
  have Q5 := Lib.hid (keep_row (w := w3.drew) Q3.out BB5.out)
  have RV5 := Lib.hid (ReadsInt.below (reads_drew RV3.out) BB5.out)
  clear ho hb hgr hat
  refine hK.out _ _ ⟨cell_row P5.out rfl, cell_row P5.out rfl, cell_row P5.out rfl⟩ (fun hHeld => ?_)
  clear hK K
  refine norm_ (a' := ?_) ?_ ?_
  rotate_left
  · show Act.put _ (some 17) _ = _
    simp only [Act.put, List.setIfInBounds_toArray, List.set_cons_zero, List.set_cons_succ, i64_w, i32_w]
    rfl
  refine one_ (i := 16) (N := some 24) #[true, true, true, true, true, true, true, true, true, true, true, true, true, true, true, true, true, false, false, false] rfl rfl (by kernel_rfl) (by decide) (fun K hK => ?_)
  refine goes_ Try.func65 (by kernel_rfl) rfl #[.slice av m m] (by rfl) rfl rfl (by simp only [List.map_toArray, List.map_cons, List.map_nil]; rfl) ?_
  with_reducible refine (clone_any (V.take m) av m m _ (ReadsInt.take_ RV5.out m (by have := HM.out; omega)) HS.out.2.2 (by have h1 := HC.out.2.2; intro h; have := h1 h; have := hmv'; omega)).mono ?_
  rintro e w6 ⟨A6, c6, rfl, ho, hb⟩
  refine ⟨_, rfl, ?_⟩
  have BB6 := Lib.hid (below_then BB5.out BB5.out.size hb)
  have OV6 := Lib.hid ho
  have OK6 := Lib.hid (pw_own_below OK5.out hb)
  have AP6 := Lib.hid (apart_own (p := 0) OK5.out ho (Nat.le_refl _))
  have P6 := Lib.hid (keep_row (w := w3.drew) P3.out BB6.out)
  have Q6 := Lib.hid (keep_row (w := w3.drew) Q3.out BB6.out)
  have OVB6 := Lib.hid (own_weaken OV6.out BB5.out.size)
  clear ho hb
  refine hK.out _ _ ⟨cell_row P6.out rfl, cell_row P6.out rfl, cell_row P6.out rfl⟩ (fun hHeld => ?_)
  clear hK K
  refine norm_ (a' := ?_) ?_ ?_
  rotate_left
  · show Act.put _ (some 24) _ = _
    simp only [Act.put, List.setIfInBounds_toArray, List.set_cons_zero, List.set_cons_succ, i64_w, i32_w]
    rfl
  refine one_ (i := 17) (N := some 25) #[true, true, true, true, true, true, true, true, true, true, true, true, true, true, true, true, true, true, false, false] rfl rfl (by kernel_rfl) (by decide) (fun K hK => ?_)
  refine goes_fv HF.out.1 HF.out.2.1 HF.out.2.2 (.tmp 18) #[] frs (#[.slice A6 m c6, .bool false] ++ frs) (by rfl) rfl rfl rfl (by simp only [List.map_toArray, List.map_cons, List.map_nil]; rfl) ?_
  with_reducible refine (HCV.out A6 c6 w3.drew.heap.size _ (below_then (below_drew B3.out) (below_drew B3.out).size BB6.out) BB6.out.size OVB6.out).mono ?_
  rintro e w7 h7
  obtain ⟨A7, c7, rfl, ho, hb, hgr, hat⟩ := h7
  refine ⟨_, rfl, ?_⟩
  have BB7 := Lib.hid (BB6.out.trans hb)
  have OV7 := Lib.hid (show w7.ownsRow w3.drew.heap.size 25 1 (.slice A7 q c7) q (nums .u64 ys) from ho)
  have hne : (Value.slice A5 q c5).ownBlock = none ∨ (Value.slice A5 q c5).ownBlock ≠ (Value.slice A6 m c6).ownBlock := by
    cases hA5 : A5 with
    | none => exact .inl rfl
    | some a5 =>
      cases hA6 : A6 with
      | none => exact .inr (by simp [Value.ownBlock])
      | some a6 => exact .inr (by intro he; simp only [Value.ownBlock] at he; injection he with he; exact AP6.out a5 a6 hA5 hA6 he)
  have OK7 := Lib.hid (own_other OK6.out hgr hne)
  have AP7 := Lib.hid (apart_grown AP6.out OK6.out hat)
  have P7 := Lib.hid (keep_row (w := w3.drew) P3.out BB7.out)
  have Q7 := Lib.hid (keep_row (w := w3.drew) Q3.out BB7.out)
  clear ho hb hgr hat hne
  refine hK.out _ _ ⟨cell_row P7.out rfl, cell_row P7.out rfl, cell_row P7.out rfl⟩ (fun hHeld => ?_)
  clear hK K
  refine norm_ (a' := ?_) ?_ ?_
  rotate_left
  · show Act.put _ (some 25) _ = _
    simp only [Act.put, List.setIfInBounds_toArray, List.set_cons_zero, List.set_cons_succ, i64_w, i32_w]
    rfl
  refine pure_ (i := 18) (N := some 26) (v := ?_) (a' := ?_) #[true, true, true, true, true, true, true, true, true, true, true, true, true, true, true, true, true, true, true, false] rfl rfl (by kernel_rfl) (fun _ _ _ h => h) (Or.inl ⟨by rfl, ?_⟩) ?_ ?_
  rotate_left
  · intro w'
    go_simp
    with_reducible rfl
  rotate_left
  · simp only [Act.put, List.setIfInBounds_toArray, List.set_cons_zero, List.set_cons_succ, i64_w, i32_w]
    rfl
  refine last_ (i := 19) (N := none) #[true, true, true, true, true, true, true, true, true, true, true, true, true, true, true, true, true, true, true, true] rfl rfl (by kernel_rfl) (by decide) (fun K hK => ?_)
  refine skip_ (w1 := w7.setRow w1.heap.size #[.bool L, (.slice A5 q c5), (.slice A7 q c7)]) (by rfl) rfl (exec_store_row 24 _ _ rfl w1.heap.size #[.bool L, (.slice A5 q c5), (.slice A7 q c7)] (by rfl) (by rfl) 24 _ Q7.out (size3 _ _ _) rfl (one3 _ _ _ _ _ _ _)) ?_
  obtain ⟨w8, hw8⟩ : ∃ w8, w8 = w7.setRow w1.heap.size #[.bool L, (.slice A5 q c5), (.slice A7 q c7)] := ⟨_, rfl⟩
  rw [← hw8]
  have HW8 := Lib.hid hw8
  clear hw8
  refine hK.out _ _ ?_
  clear hK K
  refine done_ (by kernel_rfl) ?_
  have hbase : w2.heap.size ≤ w3.drew.heap.size := SP3.out
  have hk8 : w8.heap[w1.heap.size]? = some (.cells #[.bool L, (.slice A5 q c5), (.slice A7 q c7)] 24) := by rw [HW8.out]; exact setRow_heap _ _ _ _ _ _ Q7.out
  have ok8 := own_setRow (g := w1.heap.size) OK7.out (own_ne OK7.out (by have := SP.out; omega)) #[.bool L, (.slice A5 q c5), (.slice A7 q c7)]
  have ov8 := own_setRow (g := w1.heap.size) OV7.out (own_ne OV7.out (by have h1 := SP.out; have h2 := BB7.out.size; omega)) #[.bool L, (.slice A5 q c5), (.slice A7 q c7)]
  rw [← HW8.out] at ok8 ov8
  have b8 : Below w.heap.size w w8 := by rw [HW8.out]; exact below_setRow (below_then (below_drew B3.out) (below_drew B3.out).size BB7.out) SP.out.2.2 _
  have hbw : w.heap.size ≤ w3.drew.heap.size := by have h1 := SP.out; omega
  have hbv : w.heap.size ≤ w3.drew.heap.size := hbw
  go_wp2_with fail
  refine ret_c 4 rfl w1.heap.size #[.bool L, (.slice A5 q c5), (.slice A7 q c7)] (0, 0) rfl hk8 rfl rfl ?_
  have l1 := HQ.out.1
  have l2 := HQ.out.2
  have t1 := mine_take ok8 l1 (Nat.le_refl q)
  have t2 := mine_take ov8 l2 (Nat.le_refl q)
  rw [List.take_of_length_le (by rw [l1]; exact Nat.le_refl _)] at t1
  rw [List.take_of_length_le (by rw [l2]; exact Nat.le_refl _)] at t2
  exact ⟨A5, c5, A7, c7, rfl, mine_weaken t1 hbw, mine_weaken t2 hbv, AP7.out, own_cap ok8, own_cap ov8, own_nilc ok8, own_nilc ov8, b8⟩
end Go.Proofs.Ytdekplalhfpooaa.Knt
