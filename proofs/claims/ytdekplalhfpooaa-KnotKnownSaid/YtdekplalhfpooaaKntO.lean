/- Knots: the document's Part (the pairs from a place to another one), by its contract (every input). -/
import Derived.BigQuiet
import Derived.Test.YtdekplalhfpooaaKntN
set_option linter.unusedVariables false
set_option linter.unusedSimpArgs false
namespace Go.Proofs.Ytdekplalhfpooaa.Knt
open Go Go.RowKit Go.Proofs.YtdekplalhfpooaaW.PrintWords Go.Proofs.YtdekplalhfpooaaW.PrintLast Go.Proofs.YtdekplalhfpooaaW.PrintMore Base Odr Hlp Nod

/-- The numbers from a place to another one. -/
def cut (K : List Int) (f t : Nat) : List Int := (K.take t).drop f
theorem cut_len {K : List Int} {f t : Nat} (ht : t ≤ K.length) : (cut K f t).length = t - f := by unfold cut; rw [List.length_drop, List.length_take]; omega
theorem cut_succ {K : List Int} {f t j d : Nat} (hd : f + d = t) (ht : t ≤ K.length) (hj : j < d) : (cut K f t).take j ++ [K.getD (f + j) 0] = (cut K f t).take (j + 1) := by
  have : (cut K f t)[j]? = some (K.getD (f + j) 0) := by
    unfold cut
    rw [List.getElem?_drop, List.getElem?_take, if_pos (by omega), List.getD_eq_getElem?_getD, List.getElem?_eq_getElem (by omega)]; rfl
  rw [List.take_add_one, this]; rfl
/-- What a call that makes a node leaves, whose lists are whole rows of its own. -/
def NO (w w' : World) (e : Ending) (L : Bool) (n n' : Nat) (xs ys : List Int) : Prop :=
  ∃ A c A' c', e = .returned (.agg #[.bool L, .slice A n c, .slice A' n' c']) ∧ w'.ownsRow w.heap.size 25 1 (.slice A n c) n (nums .u64 xs) ∧ w'.ownsRow w.heap.size 25 1 (.slice A' n' c') n' (nums .u64 ys) ∧ xs.length = n ∧ ys.length = n' ∧ Apart A A' ∧ Below w.heap.size w w'
theorem mine_all {W : World} {base n c : Nat} {A : Option Addr} {xs : List Int} (ho : W.ownsRow base 25 1 (.slice A n c) n (nums .u64 xs)) (hx : xs.length = n) : Mine W base A n xs := by
  have h := mine_take ho hx (Nat.le_refl n)
  rwa [List.take_of_length_le (by omega)] at h
theorem no_own {w w' : World} {e : Ending} {L : Bool} {n n' : Nat} {xs ys : List Int} (h : NO w w' e L n n' xs ys) : N1 w w' e L n n' xs ys := by
  obtain ⟨A, c, A', c', he, h1, h2, h3, h4, h5, h6⟩ := h
  exact ⟨A, c, A', c', he, ⟨mine_all h1 h3, mine_all h2 h4, far_apart h5 _ _, own_cap h1, own_cap h2, own_nilc h1, own_nilc h2⟩, h6⟩
set_option maxRecDepth 100000 in
set_option maxHeartbeats 6400000 in
theorem part_own (L : Bool) (Ks Vs : List Int) (ak av : Option Addr) (nk ck nv cv f t d : Nat) (w : World) (HK : ReadsInt w .u64 ak nk Ks) (HV : ReadsInt w .u64 av nv Vs) (hd : f + d = t) (htk : t ≤ nk) (htv : t ≤ nv) (hs : t * 8 ≤ 140737488355328) :
    Calls Try.prog 52 #[.agg #[.bool L, .slice ak nk ck, .slice av nv cv], .int .i64 (f : Int), .int .i64 (t : Int)] w fun e w' => NO w w' e L d d (cut Ks f t) (cut Vs f t) := by
  obtain ⟨w1, hw1, b1, f1, s1⟩ := made w #[.bool L, .slice ak nk ck, .slice av nv cv] 24
  obtain ⟨w2, hw2, b2, f2, s2⟩ := made w1 #[.bool false, .slice none 0 0, .slice none 0 0] 24
  obtain ⟨w3, hw3, b3, f3, s3⟩ := made w2 #[.bool false, .slice none 0 0, .slice none 0 0] 24
  obtain ⟨w4, hw4⟩ : ∃ w4, w3.setRow w2.heap.size #[.bool L, .slice none 0 0, .slice none 0 0] = w4 := ⟨_, rfl⟩
  have R3 := Lib.hid f3
  have hsz : w4.heap.size = w3.heap.size := by rw [← hw4]; simp only [World.setRow, Array.size_modify]
  have ST4 := Lib.hid (show St w w4.heap.size w2.heap.size 24 25 #[.bool L, .slice none 0 0, .slice none 0 0] [(w.heap.size, .cells #[.bool L, .slice ak nk ck, .slice av nv cv] 24), (w1.heap.size, .cells #[.bool false, .slice none 0 0, .slice none 0 0] 24)] (.slice none 0 0) (.slice none 0 0) 0 0 ((cut Ks f t).take 0) ((cut Vs f t).take 0) w4 from by
    refine ⟨own_nil _ _ _ _, own_nil _ _ _ _, fun p hp => by simp [Value.ownBlock] at hp, ?_, ?_, ?_, by omega, Nat.le_refl _, by omega⟩
    · rw [← hw4]; exact setRow_heap _ _ _ _ _ _ f3
    · intro p hp
      rcases List.mem_cons.1 hp with rfl | hp
      · refine ⟨?_, by show w.heap.size < _; omega, by show w.heap.size ≠ _; omega⟩
        show w4.heap[w.heap.size]? = _
        rw [← hw4, setRow_other _ _ _ _ (by omega)]; exact keep_row (keep_row f1 b2) b3
      · obtain rfl := List.mem_singleton.1 hp
        refine ⟨?_, by show w1.heap.size < _; omega, by show w1.heap.size ≠ _; omega⟩
        show w4.heap[w1.heap.size]? = _
        rw [← hw4, setRow_other _ _ _ _ (by omega)]; exact keep_row f2 b3
    · rw [← hw4]; exact below_setRow (below_then' (below_then' b1 b2) b3) (by omega) _)
  have X4 := Lib.hid (And.intro HK HV)
  have HW1 := Lib.hid b1.size
  have SZ := Lib.hid (show w.heap.size < w4.heap.size ∧ w1.heap.size < w4.heap.size by omega)
  have HL := Lib.hid (And.intro (cut_len (f := f) (t := t) (K := Ks) (by rw [HK.1]; exact htk)) (cut_len (f := f) (t := t) (K := Vs) (by rw [HV.1]; exact htv)))
  have HT := Lib.hid (And.intro (And.intro hd (And.intro (show t ≤ Ks.length by rw [HK.1]; exact htk) (show t ≤ Vs.length by rw [HV.1]; exact htv))) (And.intro htk (And.intro htv hs)))
  have x0 : w2.cell? ⟨w.heap.size, 0, none⟩ = some (.bool L) := cell_row (keep_row f1 b2) rfl
  clear b1 f1 s1 b2 f2 s2 b3 f3 s3 HK HV hd htk htv hs hsz
  go_enter Try.func52, Try.ntmps52
  go_wp2_with ((with_reducible refine wpList_store_row rfl 24 (.tmp 7) (.tmp 11) rfl w2.heap.size #[.bool L, .slice none 0 0, .slice none 0 0] ?_ ?_ 24 _ R3.out (size3 _ _ _) ?_ (one3 _ _ _ _ _ _ _) ?_); rfl; rfl; rfl; rw [hw4])
  clear hw1 hw2 hw3 hw4 x0
  go_loopw [8] (fun iv wr => ∃ (i j c1 c2 : Nat) (A1 A2 : Option Addr), i = f + j ∧ j ≤ d ∧ iv = .int .i64 (i : Int) ∧ St w w4.heap.size w2.heap.size 24 25 #[.bool L, .slice A1 j c1, .slice A2 j c2] [(w.heap.size, .cells #[.bool L, .slice ak nk ck, .slice av nv cv] 24), (w1.heap.size, .cells #[.bool false, .slice none 0 0, .slice none 0 0] 24)] (.slice A1 j c1) (.slice A2 j c2) j j ((cut Ks f t).take j) ((cut Vs f t).take j) wr) (fun iv _ => t - (intOf iv).toNat)
  case atStart => exact ⟨f, 0, 0, 0, none, none, rfl, by omega, rfl, ST4.out⟩
  case round =>
    obtain ⟨i, j, c1, c2, A1, A2, hij, hj, rfl, hst⟩ := hrel
    have ST6 := Lib.hid hst
    have HIJ := Lib.hid hij
    have hi47 : i ≤ 17592186044416 := by have h1 := HT.out; omega
    clear hst hij
    by_cases hlt : j < d
    · have dit : decide ((i : Int) < (t : Int)) = true := decide_eq_true (by have h1 := HT.out; have h2 := HIJ.out; omega)
      have dit' : decide (i < t) = true := decide_eq_true (by have h1 := HT.out; have h2 := HIJ.out; omega)
      obtain ⟨ad, rfl, hc⟩ := cell_at (X4.out.1.below ST6.out.bel) i (by have h1 := HT.out; have h2 := HIJ.out; omega)
      obtain ⟨bd, rfl, hcv⟩ := cell_at (X4.out.2.below ST6.out.bel) i (by have h1 := HT.out; have h2 := HIJ.out; omega)
      have hink : i < nk := by have h1 := HT.out; have h2 := HIJ.out; omega
      have hinv : i < nv := by have h1 := HT.out; have h2 := HIJ.out; omega
      obtain ⟨k, hk⟩ : ∃ k, Ks.getD i 0 = k := ⟨_, rfl⟩
      obtain ⟨v, hv⟩ : ∃ v, Vs.getD i 0 = v := ⟨_, rfl⟩
      rw [hk] at hc
      rw [hv] at hcv
      have HLT := Lib.hid hlt
      have HJ8 := Lib.hid (show (j + 1) * 8 ≤ 140737488355328 ∧ j + 1 ≤ 9223372036854775807 by have h1 := HT.out; omega)
      have HTK := Lib.hid (show (cut Ks f t).take j ++ [k] = (cut Ks f t).take (j + 1) by rw [← hk, HIJ.out]; exact cut_succ HT.out.1.1 HT.out.1.2.1 hlt)
      have HTV := Lib.hid (show (cut Vs f t).take j ++ [v] = (cut Vs f t).take (j + 1) by rw [← hv, HIJ.out]; exact cut_succ HT.out.1.1 HT.out.1.2.2 hlt)
      obtain ⟨KS, hKS⟩ : ∃ KS, (cut Ks f t).take j = KS := ⟨_, rfl⟩
      obtain ⟨VS, hVS⟩ : ∃ VS, (cut Vs f t).take j = VS := ⟨_, rfl⟩
      rw [hKS, hVS] at ST6
      rw [hKS] at HTK
      rw [hVS] at HTV
      have HC := Lib.hid hc
      have HV0 := Lib.hid hv
      have HNV := Lib.hid hinv
      clear hk hv hKS hVS hj hlt hc hcv
      go_wp2_with fail
      have Sd := Lib.hid (St.drew ST6.out)
      have Sa := Lib.hid (St.alloc Sd.out (.cells #[.int .u64 k] 25))
      have ca : (wr.drew.alloc (.cells #[.int .u64 k] 25)).cell? ⟨wr.heap.size, 0, none⟩ = some (.int .u64 k) := cell_row (heap_alloc_new wr.drew _) rfl
      obtain ⟨B3a, e3, x3, rx3, ox3, gx3, bx3⟩ := app_one (c := 1) Try.underlying22 info64 Sa.out.ok ca HJ8.out.1 HJ8.out.2 Sa.out.le
      have X3 := Lib.hid (St.app_k Sa.out ox3 gx3 bx3)
      have RX3 := Lib.hid rx3
      have HCa := Lib.hid (pw_cell_below ((below_drew (Below.refl wr.heap.size wr)).alloc (Nat.le_refl _) (.cells #[.int .u64 k] 25)) HC.out)
      clear ca rx3 ox3 gx3 bx3
      refine start_ (n := 11) (S := fun w' => w'.cell? ⟨w2.heap.size, 1, none⟩ = some (.slice A1 j c1) ∧ w'.cell? ⟨w.heap.size, 1, none⟩ = some (.slice (some ad) nk ck) ∧ w'.cell? (ad.add i) = some (.int .u64 k)) (ds := [8, 10]) #[false, false, false, false, false, false, false, false, false, false, false] (by kernel_rfl) rfl rfl ⟨cell_row Sd.out.node rfl, cell_row (ST6.out.rows _ (List.mem_cons_self ..)).1 rfl, HC.out⟩ (fun hHeld => ?_)
      refine pure_ (i := 0) (N := some 18) (v := ?_) (a' := ?_) #[true, false, false, false, false, false, false, false, false, false, false] rfl rfl (by kernel_rfl) (fun _ _ _ h => h) (Or.inl ⟨by rfl, ?_⟩) ?_ ?_
      rotate_left
      · intro w'
        go_simp
        with_reducible rfl
      rotate_left
      · simp only [Act.put, List.setIfInBounds_toArray, List.set_cons_zero, List.set_cons_succ, i64_w, i32_w]
        rfl
      refine pure_ (i := 2) (N := some 20) (v := ?_) (a' := ?_) #[true, false, true, false, false, false, false, false, false, false, false] rfl rfl (by kernel_rfl) (fun _ _ _ h => h) (Or.inl ⟨by rfl, ?_⟩) ?_ ?_
      rotate_left
      · intro w'
        go_simp
        with_reducible rfl
      rotate_left
      · simp only [Act.put, List.setIfInBounds_toArray, List.set_cons_zero, List.set_cons_succ, i64_w, i32_w]
        rfl
      refine pure_ (i := 4) (N := some 22) (v := ?_) (a' := ?_) #[true, false, true, false, true, false, false, false, false, false, false] rfl rfl (by kernel_rfl) (fun _ _ _ h => h) (Or.inl ⟨by rfl, ?_⟩) ?_ ?_
      rotate_left
      · intro w'
        go_simp
        with_reducible rfl
      rotate_left
      · simp only [Act.put, List.setIfInBounds_toArray, List.set_cons_zero, List.set_cons_succ, i64_w, i32_w]
        rfl
      refine take_ (i := 1) (N := some 19) (v := ?_) (a' := ?_) #[true, true, true, false, true, false, false, false, false, false, false] rfl rfl (by kernel_rfl) (fun _ _ _ h => h) (Or.inl ⟨by rfl, ?_⟩) hHeld ?_ ?_
      rotate_left
      · rintro w' ⟨s0, s1, s2⟩
        go_simp
        with_reducible rfl
      rotate_left
      · simp only [Act.put, List.setIfInBounds_toArray, List.set_cons_zero, List.set_cons_succ, i64_w, i32_w]
        rfl
      refine take_ (i := 3) (N := some 21) (v := ?_) (a' := ?_) #[true, true, true, true, true, false, false, false, false, false, false] rfl rfl (by kernel_rfl) (fun _ _ _ h => h) (Or.inl ⟨by rfl, ?_⟩) hHeld ?_ ?_
      rotate_left
      · rintro w' ⟨s0, s1, s2⟩
        go_simp
        with_reducible rfl
      rotate_left
      · simp only [Act.put, List.setIfInBounds_toArray, List.set_cons_zero, List.set_cons_succ, i64_w, i32_w]
        rfl
      refine pure_ (i := 5) (N := some 23) (v := ?_) (a' := ?_) #[true, true, true, true, true, true, false, false, false, false, false] rfl rfl (by kernel_rfl) (fun _ _ _ h => h) (Or.inl ⟨by rfl, ?_⟩) ?_ ?_
      rotate_left
      · intro w'
        go_simp
        with_reducible rfl
      rotate_left
      · simp only [Act.put, List.setIfInBounds_toArray, List.set_cons_zero, List.set_cons_succ, i64_w, i32_w]
        rfl
      refine take_ (i := 6) (N := some 24) (v := ?_) (a' := ?_) #[true, true, true, true, true, true, true, false, false, false, false] rfl rfl (by kernel_rfl) (fun _ _ _ h => h) (Or.inl ⟨by rfl, ?_⟩) hHeld ?_ ?_
      rotate_left
      · rintro w' ⟨s0, s1, s2⟩
        go_simp
        with_reducible rfl
      rotate_left
      · simp only [Act.put, List.setIfInBounds_toArray, List.set_cons_zero, List.set_cons_succ, i64_w, i32_w]
        rfl
      refine one_ (i := 7) (N := some 25) #[true, true, true, true, true, true, true, true, false, false, false] rfl rfl (by kernel_rfl) (by decide) (fun K hK => ?_)
      refine value_ (w1 := ?_) (v := ?_) (by rfl) rfl ?_ ?_
      rotate_left 2
      · go_simp
        constructor
        · rfl
        · rfl
      refine hK.out _ _ ⟨cell_row Sa.out.node rfl, cell_row (Sa.out.rows _ (List.mem_cons_self ..)).1 rfl, HCa.out⟩ (fun hHeld => ?_)
      clear hK K
      refine norm_ (a' := ?_) ?_ ?_
      rotate_left
      · show Act.put _ (some 25) _ = _
        simp only [Act.put, List.setIfInBounds_toArray, List.set_cons_zero, List.set_cons_succ, i64_w, i32_w]
        rfl
      refine last_ (i := 8) (N := some 26) #[true, true, true, true, true, true, true, true, true, false, false] rfl rfl (by kernel_rfl) (by decide) (fun K hK => ?_)
      refine value_ (w1 := x3) (v := .slice B3a (j + 1) e3) (by rfl) rfl (exec_app (.tmp 19) (.tmp 25) ?_ ?_ ?_ RX3.out) ?_
      · rfl
      · rfl
      · rfl
      refine hK.out _ _ ?_
      clear hK K
      refine norm_ (a' := ?_) ?_ ?_
      rotate_left
      · show Act.put _ (some 26) _ = _
        simp only [Act.put, List.setIfInBounds_toArray, List.set_cons_zero, List.set_cons_succ, i64_w, i32_w]
        rfl
      refine pure_ (i := 9) (N := some 27) (v := ?_) (a' := ?_) #[true, true, true, true, true, true, true, true, true, true, false] rfl rfl (by kernel_rfl) (fun _ _ _ h => h) (Or.inl ⟨by rfl, ?_⟩) ?_ ?_
      rotate_left
      · intro w'
        go_simp
        with_reducible rfl
      rotate_left
      · simp only [Act.put, List.setIfInBounds_toArray, List.set_cons_zero, List.set_cons_succ, i64_w, i32_w]
        rfl
      refine last_ (i := 10) (N := none) #[true, true, true, true, true, true, true, true, true, true, true] rfl rfl (by kernel_rfl) (by decide) (fun K hK => ?_)
      obtain ⟨x4, hx4⟩ : ∃ w9, x3.setCell ⟨w2.heap.size, 1, none⟩ (.slice B3a (j + 1) e3) = w9 := ⟨_, rfl⟩
      have X4' := Lib.hid (St.put X3.out 1 (.slice B3a (j + 1) e3) (nd' := #[.bool L, .slice B3a (j + 1) e3, .slice A2 j c2]) rfl)
      rw [hx4] at X4'
      have q8 : x3.cell? ⟨w2.heap.size, 1, none⟩ = some (.slice A1 j c1) := cell_row X3.out.node rfl
      have z8 : x3.frozen? ⟨w2.heap.size, 1, none⟩ = false := blk_frozen X3.out.node 1
      refine skip_ (w1 := ?_) (by rfl) rfl ?_ ?_
      rotate_left
      · go_simp
        rfl
      refine hK.out _ _ ?_
      clear hK K
      refine done_ (by kernel_rfl) ?_
      clear q8 z8 hx4
      go_wp2_with fail
      have Td := Lib.hid (St.drew X4'.out)
      have Ta := Lib.hid (St.alloc Td.out (.cells #[.int .u64 v] 25))
      have cb : (x4.drew.alloc (.cells #[.int .u64 v] 25)).cell? ⟨x4.heap.size, 0, none⟩ = some (.int .u64 v) := cell_row (heap_alloc_new x4.drew _) rfl
      obtain ⟨B5a, e5, x5, rx5, ox5, gx5, bx5⟩ := app_one (c := 1) Try.underlying22 info64 Ta.out.ov cb HJ8.out.1 HJ8.out.2 Ta.out.le
      have X5 := Lib.hid (St.app_v Ta.out ox5 gx5 bx5)
      have RX5 := Lib.hid rx5
      obtain ⟨bd', ebd, hcv4⟩ := cell_at (X4.out.2.below X4'.out.bel) i HNV.out
      injection ebd with ebd
      subst ebd
      rw [HV0.out] at hcv4
      have HCV4 := Lib.hid hcv4
      have HCVa := Lib.hid (pw_cell_below ((below_drew (Below.refl x4.heap.size x4)).alloc (Nat.le_refl _) (.cells #[.int .u64 v] 25)) hcv4)
      clear hcv4
      clear cb rx5 ox5 gx5 bx5
      refine start_ (n := 11) (S := fun w' => w'.cell? ⟨w2.heap.size, 2, none⟩ = some (.slice A2 j c2) ∧ w'.cell? ⟨w.heap.size, 2, none⟩ = some (.slice (some bd) nv cv) ∧ w'.cell? (bd.add i) = some (.int .u64 v)) (ds := [8, 10]) #[false, false, false, false, false, false, false, false, false, false, false] (by kernel_rfl) rfl rfl ⟨cell_row Td.out.node rfl, cell_row (X4'.out.rows _ (List.mem_cons_self ..)).1 rfl, HCV4.out⟩ (fun hHeld => ?_)
      refine pure_ (i := 0) (N := some 28) (v := ?_) (a' := ?_) #[true, false, false, false, false, false, false, false, false, false, false] rfl rfl (by kernel_rfl) (fun _ _ _ h => h) (Or.inl ⟨by rfl, ?_⟩) ?_ ?_
      rotate_left
      · intro w'
        go_simp
        with_reducible rfl
      rotate_left
      · simp only [Act.put, List.setIfInBounds_toArray, List.set_cons_zero, List.set_cons_succ, i64_w, i32_w]
        rfl
      refine pure_ (i := 2) (N := some 30) (v := ?_) (a' := ?_) #[true, false, true, false, false, false, false, false, false, false, false] rfl rfl (by kernel_rfl) (fun _ _ _ h => h) (Or.inl ⟨by rfl, ?_⟩) ?_ ?_
      rotate_left
      · intro w'
        go_simp
        with_reducible rfl
      rotate_left
      · simp only [Act.put, List.setIfInBounds_toArray, List.set_cons_zero, List.set_cons_succ, i64_w, i32_w]
        rfl
      refine pure_ (i := 4) (N := some 32) (v := ?_) (a' := ?_) #[true, false, true, false, true, false, false, false, false, false, false] rfl rfl (by kernel_rfl) (fun _ _ _ h => h) (Or.inl ⟨by rfl, ?_⟩) ?_ ?_
      rotate_left
      · intro w'
        go_simp
        with_reducible rfl
      rotate_left
      · simp only [Act.put, List.setIfInBounds_toArray, List.set_cons_zero, List.set_cons_succ, i64_w, i32_w]
        rfl
      refine take_ (i := 1) (N := some 29) (v := ?_) (a' := ?_) #[true, true, true, false, true, false, false, false, false, false, false] rfl rfl (by kernel_rfl) (fun _ _ _ h => h) (Or.inl ⟨by rfl, ?_⟩) hHeld ?_ ?_
      rotate_left
      · rintro w' ⟨s0, s1, s2⟩
        go_simp
        with_reducible rfl
      rotate_left
      · simp only [Act.put, List.setIfInBounds_toArray, List.set_cons_zero, List.set_cons_succ, i64_w, i32_w]
        rfl
      refine take_ (i := 3) (N := some 31) (v := ?_) (a' := ?_) #[true, true, true, true, true, false, false, false, false, false, false] rfl rfl (by kernel_rfl) (fun _ _ _ h => h) (Or.inl ⟨by rfl, ?_⟩) hHeld ?_ ?_
      rotate_left
      · rintro w' ⟨s0, s1, s2⟩
        go_simp
        with_reducible rfl
      rotate_left
      · simp only [Act.put, List.setIfInBounds_toArray, List.set_cons_zero, List.set_cons_succ, i64_w, i32_w]
        rfl
      refine pure_ (i := 5) (N := some 33) (v := ?_) (a' := ?_) #[true, true, true, true, true, true, false, false, false, false, false] rfl rfl (by kernel_rfl) (fun _ _ _ h => h) (Or.inl ⟨by rfl, ?_⟩) ?_ ?_
      rotate_left
      · intro w'
        go_simp
        with_reducible rfl
      rotate_left
      · simp only [Act.put, List.setIfInBounds_toArray, List.set_cons_zero, List.set_cons_succ, i64_w, i32_w]
        rfl
      refine take_ (i := 6) (N := some 34) (v := ?_) (a' := ?_) #[true, true, true, true, true, true, true, false, false, false, false] rfl rfl (by kernel_rfl) (fun _ _ _ h => h) (Or.inl ⟨by rfl, ?_⟩) hHeld ?_ ?_
      rotate_left
      · rintro w' ⟨s0, s1, s2⟩
        go_simp
        with_reducible rfl
      rotate_left
      · simp only [Act.put, List.setIfInBounds_toArray, List.set_cons_zero, List.set_cons_succ, i64_w, i32_w]
        rfl
      refine one_ (i := 7) (N := some 35) #[true, true, true, true, true, true, true, true, false, false, false] rfl rfl (by kernel_rfl) (by decide) (fun K hK => ?_)
      refine value_ (w1 := ?_) (v := ?_) (by rfl) rfl ?_ ?_
      rotate_left 2
      · go_simp
        constructor
        · rfl
        · rfl
      refine hK.out _ _ ⟨cell_row Ta.out.node rfl, cell_row (Ta.out.rows _ (List.mem_cons_self ..)).1 rfl, HCVa.out⟩ (fun hHeld => ?_)
      clear hK K
      refine norm_ (a' := ?_) ?_ ?_
      rotate_left
      · show Act.put _ (some 35) _ = _
        simp only [Act.put, List.setIfInBounds_toArray, List.set_cons_zero, List.set_cons_succ, i64_w, i32_w]
        rfl
      refine last_ (i := 8) (N := some 36) #[true, true, true, true, true, true, true, true, true, false, false] rfl rfl (by kernel_rfl) (by decide) (fun K hK => ?_)
      refine value_ (w1 := x5) (v := .slice B5a (j + 1) e5) (by rfl) rfl (exec_app (.tmp 29) (.tmp 35) ?_ ?_ ?_ RX5.out) ?_
      · rfl
      · rfl
      · rfl
      refine hK.out _ _ ?_
      clear hK K
      refine norm_ (a' := ?_) ?_ ?_
      rotate_left
      · show Act.put _ (some 36) _ = _
        simp only [Act.put, List.setIfInBounds_toArray, List.set_cons_zero, List.set_cons_succ, i64_w, i32_w]
        rfl
      refine pure_ (i := 9) (N := some 37) (v := ?_) (a' := ?_) #[true, true, true, true, true, true, true, true, true, true, false] rfl rfl (by kernel_rfl) (fun _ _ _ h => h) (Or.inl ⟨by rfl, ?_⟩) ?_ ?_
      rotate_left
      · intro w'
        go_simp
        with_reducible rfl
      rotate_left
      · simp only [Act.put, List.setIfInBounds_toArray, List.set_cons_zero, List.set_cons_succ, i64_w, i32_w]
        rfl
      refine last_ (i := 10) (N := none) #[true, true, true, true, true, true, true, true, true, true, true] rfl rfl (by kernel_rfl) (by decide) (fun K hK => ?_)
      obtain ⟨x6, hx6⟩ : ∃ w9, x5.setCell ⟨w2.heap.size, 2, none⟩ (.slice B5a (j + 1) e5) = w9 := ⟨_, rfl⟩
      have X6 := Lib.hid (St.put X5.out 2 (.slice B5a (j + 1) e5) (nd' := #[.bool L, .slice B3a (j + 1) e3, .slice B5a (j + 1) e5]) rfl)
      rw [hx6] at X6
      have q8 : x5.cell? ⟨w2.heap.size, 2, none⟩ = some (.slice A2 j c2) := cell_row X5.out.node rfl
      have z8 : x5.frozen? ⟨w2.heap.size, 2, none⟩ = false := blk_frozen X5.out.node 2
      refine skip_ (w1 := ?_) (by rfl) rfl ?_ ?_
      rotate_left
      · go_simp
        rfl
      refine hK.out _ _ ?_
      clear hK K
      refine done_ (by kernel_rfl) ?_
      clear q8 z8 hx6
      go_wp2_with fail
      go_roundw
      case rel => exact ⟨i + 1, j + 1, e3, e5, B3a, B5a, by have := HIJ.out; omega, HLT.out, by push_cast; rfl, by rw [← HTK.out, ← HTV.out]; exact X6.out⟩
      case measure => simp [intOf]; have h1 := HLT.out; have h2 := HT.out; have h3 := HIJ.out; omega
    · obtain rfl : j = d := by omega
      have dit : decide ((i : Int) < (t : Int)) = false := decide_eq_false (by have h1 := HT.out; have h2 := HIJ.out; omega)
      have dit' : decide (i < t) = false := decide_eq_false (by have h1 := HT.out; have h2 := HIJ.out; omega)
      have HNODE := Lib.hid ST6.out.node
      have HRES := Lib.hid (show wr.heap[w1.heap.size]? = some (.cells #[.bool false, .slice none 0 0, .slice none 0 0] 24) from (ST6.out.rows _ (List.mem_cons_of_mem _ (List.mem_singleton.2 rfl))).1)
      clear hj hlt
      go_wp2_with (first | ((with_reducible refine wpList_load_row rfl 24 (.tmp 7) rfl w2.heap.size ?_ 24 _ _ _ HNODE.out Try.underlying24 ?_ (size3 _ _ _) ?_); rfl; rfl) | ((with_reducible refine wpList_store_row rfl 24 (.tmp 6) (.tmp 38) rfl w1.heap.size #[.bool L, .slice A1 j c1, .slice A2 j c2] ?_ ?_ 24 _ HRES.out (size3 _ _ _) ?_ (one3 _ _ _ _ _ _ _) ?_); rfl; rfl; rfl))
      have ho := ST6.out.ok
      have hv := ST6.out.ov
      have hlk : (cut Ks f t).length = j := by have h1 := HT.out.1.1; rw [HL.out.1]; omega
      have hlv : (cut Vs f t).length = j := by have h1 := HT.out.1.1; rw [HL.out.2]; omega
      rw [List.take_of_length_le (by rw [hlk]; exact Nat.le_refl _)] at ho
      rw [List.take_of_length_le (by rw [hlv]; exact Nat.le_refl _)] at hv
      have hfar : Apart A1 A2 := by
        rintro a a' rfl rfl he
        exact ST6.out.sep a.block rfl (by rw [he]; rfl)
      have hbs : w.heap.size ≤ w4.heap.size := Nat.le_of_lt SZ.out.1
      exact ret_c 6 rfl w1.heap.size #[.bool L, .slice A1 j c1, .slice A2 j c2] (0, 0) rfl (setRow_heap _ _ _ _ _ _ HRES.out) rfl rfl ⟨A1, c1, A2, c2, rfl, own_weaken (own_setRow ho (own_ne ho SZ.out.2) _) hbs, own_weaken (own_setRow hv (own_ne hv SZ.out.2) _) hbs, hlk, hlv, hfar, below_setRow ST6.out.bel HW1.out _⟩
set_option maxRecDepth 100000 in
set_option maxHeartbeats 1600000 in
theorem own_sep (L : Bool) (K V : List Int) (ak av : Option Addr) (nk ck nv cv : Nat) (w : World) (HK : ReadsInt w .u64 ak nk K) (HV : ReadsInt w .u64 av nv V) (hk : nk * 8 ≤ 140737488351232) (hv : nv * 8 ≤ 140737488351232) :
    Calls Try.prog 20 #[.agg #[.bool L, .slice ak nk ck, .slice av nv cv]] w fun e w' => NO w w' e L nk nv K V := by
  obtain ⟨w1, hw1, b1, f1, s1⟩ := made w #[.bool L, .slice ak nk ck, .slice av nv cv] 24
  obtain ⟨w2, hw2, b2, f2, s2⟩ := made w1 #[.bool false, .slice none 0 0, .slice none 0 0] 24
  have B2 := Lib.hid (below_then b1 b1.size b2)
  have f1' := keep_row f1 b2
  have g1 : w2.cell? ⟨w.heap.size, 1, none⟩ = some (.slice ak nk ck) := cell_row f1' rfl
  have RK := Lib.hid (ReadsInt.below HK B2.out)
  have RV := Lib.hid (ReadsInt.below HV B2.out)
  have LK := Lib.hid HK.1
  have LV := Lib.hid HV.1
  have F1 := Lib.hid f1'
  have F2 := Lib.hid f2
  have S2 := Lib.hid (show w.heap.size < w2.heap.size ∧ w1.heap.size < w2.heap.size ∧ w.heap.size ≠ w1.heap.size ∧ w.heap.size ≤ w1.heap.size by omega)
  have HV0 := Lib.hid HV
  clear HK HV b1 b2 f1 f2 s1 s2 f1'
  go_enter Try.func20, Try.ntmps20
  go_wp2_with (at_builtin; refine print_append_row (w0 := w2) (W := w2) w2.heap.size rfl _ _ 22 25 .u64 8 rfl Try.underlying22 info64 (by omega) (.slice none 0 0) [] K ak nk ck rfl rfl (own_nil _ _ _ _) RK.out (Below.refl _ _) (Nat.le_refl _) (by simp; omega) ?_)
  intro v3 w3 hown hb hg hat
  have hown' : w3.ownsRow w2.heap.size 25 1 v3 nk (nums .u64 K) := by simpa [LK.out] using hown
  obtain ⟨A3, c3, rfl⟩ := own_slice hown'
  obtain ⟨w4, hw4⟩ : ∃ w4, w3.setCell ⟨w.heap.size, 1, none⟩ (.slice A3 nk c3) = w4 := ⟨_, rfl⟩
  have r1 : w4.heap[w.heap.size]? = some (.cells #[.bool L, .slice A3 nk c3, .slice av nv cv] 24) := by rw [← hw4]; exact blk_put (keep_row F1.out hb) 1 _ rfl
  have r2 : w4.heap[w1.heap.size]? = some (.cells #[.bool false, .slice none 0 0, .slice none 0 0] 24) := by rw [← hw4]; exact blk_far (keep_row F2.out hb) (Ne.symm S2.out.2.2.1) _
  have q1 := keep_row F1.out hb
  have c1 : w3.cell? ⟨w.heap.size, 1, none⟩ = some (.slice ak nk ck) := cell_row q1 rfl
  have z1 : w3.frozen? ⟨w.heap.size, 1, none⟩ = false := blk_frozen q1 1
  have g2 : w4.cell? ⟨w.heap.size, 2, none⟩ = some (.slice av nv cv) := cell_row r1 rfl
  have z2 : w4.frozen? ⟨w.heap.size, 2, none⟩ = false := blk_frozen r1 2
  have O4 := Lib.hid (show w4.ownsRow w2.heap.size 25 1 (.slice A3 nk c3) nk (nums .u64 K) by rw [← hw4]; exact own_setCell hown' (own_ne hown' S2.out.1) _)
  have B4 := Lib.hid (show Below w.heap.size w w4 by rw [← hw4]; exact (below_then B2.out B2.out.size hb).setCell (Nat.le_refl _) _)
  have D4 := Lib.hid (show w2.heap.size ≤ w4.heap.size by rw [← hw4, World.size_setCell]; exact hb.size)
  have V5 := Lib.hid (ReadsInt.below HV0.out B4.out)
  have F4 := Lib.hid r1
  have E4 := Lib.hid r2
  clear hown hown' hb hg hat q1 r1 r2
  go_wp2_with (at_builtin; refine print_append_row (w0 := w4) (W := w4) w4.heap.size rfl _ _ 22 25 .u64 8 rfl Try.underlying22 info64 (by omega) (.slice none 0 0) [] V av nv cv rfl rfl (own_nil _ _ _ _) V5.out (Below.refl _ _) (Nat.le_refl _) (by simp; omega) ?_)
  intro v5 w5 hown hb hg hat
  have hown' : w5.ownsRow w4.heap.size 25 1 v5 nv (nums .u64 V) := by simpa [LV.out] using hown
  obtain ⟨A5, c5, rfl⟩ := own_slice hown'
  obtain ⟨w6, hw6⟩ : ∃ w6, w5.setCell ⟨w.heap.size, 2, none⟩ (.slice A5 nv c5) = w6 := ⟨_, rfl⟩
  have q1 := keep_row F4.out hb
  have r1 : w6.heap[w.heap.size]? = some (.cells #[.bool L, .slice A3 nk c3, .slice A5 nv c5] 24) := by rw [← hw6]; exact blk_put q1 2 _ rfl
  have r2 : w6.heap[w1.heap.size]? = some (.cells #[.bool false, .slice none 0 0, .slice none 0 0] 24) := by rw [← hw6]; exact blk_far (keep_row E4.out hb) (Ne.symm S2.out.2.2.1) _
  have c2 : w5.cell? ⟨w.heap.size, 2, none⟩ = some (.slice av nv cv) := cell_row q1 rfl
  have z3 : w5.frozen? ⟨w.heap.size, 2, none⟩ = false := blk_frozen q1 2
  have hlt : w.heap.size < w4.heap.size := by have := S2.out.1; have := D4.out; omega
  have O6 := Lib.hid (show w6.ownsRow w4.heap.size 25 1 (.slice A5 nv c5) nv (nums .u64 V) by rw [← hw6]; exact own_setCell hown' (own_ne hown' hlt) _)
  have P6 := Lib.hid (show w6.ownsRow w2.heap.size 25 1 (.slice A3 nk c3) nk (nums .u64 K) by rw [← hw6]; exact own_setCell (pw_own_below O4.out hb) (own_ne O4.out S2.out.1) _)
  have B6 := Lib.hid (show Below w.heap.size w w6 by rw [← hw6]; exact (below_then B4.out B4.out.size hb).setCell (Nat.le_refl _) _)
  have F6 := Lib.hid r1
  have E6 := Lib.hid r2
  clear hown hown' hb hg hat q1 r1 r2 c1 z1 hlt
  go_wp2_with (first | ((with_reducible refine wpList_load_row rfl 24 (.tmp 1) rfl w.heap.size ?_ 24 _ _ _ F6.out Try.underlying24 ?_ (size3 _ _ _) ?_); rfl; rfl) | ((with_reducible refine wpList_store_row rfl 24 (.tmp 2) (.tmp 15) rfl w1.heap.size #[.bool L, .slice A3 nk c3, .slice A5 nv c5] ?_ ?_ 24 _ E6.out (size3 _ _ _) ?_ (one3 _ _ _ _ _ _ _) ?_); rfl; rfl; rfl))
  refine ret_one rfl w1.heap.size #[.bool L, .slice A3 nk c3, .slice A5 nv c5] (0, 0) rfl (setRow_heap _ _ _ _ _ _ E6.out) rfl rfl ⟨A3, c3, A5, c5, rfl, ?_, ?_, LK.out, LV.out, apart_own (p := 0) O4.out O6.out (Nat.le_refl _), below_setRow B6.out S2.out.2.2.2 _⟩
  · exact own_weaken (own_setRow P6.out (own_ne P6.out S2.out.2.1) _) (Nat.le_of_lt S2.out.1)
  · exact own_weaken (own_setRow O6.out (own_ne O6.out (Nat.lt_of_lt_of_le S2.out.2.1 D4.out)) _) (Nat.le_trans (Nat.le_of_lt S2.out.1) D4.out)
theorem part_all (L : Bool) (Ks Vs : List Int) (ak av : Option Addr) (nk ck nv cv t : Nat) (w : World) (HK : ReadsInt w .u64 ak nk Ks) (HV : ReadsInt w .u64 av nv Vs) (htk : t ≤ nk) (htv : t ≤ nv) (hs : t * 8 ≤ 140737488355328) :
    Calls Try.prog 52 #[.agg #[.bool L, .slice ak nk ck, .slice av nv cv], .int .i64 0, .int .i64 (t : Int)] w fun e w' => NO w w' e L t t (cut Ks 0 t) (cut Vs 0 t) := part_own L Ks Vs ak av nk ck nv cv 0 t t w HK HV (by omega) htk htv hs
end Go.Proofs.Ytdekplalhfpooaa.Knt
