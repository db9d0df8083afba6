/- Knots: Split, Join, Even, by their contracts (every input). -/
import Derived.BigQuiet
import Derived.Test.YtdekplalhfpooaaKntD
set_option linter.unusedVariables false
set_option linter.unusedSimpArgs false
namespace Go.Proofs.Ytdekplalhfpooaa.Knt
open Go Go.RowKit Go.Proofs.YtdekplalhfpooaaW.PrintWords Go.Proofs.YtdekplalhfpooaaW.PrintLast Go.Proofs.YtdekplalhfpooaaW.PrintMore Base Odr Hlp Nod

/-- In two blocks, where both have numbers. -/
def Far (A : Option Addr) (n : Nat) (A' : Option Addr) (n' : Nat) : Prop := 0 < n → 0 < n' → ∀ a a', A = some a → A' = some a' → a.block ≠ a'.block
theorem far_apart {A A' : Option Addr} (h : Apart A A') (n n' : Nat) : Far A n A' n' := fun _ _ => h
theorem far_mine {W W' : World} {base base' n n' : Nat} {A D : Option Addr} {xs ys : List Int} (h : Mine W base A n xs) (h' : Mine W' base' D n' ys) (hb : W.heap.size ≤ base') : Far A n D n' := by
  rintro hn hn' a a' rfl rfl he
  obtain ⟨g, lo, pre, post, e, hg, hl, hh⟩ := h.2.2 hn
  obtain ⟨g', lo', pre', post', e', hg', hl', hh'⟩ := h'.2.2 hn'
  injection e with e; injection e' with e'
  subst e; subst e'
  have := (Array.getElem?_eq_some_iff.1 hh).1
  simp only at he
  omega
/-- A node of the call's own. -/
structure Own2 (w' : World) (base : Nat) (A : Option Addr) (c : Nat) (A' : Option Addr) (c' n n' : Nat) (xs ys : List Int) : Prop where
  k : Mine w' base A n xs
  v : Mine w' base A' n' ys
  far : Far A n A' n'
  lk : n ≤ c
  lv : n' ≤ c'
  nk : A = none → n = 0 ∧ c = 0
  nv : A' = none → n' = 0 ∧ c' = 0
theorem own2_below {w w' : World} {base : Nat} {A A' : Option Addr} {c c' n n' : Nat} {xs ys : List Int} (h : Own2 w base A c A' c' n n' xs ys) (hb : Below w.heap.size w w') : Own2 w' base A c A' c' n n' xs ys := ⟨mine_below h.k hb, mine_below h.v hb, h.far, h.lk, h.lv, h.nk, h.nv⟩
theorem own2_weaken {w : World} {base base' : Nat} {A A' : Option Addr} {c c' n n' : Nat} {xs ys : List Int} (h : Own2 w base A c A' c' n n' xs ys) (hb : base' ≤ base) : Own2 w base' A c A' c' n n' xs ys := ⟨mine_weaken h.k hb, mine_weaken h.v hb, h.far, h.lk, h.lv, h.nk, h.nv⟩
theorem mine_setRow {w : World} {base n g : Nat} {A : Option Addr} {xs : List Int} (h : Mine w base A n xs) (hg : g < base) (cs : Array Value) : Mine (w.setRow g cs) base A n xs := by
  refine ⟨h.1, h.2.1, fun hn => ?_⟩
  obtain ⟨g', lo, pre, post, e, hg', hl, hh⟩ := h.2.2 hn
  exact ⟨g', lo, pre, post, e, hg', hl, by rw [setRow_other _ _ _ _ (by omega)]; exact hh⟩
theorem own2_setRow {w : World} {base g : Nat} {A A' : Option Addr} {c c' n n' : Nat} {xs ys : List Int} (h : Own2 w base A c A' c' n n' xs ys) (hg : g < base) (cs : Array Value) : Own2 (w.setRow g cs) base A c A' c' n n' xs ys := ⟨mine_setRow h.k hg cs, mine_setRow h.v hg cs, h.far, h.lk, h.lv, h.nk, h.nv⟩
theorem nb_own {w w' : World} {e : Ending} {L : Bool} {n n' : Nat} {xs ys : List Int} (h : NB w w' e L n n' xs ys) : ∃ A c A' c', e = .returned (.agg #[.bool L, .slice A n c, .slice A' n' c']) ∧ Own2 w' w.heap.size A c A' c' n n' xs ys ∧ Below w.heap.size w w' := by
  obtain ⟨A, c, A', c', he, h1, h2, h3, h4, h5, h6, h7, h8⟩ := h
  exact ⟨A, c, A', c', he, ⟨h1, h2, far_apart h3 _ _, h4, h5, h6, h7⟩, h8⟩
/-- What a call that makes a node leaves. -/
def N1 (w w' : World) (e : Ending) (L : Bool) (n n' : Nat) (xs ys : List Int) : Prop :=
  ∃ A c A' c', e = .returned (.agg #[.bool L, .slice A n c, .slice A' n' c']) ∧ Own2 w' w.heap.size A c A' c' n n' xs ys ∧ Below w.heap.size w w'
/-- What a call that makes two nodes leaves. -/
def N2 (w w' : World) (e : Ending) (L : Bool) (n m : Nat) (xs ys xs' ys' : List Int) : Prop :=
  ∃ A c A' c' D k D' k', e = .returned (.tuple #[.agg #[.bool L, .slice A n c, .slice A' n c'], .agg #[.bool L, .slice D m k, .slice D' m k']]) ∧ Own2 w' w.heap.size A c A' c' n n xs ys ∧ Own2 w' w.heap.size D k D' k' m m xs' ys' ∧
    Far A n D m ∧ Far A n D' m ∧ Far A' n D m ∧ Far A' n D' m ∧ Below w.heap.size w w'
theorem ret_cc {f : Func} {R : Ending → World → Prop} {a : Act} {w : World} (s s' : Nat) (hf : f.results = #[.cell s 24, .cell s' 24]) (g g' : Nat) (cs cs' : Array Value) (fr fr' : Nat × Nat) (hp : a.tmps.getD s undef = .pointer (some ⟨g, 0, none⟩)) (hp2 : a.tmps.getD s' undef = .pointer (some ⟨g', 0, none⟩))
    (hg : w.heap[g]? = some (.cells cs 24 fr)) (hg' : w.heap[g']? = some (.cells cs' 24 fr')) (hcs : cs.size = 3) (hcs' : cs'.size = 3)
    (hd : a.defers = []) (hR : R (.returned (.tuple #[.agg cs, .agg cs'])) w) : bodyPost Try.prog f R .ret a w := by
  have h1 := run_loadVar_row (P := Try.prog) w g 24 24 cs fr _ hg Try.underlying24 rfl (by rw [hcs]; kernel_rfl)
  have h2 := run_loadVar_row (P := Try.prog) w g' 24 24 cs' fr' _ hg' Try.underlying24 rfl (by rw [hcs']; kernel_rfl)
  have hp' : a.tmps[s]?.getD undef = .pointer (some ⟨g, 0, none⟩) := by simpa using hp
  have hp2' : a.tmps[s']?.getD undef = .pointer (some ⟨g', 0, none⟩) := by simpa using hp2
  refine bodyPost_ret (v := .tuple #[.agg cs, .agg cs']) ?_ hd hR
  simp [results, hf, hp', hp2', asAddr, h1, h2]
set_option maxRecDepth 100000 in
set_option maxHeartbeats 3200000 in
theorem join_at (L L2 : Bool) (Ks Vs K2 V2 : List Int) (ak av ak2 av2 : Option Addr) (nk ck nv cv nk2 ck2 nv2 cv2 m m2 q : Nat) (w : World) (HK : ReadsInt w .u64 ak nk Ks) (HV : ReadsInt w .u64 av nv Vs) (HK2 : ReadsInt w .u64 ak2 nk2 K2) (HV2 : ReadsInt w .u64 av2 nv2 V2)
    (hm : min nk nv = m) (hm2 : min nk2 nv2 = m2) (hq : m + m2 = q) (hk : nk ≤ ck ∧ nv ≤ cv) (hn : (ak = none → ck = 0) ∧ (av = none → cv = 0)) (hk2 : nk2 ≤ ck2 ∧ nv2 ≤ cv2) (hn2 : (ak2 = none → ck2 = 0) ∧ (av2 = none → cv2 = 0)) (hs : q * 8 ≤ 140737488355328) :
    Calls Try.prog 22 #[.agg #[.bool L, .slice ak nk ck, .slice av nv cv], .agg #[.bool L2, .slice ak2 nk2 ck2, .slice av2 nv2 cv2]] w fun e w' => N1 w w' e L q q (Ks.take m ++ K2.take m2) (Vs.take m ++ V2.take m2) := by
  obtain ⟨w1, hw1, b1, f1, s1⟩ := made w #[.bool L, .slice ak nk ck, .slice av nv cv] 24
  obtain ⟨w2, hw2, b2, f2, s2⟩ := made w1 #[.bool L2, .slice ak2 nk2 ck2, .slice av2 nv2 cv2] 24
  obtain ⟨w3, hw3, b3, f3, s3⟩ := made w2 #[.bool false, .slice none 0 0, .slice none 0 0] 24
  have B3 := Lib.hid (below_then' (below_then' b1 b2) b3)
  have P3 := Lib.hid (keep_row (keep_row f1 b2) b3)
  have Q3 := Lib.hid (keep_row f2 b3)
  have F3 := Lib.hid f3
  have SP := Lib.hid (show w.heap.size < w3.heap.size ∧ w1.heap.size < w3.heap.size ∧ w2.heap.size < w3.heap.size ∧ w.heap.size ≤ w2.heap.size by omega)
  have RK := Lib.hid (And.intro (HK.below B3.out) (HV.below B3.out))
  have RK2 := Lib.hid (And.intro (HK2.below B3.out) (HV2.below B3.out))
  have HM := Lib.hid (And.intro hm (And.intro hm2 hq))
  have HC := Lib.hid (And.intro hk hn)
  have HC2 := Lib.hid (And.intro hk2 hn2)
  have HS := Lib.hid hs
  clear b1 f1 s1 b2 f2 s2 b3 f3 s3 HK HV HK2 HV2 hm hm2 hq hk hn hk2 hn2 hs
  go_enter Try.func22, Try.ntmps22
  go_wp2_with ((with_reducible refine wpList_load_row rfl 24 (.tmp 3) rfl w1.heap.size ?_ 24 _ _ _ Q3.out Try.underlying24 ?_ (size3 _ _ _) ?_); rfl; rfl)
  clear hw1 hw2 hw3
  refine (both_id L2 K2 V2 ak2 av2 nk2 ck2 nv2 cv2 m2 _ RK2.out.1 RK2.out.2 HM.out.2.1 HC2.out.1 HC2.out.2.1 HC2.out.2.2 (by have h1 := HM.out.2.2; have h2 := HS.out; omega)).mono ?_; rintro e w4 hnb
  obtain ⟨A4, c4, A4', c4', rfl, ho4, hb⟩ := nb_own hnb
  have OW4 := Lib.hid ho4
  have B4 := Lib.hid (below_then' B3.out hb)
  have P4 := Lib.hid (keep_row P3.out hb)
  have F4 := Lib.hid (keep_row F3.out hb)
  have RK4 := Lib.hid (And.intro (RK.out.1.below hb) (RK.out.2.below hb))
  have SP4 := Lib.hid (show w3.heap.size ≤ w4.heap.size from hb.size)
  clear hnb ho4 hb
  obtain ⟨w5, hw5, b5, f5, s5⟩ := made w4 #[.bool false, .slice none 0 0, .slice none 0 0] 24
  obtain ⟨w6, hw6⟩ : ∃ w6, w5.setRow w4.heap.size #[.bool L2, .slice A4 m2 c4, .slice A4' m2 c4'] = w6 := ⟨_, rfl⟩
  have R5 := Lib.hid f5
  have E6 := Lib.hid (show w6.heap[w4.heap.size]? = some (.cells #[.bool L2, .slice A4 m2 c4, .slice A4' m2 c4'] 24) by rw [← hw6]; exact setRow_heap _ _ _ _ _ _ f5)
  have BB6 := Lib.hid (show Below w4.heap.size w4 w6 by rw [← hw6]; exact below_setRow b5 (Nat.le_refl _) _)
  have P6 := Lib.hid (keep_row P4.out BB6.out)
  have F6 := Lib.hid (keep_row F4.out BB6.out)
  clear b5 f5 s5
  go_wp2_with (first | ((with_reducible refine wpList_load_row rfl 24 (.tmp 2) rfl w.heap.size ?_ 24 _ _ _ P6.out Try.underlying24 ?_ (size3 _ _ _) ?_); rfl; rfl) | ((with_reducible refine wpList_store_row rfl 24 (.tmp 5) (.tmp 7) rfl w4.heap.size #[.bool L2, .slice A4 m2 c4, .slice A4' m2 c4'] ?_ ?_ 24 _ R5.out (size3 _ _ _) ?_ (one3 _ _ _ _ _ _ _) ?_); rfl; rfl; rfl; rw [hw6]))
  clear hw5 hw6
  refine (both_more L Ks Vs ak av nk ck nv cv m w4.heap.size L2 (K2.take m2) (V2.take m2) A4 A4' m2 c4 m2 c4' q q _ (RK4.out.1.below BB6.out) (RK4.out.2.below BB6.out) HM.out.1 E6.out (mine_reads (mine_below OW4.out.k BB6.out)) (mine_reads (mine_below OW4.out.v BB6.out)) HM.out.2.2 HM.out.2.2 ⟨HS.out, HS.out⟩ HC.out.1 HC.out.2.1 HC.out.2.2 (by have h1 := HM.out.2.2; have h2 := HS.out; omega)).mono ?_; rintro e w7 hnb
  obtain ⟨A7, c7, A7', c7', rfl, ho7, hb⟩ := nb_own hnb
  have OW7 := Lib.hid ho7
  have B7 := Lib.hid (below_then' (below_then' B4.out BB6.out) hb)
  have F7 := Lib.hid (keep_row F6.out hb)
  have SP7 := Lib.hid (show w3.heap.size ≤ w6.heap.size by have h1 := SP4.out; have h2 := BB6.out.size; omega)
  clear hnb ho7 hb
  go_wp2_with ((with_reducible refine wpList_store_row rfl 24 (.tmp 4) (.tmp 10) rfl w2.heap.size #[.bool L, .slice A7 q c7, .slice A7' q c7'] ?_ ?_ 24 _ F7.out (size3 _ _ _) ?_ (one3 _ _ _ _ _ _ _) ?_); rfl; rfl; rfl)
  exact ret_c 4 rfl w2.heap.size #[.bool L, .slice A7 q c7, .slice A7' q c7'] (0, 0) rfl (setRow_heap _ _ _ _ _ _ F7.out) rfl rfl ⟨A7, c7, A7', c7', rfl, own2_weaken (own2_setRow OW7.out (by have h1 := SP.out; have h2 := SP7.out; omega) _) (by have h1 := SP.out; have h2 := SP7.out; omega), below_setRow B7.out SP.out.2.2.2 _⟩
set_option maxRecDepth 100000 in
set_option maxHeartbeats 3200000 in
theorem split_at (L : Bool) (Ks Vs : List Int) (ak av : Option Addr) (nk ck nv cv m h d : Nat) (w : World) (HK : ReadsInt w .u64 ak nk Ks) (HV : ReadsInt w .u64 av nv Vs) (hm : min nk nv = m) (hh : (m + 1) / 2 = h) (hd : m - h = d) (hk : nk ≤ ck ∧ nv ≤ cv) (hn : (ak = none → ck = 0) ∧ (av = none → cv = 0)) (hs : m * 8 ≤ 140737488355328) :
    Calls Try.prog 21 #[.agg #[.bool L, .slice ak nk ck, .slice av nv cv]] w fun e w' => N2 w w' e L h d ((Ks.take m).take h) ((Vs.take m).take h) ((Ks.take m).drop h) ((Vs.take m).drop h) := by
  obtain ⟨w1, hw1, b1, f1, s1⟩ := made w #[.bool L, .slice ak nk ck, .slice av nv cv] 24
  obtain ⟨w2, hw2, b2, f2, s2⟩ := made w1 #[.bool false, .slice none 0 0, .slice none 0 0] 24
  obtain ⟨w3, hw3, b3, f3, s3⟩ := made w2 #[.bool false, .slice none 0 0, .slice none 0 0] 24
  have B3 := Lib.hid (below_then' (below_then' b1 b2) b3)
  have P3 := Lib.hid (keep_row (keep_row f1 b2) b3)
  have Q3 := Lib.hid (keep_row f2 b3)
  have F3 := Lib.hid f3
  have SP := Lib.hid (show w.heap.size < w1.heap.size ∧ w1.heap.size < w2.heap.size ∧ w2.heap.size < w3.heap.size by omega)
  have RK := Lib.hid (And.intro (HK.below B3.out) (HV.below B3.out))
  have HM := Lib.hid (And.intro hm (And.intro hh hd))
  have HC := Lib.hid (And.intro hk hn)
  have HS := Lib.hid (And.intro HK.2.1 (And.intro HV.2.1 hs))
  clear b1 f1 s1 b2 f2 s2 b3 f3 s3 HK HV hm hh hd hk hn hs
  go_enter Try.func21, Try.ntmps21
  go_wp2_with ((with_reducible refine wpList_load_row rfl 24 (.tmp 1) rfl w.heap.size ?_ 24 _ _ _ P3.out Try.underlying24 ?_ (size3 _ _ _) ?_); rfl; rfl)
  clear hw1 hw2 hw3
  refine (count_at L ak av nk ck nv cv m _ HM.out.1 HS.out.1 HS.out.2.1).mono ?_; rintro e w4 ⟨rfl, hb⟩
  have B4 := Lib.hid (below_then' B3.out hb)
  have P4 := Lib.hid (keep_row P3.out hb)
  have Q4 := Lib.hid (keep_row Q3.out hb)
  have F4 := Lib.hid (keep_row F3.out hb)
  have RK4 := Lib.hid (And.intro (RK.out.1.below hb) (RK.out.2.below hb))
  have SP4 := Lib.hid (show w3.heap.size ≤ w4.heap.size from hb.size)
  clear hb
  obtain ⟨w5, hw5, b5, f5, s5⟩ := made w4 #[.int .i64 0] 3
  obtain ⟨w6, hw6⟩ : ∃ w6, w5.setCell ⟨w4.heap.size, 0, none⟩ (.int .i64 (h : Int)) = w6 := ⟨_, rfl⟩
  have y0 : w5.cell? ⟨w4.heap.size, 0, none⟩ = some (.int .i64 0) := cell_row f5 rfl
  have z0 : w5.frozen? ⟨w4.heap.size, 0, none⟩ = false := blk_frozen f5 0
  have E6 := Lib.hid (show w6.heap[w4.heap.size]? = some (.cells #[.int .i64 (h : Int)] 3) by rw [← hw6]; exact blk_put f5 0 _ rfl)
  have BB6 := Lib.hid (show Below w4.heap.size w4 w6 by rw [← hw6]; exact b5.setCell (Nat.le_refl _) _)
  have P6 := Lib.hid (keep_row P4.out BB6.out)
  have hm1 : m < 140737488355328 := by have h1 := HS.out.2.2; omega
  have hq : ((m : Int) + 1) / 2 = (h : Int) := by have h1 := HM.out.2.1; omega
  have hq2 : Int.tdiv ((m : Int) + 1) 2 = (h : Int) := by rw [Int.tdiv_eq_ediv_of_nonneg (by omega)]; exact hq
  have hh1 : h < 140737488355329 := by have h1 := HM.out.2.1; omega
  clear b5 f5 s5
  go_wp2_with ((with_reducible refine wpList_load_row rfl 24 (.tmp 1) rfl w.heap.size ?_ 24 _ _ _ P6.out Try.underlying24 ?_ (size3 _ _ _) ?_); rfl; rfl)
  clear hw5 hw6 y0 z0 hq hq2 hm1 hh1
  refine (both_h1 L Ks Vs ak av nk ck nv cv m w4.heap.size h _ (RK4.out.1.below BB6.out) (RK4.out.2.below BB6.out) HM.out.1 E6.out (by have := HM.out; omega) HC.out.1 HC.out.2.1 HC.out.2.2 HS.out.2.2).mono ?_; rintro e w7 hnb
  obtain ⟨A7, c7, B7', d7, rfl, ho, hb⟩ := nb_own hnb
  have OW7 := Lib.hid ho
  have B7 := Lib.hid (below_then' (below_then' B4.out BB6.out) hb)
  have P7 := Lib.hid (keep_row P6.out hb)
  have E7 := Lib.hid (keep_row E6.out hb)
  have Q7 := Lib.hid (keep_row (keep_row Q4.out BB6.out) hb)
  have F7 := Lib.hid (keep_row (keep_row F4.out BB6.out) hb)
  have RK7 := Lib.hid (And.intro ((RK4.out.1.below BB6.out).below hb) ((RK4.out.2.below BB6.out).below hb))
  have SP7 := Lib.hid (show w3.heap.size ≤ w6.heap.size ∧ w6.heap.size ≤ w7.heap.size by have h1 := SP4.out; have h2 := BB6.out.size; have h3 := hb.size; omega)
  clear hnb ho hb
  obtain ⟨w8, hw8, b8, f8, s8⟩ := made w7 #[.bool false, .slice none 0 0, .slice none 0 0] 24
  obtain ⟨w9, hw9⟩ : ∃ w9, w8.setRow w7.heap.size #[.bool L, .slice A7 h c7, .slice B7' h d7] = w9 := ⟨_, rfl⟩
  have R8 := Lib.hid f8
  have X9 := Lib.hid (show w9.heap[w7.heap.size]? = some (.cells #[.bool L, .slice A7 h c7, .slice B7' h d7] 24) by rw [← hw9]; exact setRow_heap _ _ _ _ _ _ f8)
  have BB9 := Lib.hid (show Below w7.heap.size w7 w9 by rw [← hw9]; exact below_setRow b8 (Nat.le_refl _) _)
  have P9 := Lib.hid (keep_row P7.out BB9.out)
  clear b8 f8 s8
  go_wp2_with (first | ((with_reducible refine wpList_load_row rfl 24 (.tmp 1) rfl w.heap.size ?_ 24 _ _ _ P9.out Try.underlying24 ?_ (size3 _ _ _) ?_); rfl; rfl) | ((with_reducible refine wpList_store_row rfl 24 (.tmp 5) (.tmp 13) rfl w7.heap.size #[.bool L, .slice A7 h c7, .slice B7' h d7] ?_ ?_ 24 _ R8.out (size3 _ _ _) ?_ (one3 _ _ _ _ _ _ _) ?_); rfl; rfl; rfl; rw [hw9]))
  clear hw8 hw9
  refine (both_h2 L Ks Vs ak av nk ck nv cv m w4.heap.size h d _ (RK7.out.1.below BB9.out) (RK7.out.2.below BB9.out) HM.out.1 (keep_row E7.out BB9.out) (by have := HM.out; omega) HM.out.2.2 HC.out.1 HC.out.2.1 HC.out.2.2 HS.out.2.2).mono ?_; rintro e w10 hnb
  obtain ⟨A10, c10, B10', d10, rfl, ho, hb⟩ := nb_own hnb
  have OW10 := Lib.hid ho
  have OW7b := Lib.hid (own2_below (own2_below OW7.out BB9.out) hb)
  have FA := Lib.hid (And.intro (far_mine OW7.out.k ho.k BB9.out.size) (And.intro (far_mine OW7.out.k ho.v BB9.out.size) (And.intro (far_mine OW7.out.v ho.k BB9.out.size) (far_mine OW7.out.v ho.v BB9.out.size))))
  have B10 := Lib.hid (below_then' (below_then' B7.out BB9.out) hb)
  have X10 := Lib.hid (keep_row X9.out hb)
  have Q10 := Lib.hid (keep_row (keep_row Q7.out BB9.out) hb)
  have F10 := Lib.hid (keep_row (keep_row F7.out BB9.out) hb)
  have SP10 := Lib.hid (show w7.heap.size < w9.heap.size ∧ w9.heap.size ≤ w10.heap.size from ⟨(Array.getElem?_eq_some_iff.1 X9.out).1, hb.size⟩)
  clear hnb ho hb
  obtain ⟨w11, hw11, b11, f11, s11⟩ := made w10 #[.bool false, .slice none 0 0, .slice none 0 0] 24
  obtain ⟨w12, hw12⟩ : ∃ w12, w11.setRow w10.heap.size #[.bool L, .slice A10 d c10, .slice B10' d d10] = w12 := ⟨_, rfl⟩
  have R11 := Lib.hid f11
  have Y12 := Lib.hid (show w12.heap[w10.heap.size]? = some (.cells #[.bool L, .slice A10 d c10, .slice B10' d d10] 24) by rw [← hw12]; exact setRow_heap _ _ _ _ _ _ f11)
  have BB12 := Lib.hid (show Below w10.heap.size w10 w12 by rw [← hw12]; exact below_setRow b11 (Nat.le_refl _) _)
  have X12 := Lib.hid (keep_row X10.out BB12.out)
  have Q12 := Lib.hid (keep_row Q10.out BB12.out)
  have F12 := Lib.hid (keep_row F10.out BB12.out)
  clear b11 f11 s11
  go_wp2_with ((with_reducible refine wpList_store_row rfl 24 (.tmp 6) (.tmp 16) rfl w10.heap.size #[.bool L, .slice A10 d c10, .slice B10' d d10] ?_ ?_ 24 _ R11.out (size3 _ _ _) ?_ (one3 _ _ _ _ _ _ _) ?_); rfl; rfl; rfl; rw [hw12])
  clear hw11 hw12
  have hn1 : w7.heap.size ≠ w1.heap.size := by have h1 := SP.out; have h2 := SP7.out; omega
  have hn2 : w10.heap.size ≠ w1.heap.size := by have h1 := SP.out; have h2 := SP7.out; have h3 := SP10.out; omega
  have hn3 : w2.heap.size ≠ w1.heap.size := by have h1 := SP.out; omega
  refine start_ (n := 4) (S := fun w' => w'.cell? ⟨w7.heap.size, 0, none⟩ = some (.bool L) ∧ w'.cell? ⟨w7.heap.size, 1, none⟩ = some (.slice A7 h c7) ∧ w'.cell? ⟨w7.heap.size, 2, none⟩ = some (.slice B7' h d7) ∧ w'.cell? ⟨w10.heap.size, 0, none⟩ = some (.bool L) ∧ w'.cell? ⟨w10.heap.size, 1, none⟩ = some (.slice A10 d c10) ∧ w'.cell? ⟨w10.heap.size, 2, none⟩ = some (.slice B10' d d10)) (ds := [3]) #[false, false, false, false] (by kernel_rfl) rfl rfl ⟨cell_row X12.out rfl, cell_row X12.out rfl, cell_row X12.out rfl, cell_row Y12.out rfl, cell_row Y12.out rfl, cell_row Y12.out rfl⟩ (fun hHeld => ?_)
  refine take_ (i := 0) (N := some 17) (v := ?_) (a' := ?_) #[true, false, false, false] rfl rfl (by kernel_rfl) (fun _ _ _ h => h) (Or.inl ⟨by rfl, ?_⟩) hHeld ?_ ?_
  rotate_left
  · rintro w' ⟨s0, s1, s2, s3, s4, s5⟩
    go_simp
    with_reducible rfl
  rotate_left
  · simp only [Act.put, List.setIfInBounds_toArray, List.set_cons_zero, List.set_cons_succ, i64_w, i32_w]
    rfl
  refine take_ (i := 1) (N := some 18) (v := ?_) (a' := ?_) #[true, true, false, false] rfl rfl (by kernel_rfl) (fun _ _ _ h => h) (Or.inl ⟨by rfl, ?_⟩) hHeld ?_ ?_
  rotate_left
  · rintro w' ⟨s0, s1, s2, s3, s4, s5⟩
    go_simp
    with_reducible rfl
  rotate_left
  · simp only [Act.put, List.setIfInBounds_toArray, List.set_cons_zero, List.set_cons_succ, i64_w, i32_w]
    rfl
  refine one_ (i := 2) (N := none) #[true, true, true, false] rfl rfl (by kernel_rfl) (by decide) (fun K hK => ?_)
  refine skip_ (w1 := w12.drew.setRow w1.heap.size #[.bool L, .slice A7 h c7, .slice B7' h d7]) (by rfl) rfl (exec_store_row 24 _ _ rfl w1.heap.size #[.bool L, .slice A7 h c7, .slice B7' h d7] (by rfl) (by rfl) 24 _ Q12.out (size3 _ _ _) rfl (one3 _ _ _ _ _ _ _)) ?_
  obtain ⟨w13, hw13⟩ : ∃ w13, w13 = w12.drew.setRow w1.heap.size #[.bool L, .slice A7 h c7, .slice B7' h d7] := ⟨_, rfl⟩
  rw [← hw13]
  have X13 := Lib.hid (show w13.heap[w7.heap.size]? = some (.cells #[.bool L, .slice A7 h c7, .slice B7' h d7] 24) by rw [hw13, setRow_other _ _ _ _ hn1]; exact X12.out)
  have Y13 := Lib.hid (show w13.heap[w10.heap.size]? = some (.cells #[.bool L, .slice A10 d c10, .slice B10' d d10] 24) by rw [hw13, setRow_other _ _ _ _ hn2]; exact Y12.out)
  have F13 := Lib.hid (show w13.heap[w2.heap.size]? = some (.cells #[.bool false, .slice none 0 0, .slice none 0 0] 24) by rw [hw13, setRow_other _ _ _ _ hn3]; exact F12.out)
  have Q13 := Lib.hid (show w13.heap[w1.heap.size]? = some (.cells #[.bool L, .slice A7 h c7, .slice B7' h d7] 24) by rw [hw13]; exact setRow_heap _ _ _ _ _ _ Q12.out)
  have HW13 := Lib.hid hw13
  clear hw13
  refine hK.out _ _ ⟨cell_row X13.out rfl, cell_row X13.out rfl, cell_row X13.out rfl, cell_row Y13.out rfl, cell_row Y13.out rfl, cell_row Y13.out rfl⟩ (fun hHeld => ?_)
  clear hK K
  refine last_ (i := 3) (N := none) #[true, true, true, true] rfl rfl (by kernel_rfl) (by decide) (fun K hK => ?_)
  refine skip_ (w1 := w13.setRow w2.heap.size #[.bool L, .slice A10 d c10, .slice B10' d d10]) (by rfl) rfl (exec_store_row 24 _ _ rfl w2.heap.size #[.bool L, .slice A10 d c10, .slice B10' d d10] (by rfl) (by rfl) 24 _ F13.out (size3 _ _ _) rfl (one3 _ _ _ _ _ _ _)) ?_
  obtain ⟨w14, hw14⟩ : ∃ w14, w14 = w13.setRow w2.heap.size #[.bool L, .slice A10 d c10, .slice B10' d d10] := ⟨_, rfl⟩
  rw [← hw14]
  have HW14 := Lib.hid hw14
  clear hw14
  refine hK.out _ _ ?_
  clear hK K
  refine done_ (by kernel_rfl) ?_
  have q14 : w14.heap[w1.heap.size]? = some (.cells #[.bool L, .slice A7 h c7, .slice B7' h d7] 24) := by rw [HW14.out, setRow_other _ _ _ _ (Ne.symm hn3)]; exact Q13.out
  have f14 : w14.heap[w2.heap.size]? = some (.cells #[.bool L, .slice A10 d c10, .slice B10' d d10] 24) := by rw [HW14.out]; exact setRow_heap _ _ _ _ _ _ F13.out
  have l1 : w1.heap.size < w6.heap.size ∧ w2.heap.size < w6.heap.size ∧ w1.heap.size < w9.heap.size ∧ w2.heap.size < w9.heap.size ∧ w.heap.size ≤ w1.heap.size ∧ w.heap.size ≤ w2.heap.size ∧ w.heap.size ≤ w6.heap.size ∧ w.heap.size ≤ w9.heap.size := by have h1 := SP.out; have h2 := SP7.out; have h3 := SP10.out; omega
  have o7 := own2_weaken (own2_setRow (own2_setRow (own2_below OW7b.out (below_drew BB12.out)) l1.1 #[.bool L, .slice A7 h c7, .slice B7' h d7]) l1.2.1 #[.bool L, .slice A10 d c10, .slice B10' d d10]) l1.2.2.2.2.2.2.1
  have o10 := own2_weaken (own2_setRow (own2_setRow (own2_below OW10.out (below_drew BB12.out)) l1.2.2.1 #[.bool L, .slice A7 h c7, .slice B7' h d7]) l1.2.2.2.1 #[.bool L, .slice A10 d c10, .slice B10' d d10]) l1.2.2.2.2.2.2.2
  have b14 : Below w.heap.size w w14 := by rw [HW14.out, HW13.out]; exact below_setRow (below_setRow (below_drew (below_then' B10.out BB12.out)) l1.2.2.2.2.1 _) l1.2.2.2.2.2.1 _
  rw [← HW13.out, ← HW14.out] at o7 o10
  go_wp2_with fail
  exact ret_cc 2 3 rfl w1.heap.size w2.heap.size _ _ (0, 0) (0, 0) rfl rfl q14 f14 rfl rfl rfl ⟨A7, c7, B7', d7, A10, c10, B10', d10, rfl, o7, o10, FA.out.1, FA.out.2.1, FA.out.2.2.1, FA.out.2.2.2, b14⟩
end Go.Proofs.Ytdekplalhfpooaa.Knt
