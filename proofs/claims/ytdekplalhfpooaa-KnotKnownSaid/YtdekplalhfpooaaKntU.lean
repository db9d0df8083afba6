/- Knots: nodes are split, joined, made even as the document says: the walk. -/
import Derived.BigQuiet
import Derived.Test.YtdekplalhfpooaaKntT
set_option linter.unusedVariables false
set_option linter.unusedSimpArgs false
namespace Go.Proofs.Ytdekplalhfpooaa.Knt
open Go Go.RowKit Go.Proofs.YtdekplalhfpooaaW.PrintWords Go.Proofs.YtdekplalhfpooaaW.PrintLast Go.Proofs.YtdekplalhfpooaaW.PrintMore Base Odr Hlp Nod Go.Proofs.Ytdekplalhfpooaa.Inv

theorem own_at (L : Bool) (K V : List Int) (ak av : Option Addr) (nk ck nv cv : Nat) (w : World) (HK : ReadsInt w .u64 ak nk K) (HV : ReadsInt w .u64 av nv V) (hk : nk * 8 ≤ 140737488351232) (hv : nv * 8 ≤ 140737488351232) :
    Calls Try.prog 20 #[.agg #[.bool L, .slice ak nk ck, .slice av nv cv]] w fun e w' => N1 w w' e L nk nv K V :=
  (own_sep L K V ak av nk ck nv cv w HK HV hk hv).mono fun e w' h => no_own h
theorem rjoin_n1 (L L2 : Bool) (Ks Vs K2 V2 : List Int) (ak av ak2 av2 : Option Addr) (nk ck nv cv nk2 ck2 nv2 cv2 m m2 q : Nat) (w : World) (HK : ReadsInt w .u64 ak nk Ks) (HV : ReadsInt w .u64 av nv Vs) (HK2 : ReadsInt w .u64 ak2 nk2 K2) (HV2 : ReadsInt w .u64 av2 nv2 V2)
    (hm : min nk nv = m) (hm2 : min nk2 nv2 = m2) (hq : m + m2 = q) (hs : q * 8 ≤ 140737488355328) :
    Calls Try.prog 25 #[.agg #[.bool L, .slice ak nk ck, .slice av nv cv], .agg #[.bool L2, .slice ak2 nk2 ck2, .slice av2 nv2 cv2]] w fun e w' => N1 w w' e L q q (Ks.take m ++ K2.take m2) (Vs.take m ++ V2.take m2) :=
  (rjoin_at L L2 Ks Vs K2 V2 ak av ak2 av2 nk ck nv cv nk2 ck2 nv2 cv2 m m2 q w HK HV HK2 HV2 hm hm2 hq hs).mono fun e w' h => no_own h
theorem rsame_eq (L : Bool) (K V K' V' : List Int) (ak av ak' av' : Option Addr) (nk ck nv cv nk' ck' nv' cv' : Nat) (w : World) (HK : ReadsInt w .u64 ak nk K) (HV : ReadsInt w .u64 av nv V) (HK' : ReadsInt w .u64 ak' nk' K') (HV' : ReadsInt w .u64 av' nv' V') (he : K = K') (he' : V = V') :
    Calls Try.prog 26 #[.agg #[.bool L, .slice ak nk ck, .slice av nv cv], .agg #[.bool L, .slice ak' nk' ck', .slice av' nv' cv']] w fun e w' => e = .returned (.bool true) ∧ Below w.heap.size w w' := by
  refine (rsame_any L L K V K' V' ak av ak' av' nk ck nv cv nk' ck' nv' cv' w HK HV HK' HV').mono ?_
  rintro e w' ⟨rfl, hb⟩
  exact ⟨by subst he; subst he'; simp [sameN], hb⟩
theorem cut_take {K : List Int} {h m : Nat} (hh : h ≤ m) : (K.take m).take h = cut K 0 h := by
  show (K.take m).take h = (K.take h).drop 0
  rw [List.take_take, Nat.min_eq_left hh]; rfl
theorem cut_all {K : List Int} {h q : Nat} (hl : K.length = q) : K.drop h = cut K h q := by
  show K.drop h = (K.take q).drop h
  rw [List.take_of_length_le (by omega)]
theorem row2 {RT R' : Rows} {x y : Option (Nat × Obj)} {i j : Nat} (hR : ∀ k, k ≠ i → k ≠ j → R' k = RT k) (hi : R' i = x) (hj : R' j = y) : R' = upd (upd RT i x) j y := by
  funext k
  by_cases h6 : k = j
  · subst h6; rw [upd_same]; exact hj
  · rw [upd_ne _ _ h6]
    by_cases h5 : k = i
    · subst h5; rw [upd_same]; exact hi
    · rw [upd_ne _ _ h5]; exact hR k h5 h6
theorem its4 {DT D' : Its} {x y z u : Option (Option Addr × Nat × List Int)} {i j k l : Nat} (hD : ∀ p, p ≠ i → p ≠ j → p ≠ k → p ≠ l → D' p = DT p) (hi : D' i = x) (hj : D' j = y) (hk : D' k = z) (hl : D' l = u) : D' = upd (upd (upd (upd DT i x) j y) k z) l u := by
  funext p
  by_cases h4 : p = l
  · subst h4; rw [upd_same]; exact hl
  rw [upd_ne _ _ h4]
  by_cases h3 : p = k
  · subst h3; rw [upd_same]; exact hk
  rw [upd_ne _ _ h3]
  by_cases h2 : p = j
  · subst h2; rw [upd_same]; exact hj
  rw [upd_ne _ _ h2]
  by_cases h1 : p = i
  · subst h1; rw [upd_same]; exact hi
  rw [upd_ne _ _ h1]
  exact hD p h1 h2 h3 h4
set_option maxRecDepth 100000 in
set_option maxHeartbeats 12800000 in
theorem parts_walk (L : Bool) (ak : Option Addr) (ck : Nat) (Ks : List Int) (w : World) (hrk : ReadsInt w .u64 ak Ks.length Ks) (hlk : Ks.length * 8 ≤ 140737488351232) (hwk : ∀ x ∈ Ks, (Lit.int .u64 x).wf = true) (hck : Ks.length ≤ ck)
    (av : Option Addr) (cv : Nat) (Vs : List Int) (hrv : ReadsInt w .u64 av Vs.length Vs) (hlv : Vs.length * 8 ≤ 140737488351232) (hwv : ∀ x ∈ Vs, (Lit.int .u64 x).wf = true) (hcv : Vs.length ≤ cv)
    (L2 : Bool) (ak2 : Option Addr) (ck2 : Nat) (K2 : List Int) (hrk2 : ReadsInt w .u64 ak2 K2.length K2) (hlk2 : K2.length * 8 ≤ 140737488351232) (hwk2 : ∀ x ∈ K2, (Lit.int .u64 x).wf = true) (hck2 : K2.length ≤ ck2)
    (av2 : Option Addr) (cv2 : Nat) (V2 : List Int) (hrv2 : ReadsInt w .u64 av2 V2.length V2) (hlv2 : V2.length * 8 ≤ 140737488351232) (hwv2 : ∀ x ∈ V2, (Lit.int .u64 x).wf = true) (hcv2 : V2.length ≤ cv2) :
    Calls Try.prog 4 #[.agg #[.bool L, .slice ak Ks.length ck, .slice av Vs.length cv], .agg #[.bool L2, .slice ak2 K2.length ck2, .slice av2 V2.length cv2]] w fun e w' => e = .returned (.bool true) ∧ Below w.heap.size w w' := by
  clear hwk hwv hck hcv hwk2 hwv2 hck2 hcv2
  obtain ⟨nk, hnk⟩ : ∃ n, Ks.length = n := ⟨_, rfl⟩
  obtain ⟨nv, hnv⟩ : ∃ n, Vs.length = n := ⟨_, rfl⟩
  obtain ⟨nk2, hnk2⟩ : ∃ n, K2.length = n := ⟨_, rfl⟩
  obtain ⟨nv2, hnv2⟩ : ∃ n, V2.length = n := ⟨_, rfl⟩
  rw [hnk] at hrk hlk ⊢
  rw [hnv] at hrv hlv ⊢
  rw [hnk2] at hrk2 hlk2 ⊢
  rw [hnv2] at hrv2 hlv2 ⊢
  obtain ⟨w1, hw1, b1, f1, s1⟩ := made w #[.bool L, .slice ak nk ck, .slice av nv cv] 24
  obtain ⟨w2, hw2, b2, f2, s2⟩ := made w1 #[.bool L2, .slice ak2 nk2 ck2, .slice av2 nv2 cv2] 24
  have H0 := Lib.hid (((Hold.start w).box 2 b1 f1 (Nat.le_refl _)).box 3 b2 f2 (Nat.le_refl _))
  have SZ := Lib.hid (show w1.heap.size = w.heap.size + 1 from s1)
  have RN := Lib.hid (And.intro hrk hrv)
  have RM := Lib.hid (And.intro hrk2 hrv2)
  have HL := Lib.hid (And.intro (And.intro hlk hlv) (And.intro hlk2 hlv2))
  clear b1 f1 s1 b2 f2 s2 hrk hrv hrk2 hrv2 hlk hlv hlk2 hlv2
  go_enter Try.func4, Try.ntmps4
  go_wp2_with fail
  clear hw1 hw2
  refine (awake_any _).mono ?_; rintro e w3 ⟨rfl, hb⟩
  have H1 := Lib.hid (H0.out.below hb)
  clear hb H0
  have P2_2 := Lib.hid (H1.out.row 2 _ _ rfl).1
  go_wp2_with (first | ((with_reducible refine wpList_load_row rfl 24 (.tmp 2) rfl w.heap.size ?_ 24 _ _ _ P2_2.out Try.underlying24 ?_ (size3 _ _ _) ?_); rfl; rfl))
  clear P2_2
  by_cases h1 : 3000 < nk ∨ 3000 < nv
  · have d1 : decide (3000 < nk ∨ 3000 < nv) = true := decide_eq_true h1
    refine (long_any L ak av nk ck nv cv _).mono ?_; rintro e w4 ⟨rfl, hb⟩
    rw [d1]
    have H3 := Lib.hid (H1.out.below hb)
    clear hb h1 d1
    go_wp2_with fail
    go_ret
    exact ⟨rfl, H3.out.bel⟩
  · have d1 : decide (3000 < nk ∨ 3000 < nv) = false := decide_eq_false h1
    refine (long_any L ak av nk ck nv cv _).mono ?_; rintro e w4 ⟨rfl, hb⟩
    rw [d1]
    have H4 := Lib.hid (H1.out.below hb)
    have HN1 := Lib.hid h1
    clear hb h1 d1
    have u3_5_0 : w4.cell? ⟨w1.heap.size, 0, none⟩ = some (.bool L2) := cell_row (H4.out.row 3 _ _ rfl).1 rfl
    have u3_5_1 : w4.cell? ⟨w1.heap.size, 1, none⟩ = some (.slice ak2 nk2 ck2) := cell_row (H4.out.row 3 _ _ rfl).1 rfl
    have u3_5_2 : w4.cell? ⟨w1.heap.size, 2, none⟩ = some (.slice av2 nv2 cv2) := cell_row (H4.out.row 3 _ _ rfl).1 rfl
    go_wp2_with fail
    clear u3_5_0 u3_5_1 u3_5_2
    by_cases h1 : 3000 < nk2 ∨ 3000 < nv2
    · have d1 : decide (3000 < nk2 ∨ 3000 < nv2) = true := decide_eq_true h1
      refine (long_any L2 ak2 av2 nk2 ck2 nv2 cv2 _).mono ?_; rintro e w5 ⟨rfl, hb⟩
      rw [d1]
      have H6 := Lib.hid (H4.out.below hb)
      clear hb h1 d1
      go_wp2_with fail
      go_ret
      exact ⟨rfl, H6.out.bel⟩
    · have d1 : decide (3000 < nk2 ∨ 3000 < nv2) = false := decide_eq_false h1
      refine (long_any L2 ak2 av2 nk2 ck2 nv2 cv2 _).mono ?_; rintro e w5 ⟨rfl, hb⟩
      rw [d1]
      have H7 := Lib.hid (H4.out.below hb)
      have HN2 := Lib.hid h1
      clear hb h1 d1
      go_wp2_with fail
      obtain ⟨m, hm⟩ : ∃ m, min nk nv = m := ⟨_, rfl⟩
      obtain ⟨m2, hm2⟩ : ∃ m, min nk2 nv2 = m := ⟨_, rfl⟩
      obtain ⟨q, hq⟩ : ∃ q, m + m2 = q := ⟨_, rfl⟩
      obtain ⟨h1, hh1⟩ : ∃ h, (m + 1) / 2 = h := ⟨_, rfl⟩
      obtain ⟨d1, hd1⟩ : ∃ d, m - h1 = d := ⟨_, rfl⟩
      obtain ⟨h2, hh2⟩ : ∃ h, (q + 1) / 2 = h := ⟨_, rfl⟩
      obtain ⟨d2, hd2⟩ : ∃ d, q - h2 = d := ⟨_, rfl⟩
      have HM := Lib.hid (And.intro hm (And.intro hm2 hq))
      have HD := Lib.hid (And.intro (And.intro hh1 hd1) (And.intro hh2 hd2))
      have HB := Lib.hid (show q ≤ 6000 ∧ m ≤ 3000 ∧ m2 ≤ 3000 ∧ h1 ≤ m ∧ h2 ≤ q by have h3 := HN1.out; have h4 := HN2.out; omega)
      clear hm hm2 hq hh1 hd1 hh2 hd2
      refine start_ (n := 8) (S := fun w' => w'.cell? ⟨w.heap.size, 0, none⟩ = some (.bool L) ∧ w'.cell? ⟨w.heap.size, 1, none⟩ = some (.slice ak nk ck) ∧ w'.cell? ⟨w.heap.size, 2, none⟩ = some (.slice av nv cv) ∧ w'.cell? ⟨w1.heap.size, 0, none⟩ = some (.bool L2) ∧ w'.cell? ⟨w1.heap.size, 1, none⟩ = some (.slice ak2 nk2 ck2) ∧ w'.cell? ⟨w1.heap.size, 2, none⟩ = some (.slice av2 nv2 cv2)) (ds := [6, 7]) #[false, false, false, false, false, false, false, false] (by kernel_rfl) rfl rfl ⟨cell_row (H7.out.row 2 _ _ rfl).1 rfl, cell_row (H7.out.row 2 _ _ rfl).1 rfl, cell_row (H7.out.row 2 _ _ rfl).1 rfl, cell_row (H7.out.row 3 _ _ rfl).1 rfl, cell_row (H7.out.row 3 _ _ rfl).1 rfl, cell_row (H7.out.row 3 _ _ rfl).1 rfl⟩ (fun hHeld => ?_)
      refine take_ (i := 0) (N := some 26) (v := ?_) (a' := ?_) #[true, false, false, false, false, false, false, false] rfl rfl (by kernel_rfl) (fun _ _ _ h => h) (Or.inl ⟨by rfl, ?_⟩) hHeld ?_ ?_
      rotate_left
      · rintro w' ⟨s0, s1, s2, s3, s4, s5⟩
        go_simp
        with_reducible rfl
      rotate_left
      · simp only [Act.put, List.setIfInBounds_toArray, List.set_cons_zero, List.set_cons_succ, i64_w, i32_w]
        rfl
      refine take_ (i := 2) (N := some 28) (v := ?_) (a' := ?_) #[true, false, true, false, false, false, false, false] rfl rfl (by kernel_rfl) (fun _ _ _ h => h) (Or.inl ⟨by rfl, ?_⟩) hHeld ?_ ?_
      rotate_left
      · rintro w' ⟨s0, s1, s2, s3, s4, s5⟩
        go_simp
        with_reducible rfl
      rotate_left
      · simp only [Act.put, List.setIfInBounds_toArray, List.set_cons_zero, List.set_cons_succ, i64_w, i32_w]
        rfl
      refine inv_ (fuel' := 2) #[true, true, true, true, true, true, false, false] [(1, 27, []), (3, 29, [1]), (4, 5, []), (5, 6, [])] (fun sel v W => ∃ (R' : Rows) (D' : Its), Hold w R' D' W ∧ (∀ k, k ≠ 5 → k ≠ 6 → R' k = (upd (upd (fun _ => none) 2 (some (w.heap.size, .cells #[.bool L, .slice ak nk ck, .slice av nv cv] 24))) 3 (some (w1.heap.size, .cells #[.bool L2, .slice ak2 nk2 ck2, .slice av2 nv2 cv2] 24)) : Rows) k) ∧ (∀ k, k ≠ 10 → k ≠ 11 → k ≠ 12 → k ≠ 13 → D' k = none) ∧ (sel 1 = true → SpN D' 10 11 L nk nv Ks Vs (v 1)) ∧ (sel 3 = true → SpN D' 12 13 L2 nk2 nv2 K2 V2 (v 3)) ∧ (sel 4 = true → SpA R' 5 (.cells #[.bool false, .slice none 0 0, .slice none 0 0] 24) (v 4)) ∧ (sel 5 = true → SpA R' 6 (.cells #[.bool false, .slice none 0 0, .slice none 0 0] 24) (v 5))) (by kernel_rfl) (fun _ _ _ _ _ => Iff.rfl) (fun sel v W ⟨R', D', hH, hR, hD, _⟩ => ⟨cell_row (hH.row 2 _ _ ((hR 2 (by decide) (by decide)).trans rfl)).1 rfl, cell_row (hH.row 2 _ _ ((hR 2 (by decide) (by decide)).trans rfl)).1 rfl, cell_row (hH.row 2 _ _ ((hR 2 (by decide) (by decide)).trans rfl)).1 rfl, cell_row (hH.row 3 _ _ ((hR 3 (by decide) (by decide)).trans rfl)).1 rfl, cell_row (hH.row 3 _ _ ((hR 3 (by decide) (by decide)).trans rfl)).1 rfl, cell_row (hH.row 3 _ _ ((hR 3 (by decide) (by decide)).trans rfl)).1 rfl⟩) (⟨_, _, H7.out.drew, fun _ _ _ => rfl, fun _ _ _ _ _ => rfl, fun h => (Bool.false_ne_true h).elim, fun h => (Bool.false_ne_true h).elim, fun h => (Bool.false_ne_true h).elim, fun h => (Bool.false_ne_true h).elim⟩) ?_ ?_ (by rfl)
      · refine steps_cons rfl ?_ (steps_cons rfl ?_ (steps_cons rfl ?_ (steps_cons rfl ?_ (steps_nil))))
        · intro sel v W hI hs hd
          obtain ⟨R', D', hH, hR, hD, e1, e3, e4, e5⟩ := hI
          intro a1 ha1 K hK
          simp (decide := true) only [foldA, if_true, if_false, ite_true, ite_false, Act.put, List.setIfInBounds_toArray, List.set_cons_zero, List.set_cons_succ] at ha1
          subst ha1
          refine goes_ Try.func20 (by kernel_rfl) rfl #[.agg #[.bool L, .slice ak nk ck, .slice av nv cv]] (by rfl) rfl rfl (by simp only [List.map_toArray, List.map_cons, List.map_nil]; rfl) ?_
          with_reducible refine (own_at L Ks Vs ak av nk ck nv cv _ (RN.out.1.below hH.bel) (RN.out.2.below hH.bel) HL.out.1.1 HL.out.1.2).mono ?_
          rintro e W2 ⟨A0, c0, B0, d0, rfl, ho, hb⟩
          refine ⟨_, rfl, ?_⟩
          exact hK.out _ _ ⟨R', _, hH.node 10 11 hb ho, hR, fun k h1 h2 h3 h4 => (upd_ne _ _ h2).trans ((upd_ne _ _ h1).trans (hD k h1 h2 h3 h4)), newS (SpN.new (by decide) ho), keepS (by decide) e3 (fun h => SpN.up h (by decide) (by decide) (by decide) (by decide)), keepS (by decide) e4 id, keepS (by decide) e5 id⟩
        · intro sel v W hI hs hd
          simp only [List.all_cons, List.all_nil, Bool.and_true, Bool.and_eq_true] at hd
          obtain ⟨R', D', hH, hR, hD, e1, e3, e4, e5⟩ := hI
          intro a1 ha1 K hK
          simp (decide := true) only [foldA, if_true, if_false, ite_true, ite_false, Act.put, List.setIfInBounds_toArray, List.set_cons_zero, List.set_cons_succ] at ha1
          subst ha1
          refine goes_ Try.func20 (by kernel_rfl) rfl #[.agg #[.bool L2, .slice ak2 nk2 ck2, .slice av2 nv2 cv2]] (by rfl) rfl rfl (by simp only [List.map_toArray, List.map_cons, List.map_nil]; rfl) ?_
          with_reducible refine (own_at L2 K2 V2 ak2 av2 nk2 ck2 nv2 cv2 _ (RM.out.1.below hH.bel) (RM.out.2.below hH.bel) HL.out.2.1 HL.out.2.2).mono ?_
          rintro e W2 ⟨A0, c0, B0, d0, rfl, ho, hb⟩
          refine ⟨_, rfl, ?_⟩
          exact hK.out _ _ ⟨R', _, hH.node 12 13 hb ho, hR, fun k h1 h2 h3 h4 => (upd_ne _ _ h4).trans ((upd_ne _ _ h3).trans (hD k h1 h2 h3 h4)), keepS (by decide) e1 (fun h => SpN.up h (by decide) (by decide) (by decide) (by decide)), newS (SpN.new (by decide) ho), keepS (by decide) e4 id, keepS (by decide) e5 id⟩
        · intro sel v W hI hs hd
          obtain ⟨R', D', hH, hR, hD, e1, e3, e4, e5⟩ := hI
          intro a1 ha1 K hK
          simp (decide := true) only [foldA, if_true, if_false, ite_true, ite_false, Act.put, List.setIfInBounds_toArray, List.set_cons_zero, List.set_cons_succ] at ha1
          subst ha1
          refine value_ (w1 := ?_) (v := ?_) (by rfl) rfl ?_ ?_
          rotate_left 2
          · go_simp
            constructor
            · rfl
            · rfl
          exact hK.out _ _ ⟨_, D', hH.box 5 ((Below.refl _ _).alloc (Nat.le_refl _) _) (heap_alloc_new _ _) (Nat.le_refl _), fun k h1 h2 => (upd_ne _ _ h1).trans (hR k h1 h2), hD, keepS (by decide) e1 id, keepS (by decide) e3 id, newS ⟨_, rfl, upd_same _ _ _⟩, keepS (by decide) e5 (fun h => SpA.up h (by decide))⟩
        · intro sel v W hI hs hd
          obtain ⟨R', D', hH, hR, hD, e1, e3, e4, e5⟩ := hI
          intro a1 ha1 K hK
          simp (decide := true) only [foldA, if_true, if_false, ite_true, ite_false, Act.put, List.setIfInBounds_toArray, List.set_cons_zero, List.set_cons_succ] at ha1
          subst ha1
          refine value_ (w1 := ?_) (v := ?_) (by rfl) rfl ?_ ?_
          rotate_left 2
          · go_simp
            constructor
            · rfl
            · rfl
          exact hK.out _ _ ⟨_, D', hH.box 6 ((Below.refl _ _).alloc (Nat.le_refl _) _) (heap_alloc_new _ _) (Nat.le_refl _), fun k h1 h2 => (upd_ne _ _ h2).trans (hR k h1 h2), hD, keepS (by decide) e1 id, keepS (by decide) e3 id, keepS (by decide) e4 (fun h => SpA.up h (by decide)), newS ⟨_, rfl, upd_same _ _ _⟩⟩
      intro sel v W hsel hI
      obtain ⟨R', D', hH, hR, hD, e1, e3, e4, e5⟩ := hI
      obtain ⟨A5, c5, B5, e5x, q1, t10, t11, CA⟩ := e1 (hsel (1, 27, []) (by simp))
      obtain ⟨A6, c6, B6, e6x, q3, t12, t13, CB⟩ := e3 (hsel (3, 29, [1]) (by simp))
      obtain ⟨g5, q4, r5⟩ := e4 (hsel (4, 5, []) (by simp))
      obtain ⟨g6, q5, r6⟩ := e5 (hsel (5, 6, []) (by simp))
      have eR := row2 (RT := upd (upd (fun _ => none) 2 (some (w.heap.size, .cells #[.bool L, .slice ak nk ck, .slice av nv cv] 24))) 3 (some (w1.heap.size, .cells #[.bool L2, .slice ak2 nk2 ck2, .slice av2 nv2 cv2] 24))) hR r5 r6
      have eD := its4 hD t10 t11 t12 t13
      subst eR
      subst eD
      have CA' := Lib.hid CA
      have CB' := Lib.hid CB
      have HR0 := Lib.hid hH
      clear hH hR hD e1 e3 e4 e5 t10 t11 t12 t13 r5 r6 hsel CA CB
      refine norm_ (a' := ?_) ?_ ?_
      rotate_left
      · simp (decide := true) only [foldA, if_true, if_false, ite_true, ite_false, Act.put, List.setIfInBounds_toArray, List.set_cons_zero, List.set_cons_succ, q1, q3, q4, q5]
        rfl
      refine last_ (i := 6) (N := none) #[true, true, true, true, true, true, true, false] rfl rfl (by kernel_rfl) (by decide) (fun K hK => ?_)
      refine skip_ (w1 := W.setRow g5 #[.bool L, .slice A5 nk c5, .slice B5 nv e5x]) (by rfl) rfl (exec_store_row 24 _ _ rfl g5 #[.bool L, .slice A5 nk c5, .slice B5 nv e5x] (by rfl) (by rfl) 24 _ (HR0.out.row 5 _ _ rfl).1 (size3 _ _ _) rfl (one3 _ _ _ _ _ _ _)) ?_
      have HR1 := Lib.hid (HR0.out.setRow 5 (cs' := #[.bool L, .slice A5 nk c5, .slice B5 nv e5x]) rfl)
      obtain ⟨W1, hy6⟩ : ∃ y, W.setRow g5 #[.bool L, .slice A5 nk c5, .slice B5 nv e5x] = y := ⟨_, rfl⟩
      rw [hy6] at HR1
      rw [hy6]
      clear hy6
      refine hK.out _ _ ?_
      clear hK K
      refine last_ (i := 7) (N := none) #[true, true, true, true, true, true, true, true] rfl rfl (by kernel_rfl) (by decide) (fun K hK => ?_)
      refine skip_ (w1 := W1.setRow g6 #[.bool L2, .slice A6 nk2 c6, .slice B6 nv2 e6x]) (by rfl) rfl (exec_store_row 24 _ _ rfl g6 #[.bool L2, .slice A6 nk2 c6, .slice B6 nv2 e6x] (by rfl) (by rfl) 24 _ (HR1.out.row 6 _ _ rfl).1 (size3 _ _ _) rfl (one3 _ _ _ _ _ _ _)) ?_
      have HR2 := Lib.hid (HR1.out.setRow 6 (cs' := #[.bool L2, .slice A6 nk2 c6, .slice B6 nv2 e6x]) rfl)
      obtain ⟨W2, hy7⟩ : ∃ y, W1.setRow g6 #[.bool L2, .slice A6 nk2 c6, .slice B6 nv2 e6x] = y := ⟨_, rfl⟩
      rw [hy7] at HR2
      rw [hy7]
      clear hy7
      refine hK.out _ _ ?_
      clear hK K
      refine done_ (by kernel_rfl) ?_
      clear hHeld H7 HR0 HR1
      have P5_8 := Lib.hid (HR2.out.row 5 _ _ rfl).1
      go_wp2_with (first | ((with_reducible refine wpList_load_row rfl 24 (.tmp 5) rfl g5 ?_ 24 _ _ _ P5_8.out Try.underlying24 ?_ (size3 _ _ _) ?_); rfl; rfl))
      clear P5_8
      refine (split_cap L Ks Vs A5 B5 nk c5 nv e5x m h1 d1 _ (HR2.out.rd 10 rfl) (HR2.out.rd 11 rfl) HM.out.1 HD.out.1.1 HD.out.1.2 CA'.out.1 ⟨CA'.out.2.1, CA'.out.2.2⟩ (by have := HB.out; omega)).mono ?_; rintro e w6 ⟨A7, B7, A8, c8, B8, e8, rfl, o1, o2, k1, k2, k3, k4, hb⟩
      have H9 := Lib.hid (HR2.out.nodes 14 15 16 17 (by decide) (by decide) (by decide) (by decide) (by decide) hb o1 o2 k1 k2 k3 k4)
      have N7 := Lib.hid (And.intro (fun h => (o1.nk h).1) (And.intro o1.lk o1.lv))
      clear hb o1 o2 k1 k2 k3 k4 HR2
      obtain ⟨y10a, hy10a⟩ : ∃ x, w6.alloc (.cells #[.bool false, .slice none 0 0, .slice none 0 0] 24) = x := ⟨_, rfl⟩
      obtain ⟨y10b, hy10b⟩ : ∃ x, y10a.alloc (.cells #[.bool false, .slice none 0 0, .slice none 0 0] 24) = x := ⟨_, rfl⟩
      obtain ⟨y10c, hy10c⟩ : ∃ x, y10b.setRow w6.heap.size #[.bool L, .slice A7 h1 h1, .slice B7 h1 h1] = x := ⟨_, rfl⟩
      obtain ⟨y10d, hy10d⟩ : ∃ x, y10c.setRow y10a.heap.size #[.bool L, .slice A8 d1 c8, .slice B8 d1 e8] = x := ⟨_, rfl⟩
      have X10 := Lib.hid (two_rows hy10a hy10b hy10c hy10d)
      have hqy10a : y10a.heap.size = w6.heap.size + 1 := by rw [← hy10a]; exact World.size_alloc _ _
      have HQy10a := Lib.hid hqy10a
      clear hqy10a
      have H11 := Lib.hid (H9.out.two 7 8 (by decide) hy10a hy10b hy10c hy10d)
      have P5_12 := Lib.hid (H11.out.row 5 _ _ rfl).1
      have P6_12 := Lib.hid (H11.out.row 6 _ _ rfl).1
      go_wp2_with (first | ((with_reducible refine wpList_store_row rfl 24 (.tmp 7) (.tmp 33) rfl w6.heap.size #[.bool L, .slice A7 h1 h1, .slice B7 h1 h1] ?_ ?_ 24 _ X10.out.2.1 (size3 _ _ _) ?_ (one3 _ _ _ _ _ _ _) ?_); rfl; rfl; rfl; rw [hy10c]) | ((with_reducible refine wpList_store_row rfl 24 (.tmp 8) (.tmp 34) rfl y10a.heap.size #[.bool L, .slice A8 d1 c8, .slice B8 d1 e8] ?_ ?_ 24 _ X10.out.2.2.1 (size3 _ _ _) ?_ (one3 _ _ _ _ _ _ _) ?_); rfl; rfl; rfl; rw [hy10d]) | ((with_reducible refine wpList_load_row rfl 24 (.tmp 5) rfl g5 ?_ 24 _ _ _ P5_12.out Try.underlying24 ?_ (size3 _ _ _) ?_); rfl; rfl) | ((with_reducible refine wpList_load_row rfl 24 (.tmp 6) rfl g6 ?_ 24 _ _ _ P6_12.out Try.underlying24 ?_ (size3 _ _ _) ?_); rfl; rfl))
      clear hy10a hy10b hy10c hy10d X10 H9
      clear P5_12 P6_12
      refine (join_at L L2 Ks Vs K2 V2 A5 B5 A6 B6 nk c5 nv e5x nk2 c6 nv2 e6x m m2 q _ (H11.out.rd 10 rfl) (H11.out.rd 11 rfl) (H11.out.rd 12 rfl) (H11.out.rd 13 rfl) HM.out.1 HM.out.2.1 HM.out.2.2 CA'.out.1 ⟨CA'.out.2.1, CA'.out.2.2⟩ CB'.out.1 ⟨CB'.out.2.1, CB'.out.2.2⟩ (by have := HB.out; omega)).mono ?_; rintro e w7 ⟨A9, c9, B9, e9, rfl, o1, hb⟩
      have H13 := Lib.hid (H11.out.node 18 19 hb o1)
      clear hb o1 H11
      obtain ⟨y14a, hy14a⟩ : ∃ x, w7.alloc (.cells #[.bool false, .slice none 0 0, .slice none 0 0] 24) = x := ⟨_, rfl⟩
      obtain ⟨y14b, hy14b⟩ : ∃ x, y14a.setRow w7.heap.size #[.bool L, .slice A9 q c9, .slice B9 q e9] = x := ⟨_, rfl⟩
      have X14 := Lib.hid (one_row hy14a hy14b)
      have H15 := Lib.hid (H13.out.one 9 hy14a hy14b)
      have P5_16 := Lib.hid (H15.out.row 5 _ _ rfl).1
      have P6_16 := Lib.hid (H15.out.row 6 _ _ rfl).1
      go_wp2_with (first | ((with_reducible refine wpList_store_row rfl 24 (.tmp 9) (.tmp 37) rfl w7.heap.size #[.bool L, .slice A9 q c9, .slice B9 q e9] ?_ ?_ 24 _ X14.out.2.1 (size3 _ _ _) ?_ (one3 _ _ _ _ _ _ _) ?_); rfl; rfl; rfl; rw [hy14b]) | ((with_reducible refine wpList_load_row rfl 24 (.tmp 5) rfl g5 ?_ 24 _ _ _ P5_16.out Try.underlying24 ?_ (size3 _ _ _) ?_); rfl; rfl) | ((with_reducible refine wpList_load_row rfl 24 (.tmp 6) rfl g6 ?_ 24 _ _ _ P6_16.out Try.underlying24 ?_ (size3 _ _ _) ?_); rfl; rfl))
      clear hy14a hy14b X14 H13
      clear P5_16 P6_16
      refine (even_cap L L2 Ks Vs K2 V2 (Ks.take m ++ K2.take m2) (Vs.take m ++ V2.take m2) A5 B5 A6 B6 nk c5 nv e5x nk2 c6 nv2 e6x m m2 q h2 d2 _ (H15.out.rd 10 rfl) (H15.out.rd 11 rfl) (H15.out.rd 12 rfl) (H15.out.rd 13 rfl) HM.out.1 HM.out.2.1 HM.out.2.2 HD.out.2.1 HD.out.2.2 ⟨rfl, rfl⟩ CA'.out.1 ⟨CA'.out.2.1, CA'.out.2.2⟩ CB'.out.1 ⟨CB'.out.2.1, CB'.out.2.2⟩ (by have := HB.out; omega)).mono ?_; rintro e w8 ⟨A10, B10, A11, c11, B11, e11, rfl, o1, o2, k1, k2, k3, k4, hb⟩
      have H17 := Lib.hid (H15.out.nodes 20 21 22 23 (by decide) (by decide) (by decide) (by decide) (by decide) hb o1 o2 k1 k2 k3 k4)
      have N10 := Lib.hid (And.intro (fun h => (o1.nk h).1) (And.intro o1.lk o1.lv))
      clear hb o1 o2 k1 k2 k3 k4 H15
      obtain ⟨y18a, hy18a⟩ : ∃ x, w8.alloc (.cells #[.bool false, .slice none 0 0, .slice none 0 0] 24) = x := ⟨_, rfl⟩
      obtain ⟨y18b, hy18b⟩ : ∃ x, y18a.alloc (.cells #[.bool false, .slice none 0 0, .slice none 0 0] 24) = x := ⟨_, rfl⟩
      obtain ⟨y18c, hy18c⟩ : ∃ x, y18b.setRow w8.heap.size #[.bool L, .slice A10 h2 h2, .slice B10 h2 h2] = x := ⟨_, rfl⟩
      obtain ⟨y18d, hy18d⟩ : ∃ x, y18c.setRow y18a.heap.size #[.bool L, .slice A11 d2 c11, .slice B11 d2 e11] = x := ⟨_, rfl⟩
      have X18 := Lib.hid (two_rows hy18a hy18b hy18c hy18d)
      have hqy18a : y18a.heap.size = w8.heap.size + 1 := by rw [← hy18a]; exact World.size_alloc _ _
      have HQy18a := Lib.hid hqy18a
      clear hqy18a
      have H19 := Lib.hid (H17.out.two 10 11 (by decide) hy18a hy18b hy18c hy18d)
      have P2_20 := Lib.hid (H19.out.row 2 _ _ rfl).1
      go_wp2_with (first | ((with_reducible refine wpList_store_row rfl 24 (.tmp 10) (.tmp 42) rfl w8.heap.size #[.bool L, .slice A10 h2 h2, .slice B10 h2 h2] ?_ ?_ 24 _ X18.out.2.1 (size3 _ _ _) ?_ (one3 _ _ _ _ _ _ _) ?_); rfl; rfl; rfl; rw [hy18c]) | ((with_reducible refine wpList_store_row rfl 24 (.tmp 11) (.tmp 43) rfl y18a.heap.size #[.bool L, .slice A11 d2 c11, .slice B11 d2 e11] ?_ ?_ 24 _ X18.out.2.2.1 (size3 _ _ _) ?_ (one3 _ _ _ _ _ _ _) ?_); rfl; rfl; rfl; rw [hy18d]) | ((with_reducible refine wpList_load_row rfl 24 (.tmp 2) rfl w.heap.size ?_ 24 _ _ _ P2_20.out Try.underlying24 ?_ (size3 _ _ _) ?_); rfl; rfl))
      clear hy18a hy18b hy18c hy18d X18 H17
      clear P2_20
      refine (rsplit_at L Ks Vs ak av nk ck nv cv m h1 d1 _ (RN.out.1.below H19.out.bel) (RN.out.2.below H19.out.bel) HM.out.1 HD.out.1.1 HD.out.1.2 (by have := HB.out; omega)).mono ?_; rintro e w9 ⟨A12, c12, B12, e12, A13, c13, B13, e13, rfl, o1, o2, k1, k2, k3, k4, hb⟩
      have H21 := Lib.hid (H19.out.nodes 24 25 26 27 (by decide) (by decide) (by decide) (by decide) (by decide) hb o1 o2 k1 k2 k3 k4)
      clear hb o1 o2 k1 k2 k3 k4 H19
      obtain ⟨y22a, hy22a⟩ : ∃ x, w9.alloc (.cells #[.bool false, .slice none 0 0, .slice none 0 0] 24) = x := ⟨_, rfl⟩
      obtain ⟨y22b, hy22b⟩ : ∃ x, y22a.alloc (.cells #[.bool false, .slice none 0 0, .slice none 0 0] 24) = x := ⟨_, rfl⟩
      obtain ⟨y22c, hy22c⟩ : ∃ x, y22b.setRow w9.heap.size #[.bool L, .slice A12 h1 c12, .slice B12 h1 e12] = x := ⟨_, rfl⟩
      obtain ⟨y22d, hy22d⟩ : ∃ x, y22c.setRow y22a.heap.size #[.bool L, .slice A13 d1 c13, .slice B13 d1 e13] = x := ⟨_, rfl⟩
      have X22 := Lib.hid (two_rows hy22a hy22b hy22c hy22d)
      have hqy22a : y22a.heap.size = w9.heap.size + 1 := by rw [← hy22a]; exact World.size_alloc _ _
      have HQy22a := Lib.hid hqy22a
      clear hqy22a
      have H23 := Lib.hid (H21.out.two 12 13 (by decide) hy22a hy22b hy22c hy22d)
      have P2_24 := Lib.hid (H23.out.row 2 _ _ rfl).1
      have P3_24 := Lib.hid (H23.out.row 3 _ _ rfl).1
      go_wp2_with (first | ((with_reducible refine wpList_store_row rfl 24 (.tmp 12) (.tmp 47) rfl w9.heap.size #[.bool L, .slice A12 h1 c12, .slice B12 h1 e12] ?_ ?_ 24 _ X22.out.2.1 (size3 _ _ _) ?_ (one3 _ _ _ _ _ _ _) ?_); rfl; rfl; rfl; rw [hy22c]) | ((with_reducible refine wpList_store_row rfl 24 (.tmp 13) (.tmp 48) rfl y22a.heap.size #[.bool L, .slice A13 d1 c13, .slice B13 d1 e13] ?_ ?_ 24 _ X22.out.2.2.1 (size3 _ _ _) ?_ (one3 _ _ _ _ _ _ _) ?_); rfl; rfl; rfl; rw [hy22d]) | ((with_reducible refine wpList_load_row rfl 24 (.tmp 2) rfl w.heap.size ?_ 24 _ _ _ P2_24.out Try.underlying24 ?_ (size3 _ _ _) ?_); rfl; rfl) | ((with_reducible refine wpList_load_row rfl 24 (.tmp 3) rfl w1.heap.size ?_ 24 _ _ _ P3_24.out Try.underlying24 ?_ (size3 _ _ _) ?_); rfl; rfl))
      clear hy22a hy22b hy22c hy22d X22 H21
      clear P2_24 P3_24
      refine (rjoin_n1 L L2 Ks Vs K2 V2 ak av ak2 av2 nk ck nv cv nk2 ck2 nv2 cv2 m m2 q _ (RN.out.1.below H23.out.bel) (RN.out.2.below H23.out.bel) (RM.out.1.below H23.out.bel) (RM.out.2.below H23.out.bel) HM.out.1 HM.out.2.1 HM.out.2.2 (by have := HB.out; omega)).mono ?_; rintro e w10 ⟨A14, c14, B14, e14, rfl, o1, hb⟩
      have H25 := Lib.hid (H23.out.node 28 29 hb o1)
      have JL := Lib.hid (And.intro o1.k.1 o1.v.1)
      clear hb o1 H23
      obtain ⟨y26a, hy26a⟩ : ∃ x, w10.alloc (.cells #[.bool false, .slice none 0 0, .slice none 0 0] 24) = x := ⟨_, rfl⟩
      obtain ⟨y26b, hy26b⟩ : ∃ x, y26a.setRow w10.heap.size #[.bool L, .slice A14 q c14, .slice B14 q e14] = x := ⟨_, rfl⟩
      have X26 := Lib.hid (one_row hy26a hy26b)
      have H27 := Lib.hid (H25.out.one 14 hy26a hy26b)
      have P14_28 := Lib.hid (H27.out.row 14 _ _ rfl).1
      go_wp2_with (first | ((with_reducible refine wpList_store_row rfl 24 (.tmp 14) (.tmp 51) rfl w10.heap.size #[.bool L, .slice A14 q c14, .slice B14 q e14] ?_ ?_ 24 _ X26.out.2.1 (size3 _ _ _) ?_ (one3 _ _ _ _ _ _ _) ?_); rfl; rfl; rfl; rw [hy26b]) | ((with_reducible refine wpList_load_row rfl 24 (.tmp 14) rfl w10.heap.size ?_ 24 _ _ _ P14_28.out Try.underlying24 ?_ (size3 _ _ _) ?_); rfl; rfl))
      clear hy26a hy26b X26 H25
      clear P14_28
      refine (rsplit_at L (Ks.take m ++ K2.take m2) (Vs.take m ++ V2.take m2) A14 B14 q c14 q e14 q h2 d2 _ (H27.out.rd 28 rfl) (H27.out.rd 29 rfl) (Nat.min_self _) HD.out.2.1 HD.out.2.2 (by have := HB.out; omega)).mono ?_; rintro e w11 ⟨A15, c15, B15, e15, A16, c16, B16, e16, rfl, o1, o2, k1, k2, k3, k4, hb⟩
      have H29 := Lib.hid (H27.out.nodes 30 31 32 33 (by decide) (by decide) (by decide) (by decide) (by decide) hb o1 o2 k1 k2 k3 k4)
      clear hb o1 o2 k1 k2 k3 k4 H27
      obtain ⟨y30a, hy30a⟩ : ∃ x, w11.alloc (.cells #[.bool false, .slice none 0 0, .slice none 0 0] 24) = x := ⟨_, rfl⟩
      obtain ⟨y30b, hy30b⟩ : ∃ x, y30a.alloc (.cells #[.bool false, .slice none 0 0, .slice none 0 0] 24) = x := ⟨_, rfl⟩
      obtain ⟨y30c, hy30c⟩ : ∃ x, y30b.setRow w11.heap.size #[.bool L, .slice A15 h2 c15, .slice B15 h2 e15] = x := ⟨_, rfl⟩
      obtain ⟨y30d, hy30d⟩ : ∃ x, y30c.setRow y30a.heap.size #[.bool L, .slice A16 d2 c16, .slice B16 d2 e16] = x := ⟨_, rfl⟩
      have X30 := Lib.hid (two_rows hy30a hy30b hy30c hy30d)
      have hqy30a : y30a.heap.size = w11.heap.size + 1 := by rw [← hy30a]; exact World.size_alloc _ _
      have HQy30a := Lib.hid hqy30a
      clear hqy30a
      have H31 := Lib.hid (H29.out.two 15 16 (by decide) hy30a hy30b hy30c hy30d)
      have P7_32 := Lib.hid (H31.out.row 7 _ _ rfl).1
      have P12_32 := Lib.hid (H31.out.row 12 _ _ rfl).1
      go_wp2_with (first | ((with_reducible refine wpList_store_row rfl 24 (.tmp 15) (.tmp 55) rfl w11.heap.size #[.bool L, .slice A15 h2 c15, .slice B15 h2 e15] ?_ ?_ 24 _ X30.out.2.1 (size3 _ _ _) ?_ (one3 _ _ _ _ _ _ _) ?_); rfl; rfl; rfl; rw [hy30c]) | ((with_reducible refine wpList_store_row rfl 24 (.tmp 16) (.tmp 56) rfl y30a.heap.size #[.bool L, .slice A16 d2 c16, .slice B16 d2 e16] ?_ ?_ 24 _ X30.out.2.2.1 (size3 _ _ _) ?_ (one3 _ _ _ _ _ _ _) ?_); rfl; rfl; rfl; rw [hy30d]) | ((with_reducible refine wpList_load_row rfl 24 (.tmp 7) rfl w6.heap.size ?_ 24 _ _ _ P7_32.out Try.underlying24 ?_ (size3 _ _ _) ?_); rfl; rfl) | ((with_reducible refine wpList_load_row rfl 24 (.tmp 12) rfl w9.heap.size ?_ 24 _ _ _ P12_32.out Try.underlying24 ?_ (size3 _ _ _) ?_); rfl; rfl))
      clear hy30a hy30b hy30c hy30d X30 H29
      clear P7_32 P12_32
      refine (rsame_eq L _ _ _ _ A7 B7 A12 B12 h1 h1 h1 h1 h1 c12 h1 e12 _ (H31.out.rd 14 rfl) (H31.out.rd 15 rfl) (H31.out.rd 24 rfl) (H31.out.rd 25 rfl) (cut_take HB.out.2.2.2.1) (cut_take HB.out.2.2.2.1)).mono ?_; rintro e v20 ⟨rfl, hb⟩
      have H33 := Lib.hid (H31.out.below hb)
      clear hb H31
      have u8_34_0 : v20.cell? ⟨y10a.heap.size, 0, none⟩ = some (.bool L) := cell_row (H33.out.row 8 _ _ rfl).1 rfl
      have u8_34_1 : v20.cell? ⟨y10a.heap.size, 1, none⟩ = some (.slice A8 d1 c8) := cell_row (H33.out.row 8 _ _ rfl).1 rfl
      have u8_34_2 : v20.cell? ⟨y10a.heap.size, 2, none⟩ = some (.slice B8 d1 e8) := cell_row (H33.out.row 8 _ _ rfl).1 rfl
      have u13_35_0 : v20.cell? ⟨y22a.heap.size, 0, none⟩ = some (.bool L) := cell_row (H33.out.row 13 _ _ rfl).1 rfl
      have u13_35_1 : v20.cell? ⟨y22a.heap.size, 1, none⟩ = some (.slice A13 d1 c13) := cell_row (H33.out.row 13 _ _ rfl).1 rfl
      have u13_35_2 : v20.cell? ⟨y22a.heap.size, 2, none⟩ = some (.slice B13 d1 e13) := cell_row (H33.out.row 13 _ _ rfl).1 rfl
      go_wp2_with fail
      clear u8_34_0 u8_34_1 u8_34_2 u13_35_0 u13_35_1 u13_35_2
      refine (rsame_eq L _ _ _ _ A8 B8 A13 B13 d1 c8 d1 e8 d1 c13 d1 e13 _ (H33.out.rd 16 rfl) (H33.out.rd 17 rfl) (H33.out.rd 26 rfl) (H33.out.rd 27 rfl) rfl rfl).mono ?_; rintro e v21 ⟨rfl, hb⟩
      have H36 := Lib.hid (H33.out.below hb)
      clear hb H33
      have u9_37_0 : v21.cell? ⟨w7.heap.size, 0, none⟩ = some (.bool L) := cell_row (H36.out.row 9 _ _ rfl).1 rfl
      have u9_37_1 : v21.cell? ⟨w7.heap.size, 1, none⟩ = some (.slice A9 q c9) := cell_row (H36.out.row 9 _ _ rfl).1 rfl
      have u9_37_2 : v21.cell? ⟨w7.heap.size, 2, none⟩ = some (.slice B9 q e9) := cell_row (H36.out.row 9 _ _ rfl).1 rfl
      have u14_38_0 : v21.cell? ⟨w10.heap.size, 0, none⟩ = some (.bool L) := cell_row (H36.out.row 14 _ _ rfl).1 rfl
      have u14_38_1 : v21.cell? ⟨w10.heap.size, 1, none⟩ = some (.slice A14 q c14) := cell_row (H36.out.row 14 _ _ rfl).1 rfl
      have u14_38_2 : v21.cell? ⟨w10.heap.size, 2, none⟩ = some (.slice B14 q e14) := cell_row (H36.out.row 14 _ _ rfl).1 rfl
      go_wp2_with fail
      clear u9_37_0 u9_37_1 u9_37_2 u14_38_0 u14_38_1 u14_38_2
      refine (rsame_eq L _ _ _ _ A9 B9 A14 B14 q c9 q e9 q c14 q e14 _ (H36.out.rd 18 rfl) (H36.out.rd 19 rfl) (H36.out.rd 28 rfl) (H36.out.rd 29 rfl) rfl rfl).mono ?_; rintro e v22 ⟨rfl, hb⟩
      have H39 := Lib.hid (H36.out.below hb)
      clear hb H36
      have u10_40_0 : v22.cell? ⟨w8.heap.size, 0, none⟩ = some (.bool L) := cell_row (H39.out.row 10 _ _ rfl).1 rfl
      have u10_40_1 : v22.cell? ⟨w8.heap.size, 1, none⟩ = some (.slice A10 h2 h2) := cell_row (H39.out.row 10 _ _ rfl).1 rfl
      have u10_40_2 : v22.cell? ⟨w8.heap.size, 2, none⟩ = some (.slice B10 h2 h2) := cell_row (H39.out.row 10 _ _ rfl).1 rfl
      have u15_41_0 : v22.cell? ⟨w11.heap.size, 0, none⟩ = some (.bool L) := cell_row (H39.out.row 15 _ _ rfl).1 rfl
      have u15_41_1 : v22.cell? ⟨w11.heap.size, 1, none⟩ = some (.slice A15 h2 c15) := cell_row (H39.out.row 15 _ _ rfl).1 rfl
      have u15_41_2 : v22.cell? ⟨w11.heap.size, 2, none⟩ = some (.slice B15 h2 e15) := cell_row (H39.out.row 15 _ _ rfl).1 rfl
      go_wp2_with fail
      clear u10_40_0 u10_40_1 u10_40_2 u15_41_0 u15_41_1 u15_41_2
      refine (rsame_eq L _ _ _ _ A10 B10 A15 B15 h2 h2 h2 h2 h2 c15 h2 e15 _ (H39.out.rd 20 rfl) (H39.out.rd 21 rfl) (H39.out.rd 30 rfl) (H39.out.rd 31 rfl) rfl rfl).mono ?_; rintro e v23 ⟨rfl, hb⟩
      have H42 := Lib.hid (H39.out.below hb)
      clear hb H39
      have u11_43_0 : v23.cell? ⟨y18a.heap.size, 0, none⟩ = some (.bool L) := cell_row (H42.out.row 11 _ _ rfl).1 rfl
      have u11_43_1 : v23.cell? ⟨y18a.heap.size, 1, none⟩ = some (.slice A11 d2 c11) := cell_row (H42.out.row 11 _ _ rfl).1 rfl
      have u11_43_2 : v23.cell? ⟨y18a.heap.size, 2, none⟩ = some (.slice B11 d2 e11) := cell_row (H42.out.row 11 _ _ rfl).1 rfl
      have u16_44_0 : v23.cell? ⟨y30a.heap.size, 0, none⟩ = some (.bool L) := cell_row (H42.out.row 16 _ _ rfl).1 rfl
      have u16_44_1 : v23.cell? ⟨y30a.heap.size, 1, none⟩ = some (.slice A16 d2 c16) := cell_row (H42.out.row 16 _ _ rfl).1 rfl
      have u16_44_2 : v23.cell? ⟨y30a.heap.size, 2, none⟩ = some (.slice B16 d2 e16) := cell_row (H42.out.row 16 _ _ rfl).1 rfl
      go_wp2_with fail
      clear u11_43_0 u11_43_1 u11_43_2 u16_44_0 u16_44_1 u16_44_2
      refine (rsame_eq L _ _ _ _ A11 B11 A16 B16 d2 c11 d2 e11 d2 c16 d2 e16 _ (H42.out.rd 22 rfl) (H42.out.rd 23 rfl) (H42.out.rd 32 rfl) (H42.out.rd 33 rfl) (cut_all JL.out.1) (cut_all JL.out.2)).mono ?_; rintro e v24 ⟨rfl, hb⟩
      have H45 := Lib.hid (H42.out.below hb)
      clear hb H42
      go_wp2_with fail
      obtain ⟨RTa, DTa, HTa, ra_2, ra_3, ra_5, ra_6, ra_7, ra_8, ra_9, ra_10, ra_11, ra_13, ra_16, ra_BX, ta_10, ta_11, ta_12, ta_13, ta_14, ta_15, ta_16, ta_17, ta_18, ta_19, ta_20, ta_21, ta_22, ta_23, ta_26, ta_27, ta_32, ta_33⟩ : ∃ (RTa : Rows) (DTa : Its), Hold w RTa DTa v24 ∧ RTa 2 = some (w.heap.size, .cells #[.bool L, .slice ak nk ck, .slice av nv cv] 24) ∧ RTa 3 = some (w1.heap.size, .cells #[.bool L2, .slice ak2 nk2 ck2, .slice av2 nv2 cv2] 24) ∧ RTa 5 = some (g5, .cells #[.bool L, .slice A5 nk c5, .slice B5 nv e5x] 24) ∧ RTa 6 = some (g6, .cells #[.bool L2, .slice A6 nk2 c6, .slice B6 nv2 e6x] 24) ∧ RTa 7 = some (w6.heap.size, .cells #[.bool L, .slice A7 h1 h1, .slice B7 h1 h1] 24) ∧ RTa 8 = some (y10a.heap.size, .cells #[.bool L, .slice A8 d1 c8, .slice B8 d1 e8] 24) ∧ RTa 9 = some (w7.heap.size, .cells #[.bool L, .slice A9 q c9, .slice B9 q e9] 24) ∧ RTa 10 = some (w8.heap.size, .cells #[.bool L, .slice A10 h2 h2, .slice B10 h2 h2] 24) ∧ RTa 11 = some (y18a.heap.size, .cells #[.bool L, .slice A11 d2 c11, .slice B11 d2 e11] 24) ∧ RTa 13 = some (y22a.heap.size, .cells #[.bool L, .slice A13 d1 c13, .slice B13 d1 e13] 24) ∧ RTa 16 = some (y30a.heap.size, .cells #[.bool L, .slice A16 d2 c16, .slice B16 d2 e16] 24) ∧ RTa BX = none ∧ DTa 10 = some (A5, nk, Ks) ∧ DTa 11 = some (B5, nv, Vs) ∧ DTa 12 = some (A6, nk2, K2) ∧ DTa 13 = some (B6, nv2, V2) ∧ DTa 14 = some (A7, h1, ((Ks.take m).take h1)) ∧ DTa 15 = some (B7, h1, ((Vs.take m).take h1)) ∧ DTa 16 = some (A8, d1, ((Ks.take m).drop h1)) ∧ DTa 17 = some (B8, d1, ((Vs.take m).drop h1)) ∧ DTa 18 = some (A9, q, (Ks.take m ++ K2.take m2)) ∧ DTa 19 = some (B9, q, (Vs.take m ++ V2.take m2)) ∧ DTa 20 = some (A10, h2, ((Ks.take m ++ K2.take m2).take h2)) ∧ DTa 21 = some (B10, h2, ((Vs.take m ++ V2.take m2).take h2)) ∧ DTa 22 = some (A11, d2, ((Ks.take m ++ K2.take m2).drop h2)) ∧ DTa 23 = some (B11, d2, ((Vs.take m ++ V2.take m2).drop h2)) ∧ DTa 26 = some (A13, d1, (cut Ks h1 m)) ∧ DTa 27 = some (B13, d1, (cut Vs h1 m)) ∧ DTa 32 = some (A16, d2, (cut (Ks.take m ++ K2.take m2) h2 q)) ∧ DTa 33 = some (B16, d2, (cut (Vs.take m ++ V2.take m2) h2 q)) := ⟨_, _, H45.out, rfl, rfl, rfl, rfl, rfl, rfl, rfl, rfl, rfl, rfl, rfl, rfl, rfl, rfl, rfl, rfl, rfl, rfl, rfl, rfl, rfl, rfl, rfl, rfl, rfl, rfl, rfl, rfl, rfl, rfl⟩
      have HTa' := Lib.hid HTa
      have ra_2' := Lib.hid ra_2
      have ra_3' := Lib.hid ra_3
      have ra_5' := Lib.hid ra_5
      have ra_6' := Lib.hid ra_6
      have ra_7' := Lib.hid ra_7
      have ra_8' := Lib.hid ra_8
      have ra_9' := Lib.hid ra_9
      have ra_10' := Lib.hid ra_10
      have ra_11' := Lib.hid ra_11
      have ra_13' := Lib.hid ra_13
      have ra_16' := Lib.hid ra_16
      have ra_BX' := Lib.hid ra_BX
      have ta_10' := Lib.hid ta_10
      have ta_11' := Lib.hid ta_11
      have ta_12' := Lib.hid ta_12
      have ta_13' := Lib.hid ta_13
      have ta_14' := Lib.hid ta_14
      have ta_15' := Lib.hid ta_15
      have ta_16' := Lib.hid ta_16
      have ta_17' := Lib.hid ta_17
      have ta_18' := Lib.hid ta_18
      have ta_19' := Lib.hid ta_19
      have ta_20' := Lib.hid ta_20
      have ta_21' := Lib.hid ta_21
      have ta_22' := Lib.hid ta_22
      have ta_23' := Lib.hid ta_23
      have ta_26' := Lib.hid ta_26
      have ta_27' := Lib.hid ta_27
      have ta_32' := Lib.hid ta_32
      have ta_33' := Lib.hid ta_33
      clear HTa ra_2 ra_3 ra_5 ra_6 ra_7 ra_8 ra_9 ra_10 ra_11 ra_13 ra_16 ra_BX ta_10 ta_11 ta_12 ta_13 ta_14 ta_15 ta_16 ta_17 ta_18 ta_19 ta_20 ta_21 ta_22 ta_23 ta_26 ta_27 ta_32 ta_33 H45
      refine start_ (n := 12) (S := fun w' => w'.cell? ⟨w6.heap.size, 1, none⟩ = some (.slice A7 h1 h1) ∧ w'.cell? ⟨w8.heap.size, 1, none⟩ = some (.slice A10 h2 h2)) (ds := [9, 11]) #[false, false, false, false, false, false, false, false, false, false, false, false] (by kernel_rfl) rfl rfl ⟨cell_row (HTa'.out.row 7 _ _ ra_7'.out).1 rfl, cell_row (HTa'.out.row 10 _ _ ra_10'.out).1 rfl⟩ (fun hHeld => ?_)
      refine pure_ (i := 0) (N := some 80) (v := ?_) (a' := ?_) #[true, false, false, false, false, false, false, false, false, false, false, false] rfl rfl (by kernel_rfl) (fun _ _ _ h => h) (Or.inl ⟨by rfl, ?_⟩) ?_ ?_
      rotate_left
      · intro w'
        go_simp
        with_reducible rfl
      rotate_left
      · simp only [Act.put, List.setIfInBounds_toArray, List.set_cons_zero, List.set_cons_succ, i64_w, i32_w]
        rfl
      refine pure_ (i := 4) (N := some 84) (v := ?_) (a' := ?_) #[true, false, false, false, true, false, false, false, false, false, false, false] rfl rfl (by kernel_rfl) (fun _ _ _ h => h) (Or.inl ⟨by rfl, ?_⟩) ?_ ?_
      rotate_left
      · intro w'
        go_simp
        with_reducible rfl
      rotate_left
      · simp only [Act.put, List.setIfInBounds_toArray, List.set_cons_zero, List.set_cons_succ, i64_w, i32_w]
        rfl
      refine take_ (i := 1) (N := some 81) (v := ?_) (a' := ?_) #[true, true, false, false, true, false, false, false, false, false, false, false] rfl rfl (by kernel_rfl) (fun _ _ _ h => h) (Or.inl ⟨by rfl, ?_⟩) hHeld ?_ ?_
      rotate_left
      · rintro w' ⟨s0, s1⟩
        go_simp
        with_reducible rfl
      rotate_left
      · simp only [Act.put, List.setIfInBounds_toArray, List.set_cons_zero, List.set_cons_succ, i64_w, i32_w]
        rfl
      refine take_ (i := 5) (N := some 85) (v := ?_) (a' := ?_) #[true, true, false, false, true, true, false, false, false, false, false, false] rfl rfl (by kernel_rfl) (fun _ _ _ h => h) (Or.inl ⟨by rfl, ?_⟩) hHeld ?_ ?_
      rotate_left
      · rintro w' ⟨s0, s1⟩
        go_simp
        with_reducible rfl
      rotate_left
      · simp only [Act.put, List.setIfInBounds_toArray, List.set_cons_zero, List.set_cons_succ, i64_w, i32_w]
        rfl
      refine inv_ (fuel' := 3) #[true, true, true, true, true, true, true, true, true, false, false, false] [(2, 82, []), (3, 83, [2]), (6, 86, []), (7, 87, [3, 6]), (8, 88, [2, 3])] (fun sel v W => ∃ (R' : Rows) (D' : Its), Hold w R' D' W ∧ (∀ k, k ≠ 82 → k ≠ 86 → R' k = RTa k) ∧ (∀ k, k ≠ 14 → k ≠ 20 → D' k = DTa k) ∧ (sel 3 = false → D' 14 = DTa 14) ∧ (sel 7 = false → D' 20 = DTa 20) ∧ (sel 2 = true → SpS R' 82 99 (v 2)) ∧ (sel 3 = true → SpK D' 14 (h1 + 1) (((Ks.take m).take h1) ++ [99]) (v 3)) ∧ (sel 6 = true → SpS R' 86 99 (v 6)) ∧ (sel 8 = true → v 8 = .pointer (some ⟨w6.heap.size, 1, none⟩)) ∧ (sel 7 = true → SpK D' 20 (h2 + 1) (((Ks.take m ++ K2.take m2).take h2) ++ [99]) (v 7))) (by kernel_rfl) (fun _ _ _ _ _ => Iff.rfl) (fun sel v W ⟨R', D', hH, hR, _⟩ => ⟨cell_row (hH.row 7 _ _ ((hR 7 (by decide) (by decide)).trans ra_7'.out)).1 rfl, cell_row (hH.row 10 _ _ ((hR 10 (by decide) (by decide)).trans ra_10'.out)).1 rfl⟩) (⟨_, _, HTa'.out.drew, fun _ _ _ => rfl, fun _ _ _ => rfl, fun _ => rfl, fun _ => rfl, fun h => (Bool.false_ne_true h).elim, fun h => (Bool.false_ne_true h).elim, fun h => (Bool.false_ne_true h).elim, fun h => (Bool.false_ne_true h).elim, fun h => (Bool.false_ne_true h).elim⟩) ?_ ?_ (by rfl)
      · refine steps_cons rfl ?_ (steps_cons rfl ?_ (steps_cons rfl ?_ (steps_cons rfl ?_ (steps_cons rfl ?_ (steps_nil)))))
        · intro sel v W hI hs hd
          obtain ⟨R', D', hH, hR, hD, f3, f7, e2, e3, e6, e8, e7⟩ := hI
          intro a1 ha1 K hK
          simp (decide := true) only [foldA, if_true, if_false, ite_true, ite_false, Act.put, List.setIfInBounds_toArray, List.set_cons_zero, List.set_cons_succ] at ha1
          subst ha1
          refine value_ (w1 := ?_) (v := ?_) (by rfl) rfl ?_ ?_
          rotate_left 2
          · go_simp
            constructor
            · rfl
            · rfl
          exact hK.out _ _ ⟨_, D', hH.box 82 ((Below.refl _ _).alloc (Nat.le_refl _) _) (heap_alloc_new _ _) (Nat.le_refl _), fun k h1 h2 => (upd_ne _ _ h1).trans (hR k h1 h2), hD, keepF (by decide) f3 id, keepF (by decide) f7 id, newS ⟨_, rfl, upd_same _ _ _⟩, keepS (by decide) e3 id, keepS (by decide) e6 (fun h => SpS.up h (by decide)), keepS (p := fun u => u = .pointer (some ⟨w6.heap.size, 1, none⟩)) (p' := fun u => u = .pointer (some ⟨w6.heap.size, 1, none⟩)) (by decide) e8 id, keepS (by decide) e7 id⟩
        · intro sel v W hI hs hd
          simp only [List.all_cons, List.all_nil, Bool.and_true, Bool.and_eq_true] at hd
          obtain ⟨R', D', hH, hR, hD, f3, f7, e2, e3, e6, e8, e7⟩ := hI
          obtain ⟨gs, qs, rs⟩ := e2 hd
          have hm := hH.its 14 _ _ _ ((f3 hs).trans ta_14'.out)
          intro a1 ha1 K hK
          simp (decide := true) only [foldA, if_true, if_false, ite_true, ite_false, Act.put, List.setIfInBounds_toArray, List.set_cons_zero, List.set_cons_succ, qs] at ha1
          subst ha1
          obtain ⟨A2, cc2, W2, hr, ho, hb⟩ := app_full (mine_reads hm) (hH.row 82 _ _ rs).1 N7.out.1 (by have := HB.out; omega)
          refine value_ (w1 := W2) (v := .slice A2 (h1 + 1) cc2) (by rfl) rfl (exec_app (.tmp 81) (.tmp 82) ?_ ?_ ?_ hr) ?_
          · rfl
          · rfl
          · rfl
          exact hK.out _ _ ⟨R', _, hH.item 14 hb (mine_all ho (by rw [List.length_append, hm.1]; rfl)) (Nat.le_refl _), hR, fun k h1 h2 => (upd_ne _ _ h1).trans (hD k h1 h2), newF, keepF (by decide) f7 (fun h => (upd_ne _ _ (by decide)).trans h), keepS (by decide) e2 id, newS ⟨_, _, rfl, upd_same _ _ _⟩, keepS (by decide) e6 id, keepS (p := fun u => u = .pointer (some ⟨w6.heap.size, 1, none⟩)) (p' := fun u => u = .pointer (some ⟨w6.heap.size, 1, none⟩)) (by decide) e8 id, keepS (by decide) e7 (fun h => SpK.up h (by decide))⟩
        · intro sel v W hI hs hd
          obtain ⟨R', D', hH, hR, hD, f3, f7, e2, e3, e6, e8, e7⟩ := hI
          intro a1 ha1 K hK
          simp (decide := true) only [foldA, if_true, if_false, ite_true, ite_false, Act.put, List.setIfInBounds_toArray, List.set_cons_zero, List.set_cons_succ] at ha1
          subst ha1
          refine value_ (w1 := ?_) (v := ?_) (by rfl) rfl ?_ ?_
          rotate_left 2
          · go_simp
            constructor
            · rfl
            · rfl
          exact hK.out _ _ ⟨_, D', hH.box 86 ((Below.refl _ _).alloc (Nat.le_refl _) _) (heap_alloc_new _ _) (Nat.le_refl _), fun k h1 h2 => (upd_ne _ _ h2).trans (hR k h1 h2), hD, keepF (by decide) f3 id, keepF (by decide) f7 id, keepS (by decide) e2 (fun h => SpS.up h (by decide)), keepS (by decide) e3 id, newS ⟨_, rfl, upd_same _ _ _⟩, keepS (p := fun u => u = .pointer (some ⟨w6.heap.size, 1, none⟩)) (p' := fun u => u = .pointer (some ⟨w6.heap.size, 1, none⟩)) (by decide) e8 id, keepS (by decide) e7 id⟩
        · intro sel v W hI hs hd
          simp only [List.all_cons, List.all_nil, Bool.and_true, Bool.and_eq_true] at hd
          obtain ⟨R', D', hH, hR, hD, f3, f7, e2, e3, e6, e8, e7⟩ := hI
          obtain ⟨gs, qs, rs⟩ := e6 hd.2
          have hm := hH.its 20 _ _ _ ((f7 hs).trans ta_20'.out)
          intro a1 ha1 K hK
          simp (decide := true) only [foldA, if_true, if_false, ite_true, ite_false, Act.put, List.setIfInBounds_toArray, List.set_cons_zero, List.set_cons_succ, qs] at ha1
          subst ha1
          obtain ⟨A2, cc2, W2, hr, ho, hb⟩ := app_full (mine_reads hm) (hH.row 86 _ _ rs).1 N10.out.1 (by have := HB.out; omega)
          refine value_ (w1 := W2) (v := .slice A2 (h2 + 1) cc2) (by rfl) rfl (exec_app (.tmp 85) (.tmp 86) ?_ ?_ ?_ hr) ?_
          · rfl
          · rfl
          · rfl
          exact hK.out _ _ ⟨R', _, hH.item 20 hb (mine_all ho (by rw [List.length_append, hm.1]; rfl)) (Nat.le_refl _), hR, fun k h1 h2 => (upd_ne _ _ h2).trans (hD k h1 h2), keepF (by decide) f3 (fun h => (upd_ne _ _ (by decide)).trans h), newF, keepS (by decide) e2 id, keepS (by decide) e3 (fun h => SpK.up h (by decide)), keepS (by decide) e6 id, keepS (p := fun u => u = .pointer (some ⟨w6.heap.size, 1, none⟩)) (p' := fun u => u = .pointer (some ⟨w6.heap.size, 1, none⟩)) (by decide) e8 id, newS ⟨_, _, rfl, upd_same _ _ _⟩⟩
        · intro sel v W hI hs hd
          simp only [List.all_cons, List.all_nil, Bool.and_true, Bool.and_eq_true] at hd
          obtain ⟨R', D', hH, hR, hD, f3, f7, e2, e3, e6, e8, e7⟩ := hI
          intro a1 ha1 K hK
          simp (decide := true) only [foldA, if_true, if_false, ite_true, ite_false, Act.put, List.setIfInBounds_toArray, List.set_cons_zero, List.set_cons_succ] at ha1
          subst ha1
          refine value_ (w1 := ?_) (v := ?_) (by rfl) rfl ?_ ?_
          rotate_left 2
          · go_simp
            constructor
            · rfl
            · rfl
          exact hK.out _ _ ⟨R', D', hH, hR, hD, keepF (by decide) f3 id, keepF (by decide) f7 id, keepS (by decide) e2 id, keepS (by decide) e3 id, keepS (by decide) e6 id, newS (p := fun u => u = .pointer (some ⟨w6.heap.size, 1, none⟩)) rfl, keepS (by decide) e7 id⟩
      intro sel v W hsel hI
      obtain ⟨R', D', hH, hR, hD, f3, f7, e2, e3, e6, e8, e7⟩ := hI
      obtain ⟨gs, q2, rs⟩ := e2 (hsel (2, 82, []) (by simp))
      obtain ⟨A17, c17, q3, t14⟩ := e3 (hsel (3, 83, [2]) (by simp))
      obtain ⟨gs2, q6, rs2⟩ := e6 (hsel (6, 86, []) (by simp))
      have q8 := e8 (hsel (8, 88, [2, 3]) (by simp))
      obtain ⟨A18, c18, q7, t20⟩ := e7 (hsel (7, 87, [3, 6]) (by simp))
      have eR := row2 (RT := RTa) hR rs rs2
      have eD := its2 hD t14 t20
      subst eR
      subst eD
      have HR5 := Lib.hid hH
      clear hH hR hD f3 f7 e2 e3 e6 e8 e7 t14 t20 rs rs2 hsel
      refine norm_ (a' := ?_) ?_ ?_
      rotate_left
      · simp (decide := true) only [foldA, if_true, if_false, ite_true, ite_false, Act.put, List.setIfInBounds_toArray, List.set_cons_zero, List.set_cons_succ, q2, q3, q6, q8, q7]
        rfl
      refine last_ (i := 9) (N := none) #[true, true, true, true, true, true, true, true, true, true, false, false] rfl rfl (by kernel_rfl) (by decide) (fun K hK => ?_)
      have HR6 := Lib.hid (HR5.out.setCell 7 1 (.slice A17 (h1 + 1) c17) (cs' := #[.bool L, .slice A17 (h1 + 1) c17, .slice B7 h1 h1]) ((upd_ne _ _ (by decide)).trans ((upd_ne _ _ (by decide)).trans ra_7'.out)) rfl)
      obtain ⟨W6, hz9⟩ : ∃ y, W.setCell ⟨w6.heap.size, 1, none⟩ (.slice A17 (h1 + 1) c17) = y := ⟨_, rfl⟩
      rw [hz9] at HR6
      have qz9 : W.cell? ⟨w6.heap.size, 1, none⟩ = some (.slice A7 h1 h1) := cell_row (HR5.out.row 7 _ _ ((upd_ne _ _ (by decide)).trans ((upd_ne _ _ (by decide)).trans ra_7'.out))).1 rfl
      have fz9 : W.frozen? ⟨w6.heap.size, 1, none⟩ = false := blk_frozen (HR5.out.row 7 _ _ ((upd_ne _ _ (by decide)).trans ((upd_ne _ _ (by decide)).trans ra_7'.out))).1 1
      refine skip_ (w1 := ?_) (by rfl) rfl ?_ ?_
      rotate_left
      · go_simp
        rfl
      refine hK.out _ _ ?_
      clear hK K
      refine pure_ (i := 10) (N := some 89) (v := ?_) (a' := ?_) #[true, true, true, true, true, true, true, true, true, true, true, false] rfl rfl (by kernel_rfl) (fun _ _ _ h => h) (Or.inl ⟨by rfl, ?_⟩) ?_ ?_
      rotate_left
      · intro w'
        go_simp
        with_reducible rfl
      rotate_left
      · simp only [Act.put, List.setIfInBounds_toArray, List.set_cons_zero, List.set_cons_succ, i64_w, i32_w]
        rfl
      refine last_ (i := 11) (N := none) #[true, true, true, true, true, true, true, true, true, true, true, true] rfl rfl (by kernel_rfl) (by decide) (fun K hK => ?_)
      have HR7 := Lib.hid (HR6.out.setCell 10 1 (.slice A18 (h2 + 1) c18) (cs' := #[.bool L, .slice A18 (h2 + 1) c18, .slice B10 h2 h2]) ((upd_ne _ _ (by decide)).trans ((upd_ne _ _ (by decide)).trans ((upd_ne _ _ (by decide)).trans ra_10'.out))) rfl)
      obtain ⟨W7, hz11⟩ : ∃ y, W6.setCell ⟨w8.heap.size, 1, none⟩ (.slice A18 (h2 + 1) c18) = y := ⟨_, rfl⟩
      rw [hz11] at HR7
      have qz11 : W6.cell? ⟨w8.heap.size, 1, none⟩ = some (.slice A10 h2 h2) := cell_row (HR6.out.row 10 _ _ ((upd_ne _ _ (by decide)).trans ((upd_ne _ _ (by decide)).trans ((upd_ne _ _ (by decide)).trans ra_10'.out)))).1 rfl
      have fz11 : W6.frozen? ⟨w8.heap.size, 1, none⟩ = false := blk_frozen (HR6.out.row 10 _ _ ((upd_ne _ _ (by decide)).trans ((upd_ne _ _ (by decide)).trans ((upd_ne _ _ (by decide)).trans ra_10'.out)))).1 1
      refine skip_ (w1 := ?_) (by rfl) rfl ?_ ?_
      rotate_left
      · go_simp
        rfl
      refine hK.out _ _ ?_
      clear hK K
      refine done_ (by kernel_rfl) ?_
      clear hHeld HTa' HR5 HR6 qz9 qz11 fz9 fz11 hz9 hz11
      obtain ⟨RTb, DTb, HTb, rb_2, rb_3, rb_5, rb_6, rb_7, rb_8, rb_9, rb_10, rb_11, rb_13, rb_16, rb_BX, tb_10, tb_11, tb_12, tb_13, tb_14, tb_15, tb_16, tb_17, tb_18, tb_19, tb_20, tb_21, tb_22, tb_23, tb_26, tb_27, tb_32, tb_33⟩ : ∃ (RTb : Rows) (DTb : Its), Hold w RTb DTb W7 ∧ RTb 2 = some (w.heap.size, .cells #[.bool L, .slice ak nk ck, .slice av nv cv] 24) ∧ RTb 3 = some (w1.heap.size, .cells #[.bool L2, .slice ak2 nk2 ck2, .slice av2 nv2 cv2] 24) ∧ RTb 5 = some (g5, .cells #[.bool L, .slice A5 nk c5, .slice B5 nv e5x] 24) ∧ RTb 6 = some (g6, .cells #[.bool L2, .slice A6 nk2 c6, .slice B6 nv2 e6x] 24) ∧ RTb 7 = some (w6.heap.size, .cells #[.bool L, .slice A17 (h1 + 1) c17, .slice B7 h1 h1] 24) ∧ RTb 8 = some (y10a.heap.size, .cells #[.bool L, .slice A8 d1 c8, .slice B8 d1 e8] 24) ∧ RTb 9 = some (w7.heap.size, .cells #[.bool L, .slice A9 q c9, .slice B9 q e9] 24) ∧ RTb 10 = some (w8.heap.size, .cells #[.bool L, .slice A18 (h2 + 1) c18, .slice B10 h2 h2] 24) ∧ RTb 11 = some (y18a.heap.size, .cells #[.bool L, .slice A11 d2 c11, .slice B11 d2 e11] 24) ∧ RTb 13 = some (y22a.heap.size, .cells #[.bool L, .slice A13 d1 c13, .slice B13 d1 e13] 24) ∧ RTb 16 = some (y30a.heap.size, .cells #[.bool L, .slice A16 d2 c16, .slice B16 d2 e16] 24) ∧ RTb BX = none ∧ DTb 10 = some (A5, nk, Ks) ∧ DTb 11 = some (B5, nv, Vs) ∧ DTb 12 = some (A6, nk2, K2) ∧ DTb 13 = some (B6, nv2, V2) ∧ DTb 14 = some (A17, (h1 + 1), (((Ks.take m).take h1) ++ [99])) ∧ DTb 15 = some (B7, h1, ((Vs.take m).take h1)) ∧ DTb 16 = some (A8, d1, ((Ks.take m).drop h1)) ∧ DTb 17 = some (B8, d1, ((Vs.take m).drop h1)) ∧ DTb 18 = some (A9, q, (Ks.take m ++ K2.take m2)) ∧ DTb 19 = some (B9, q, (Vs.take m ++ V2.take m2)) ∧ DTb 20 = some (A18, (h2 + 1), (((Ks.take m ++ K2.take m2).take h2) ++ [99])) ∧ DTb 21 = some (B10, h2, ((Vs.take m ++ V2.take m2).take h2)) ∧ DTb 22 = some (A11, d2, ((Ks.take m ++ K2.take m2).drop h2)) ∧ DTb 23 = some (B11, d2, ((Vs.take m ++ V2.take m2).drop h2)) ∧ DTb 26 = some (A13, d1, (cut Ks h1 m)) ∧ DTb 27 = some (B13, d1, (cut Vs h1 m)) ∧ DTb 32 = some (A16, d2, (cut (Ks.take m ++ K2.take m2) h2 q)) ∧ DTb 33 = some (B16, d2, (cut (Vs.take m ++ V2.take m2) h2 q)) := ⟨_, _, HR7.out, (upd_ne _ _ (by decide)).trans ((upd_ne _ _ (by decide)).trans ((upd_ne _ _ (by decide)).trans ((upd_ne _ _ (by decide)).trans ra_2'.out))), (upd_ne _ _ (by decide)).trans ((upd_ne _ _ (by decide)).trans ((upd_ne _ _ (by decide)).trans ((upd_ne _ _ (by decide)).trans ra_3'.out))), (upd_ne _ _ (by decide)).trans ((upd_ne _ _ (by decide)).trans ((upd_ne _ _ (by decide)).trans ((upd_ne _ _ (by decide)).trans ra_5'.out))), (upd_ne _ _ (by decide)).trans ((upd_ne _ _ (by decide)).trans ((upd_ne _ _ (by decide)).trans ((upd_ne _ _ (by decide)).trans ra_6'.out))), (upd_ne _ _ (by decide)).trans (upd_same _ _ _), (upd_ne _ _ (by decide)).trans ((upd_ne _ _ (by decide)).trans ((upd_ne _ _ (by decide)).trans ((upd_ne _ _ (by decide)).trans ra_8'.out))), (upd_ne _ _ (by decide)).trans ((upd_ne _ _ (by decide)).trans ((upd_ne _ _ (by decide)).trans ((upd_ne _ _ (by decide)).trans ra_9'.out))), upd_same _ _ _, (upd_ne _ _ (by decide)).trans ((upd_ne _ _ (by decide)).trans ((upd_ne _ _ (by decide)).trans ((upd_ne _ _ (by decide)).trans ra_11'.out))), (upd_ne _ _ (by decide)).trans ((upd_ne _ _ (by decide)).trans ((upd_ne _ _ (by decide)).trans ((upd_ne _ _ (by decide)).trans ra_13'.out))), (upd_ne _ _ (by decide)).trans ((upd_ne _ _ (by decide)).trans ((upd_ne _ _ (by decide)).trans ((upd_ne _ _ (by decide)).trans ra_16'.out))), (upd_ne _ _ (by decide)).trans ((upd_ne _ _ (by decide)).trans ((upd_ne _ _ (by decide)).trans ((upd_ne _ _ (by decide)).trans ra_BX'.out))), (upd_ne _ _ (by decide)).trans ((upd_ne _ _ (by decide)).trans ta_10'.out), (upd_ne _ _ (by decide)).trans ((upd_ne _ _ (by decide)).trans ta_11'.out), (upd_ne _ _ (by decide)).trans ((upd_ne _ _ (by decide)).trans ta_12'.out), (upd_ne _ _ (by decide)).trans ((upd_ne _ _ (by decide)).trans ta_13'.out), (upd_ne _ _ (by decide)).trans (upd_same _ _ _), (upd_ne _ _ (by decide)).trans ((upd_ne _ _ (by decide)).trans ta_15'.out), (upd_ne _ _ (by decide)).trans ((upd_ne _ _ (by decide)).trans ta_16'.out), (upd_ne _ _ (by decide)).trans ((upd_ne _ _ (by decide)).trans ta_17'.out), (upd_ne _ _ (by decide)).trans ((upd_ne _ _ (by decide)).trans ta_18'.out), (upd_ne _ _ (by decide)).trans ((upd_ne _ _ (by decide)).trans ta_19'.out), upd_same _ _ _, (upd_ne _ _ (by decide)).trans ((upd_ne _ _ (by decide)).trans ta_21'.out), (upd_ne _ _ (by decide)).trans ((upd_ne _ _ (by decide)).trans ta_22'.out), (upd_ne _ _ (by decide)).trans ((upd_ne _ _ (by decide)).trans ta_23'.out), (upd_ne _ _ (by decide)).trans ((upd_ne _ _ (by decide)).trans ta_26'.out), (upd_ne _ _ (by decide)).trans ((upd_ne _ _ (by decide)).trans ta_27'.out), (upd_ne _ _ (by decide)).trans ((upd_ne _ _ (by decide)).trans ta_32'.out), (upd_ne _ _ (by decide)).trans ((upd_ne _ _ (by decide)).trans ta_33'.out)⟩
      have HTb' := Lib.hid HTb
      have rb_2' := Lib.hid rb_2
      have rb_3' := Lib.hid rb_3
      have rb_5' := Lib.hid rb_5
      have rb_6' := Lib.hid rb_6
      have rb_7' := Lib.hid rb_7
      have rb_8' := Lib.hid rb_8
      have rb_9' := Lib.hid rb_9
      have rb_10' := Lib.hid rb_10
      have rb_11' := Lib.hid rb_11
      have rb_13' := Lib.hid rb_13
      have rb_16' := Lib.hid rb_16
      have rb_BX' := Lib.hid rb_BX
      have tb_10' := Lib.hid tb_10
      have tb_11' := Lib.hid tb_11
      have tb_12' := Lib.hid tb_12
      have tb_13' := Lib.hid tb_13
      have tb_14' := Lib.hid tb_14
      have tb_15' := Lib.hid tb_15
      have tb_16' := Lib.hid tb_16
      have tb_17' := Lib.hid tb_17
      have tb_18' := Lib.hid tb_18
      have tb_19' := Lib.hid tb_19
      have tb_20' := Lib.hid tb_20
      have tb_21' := Lib.hid tb_21
      have tb_22' := Lib.hid tb_22
      have tb_23' := Lib.hid tb_23
      have tb_26' := Lib.hid tb_26
      have tb_27' := Lib.hid tb_27
      have tb_32' := Lib.hid tb_32
      have tb_33' := Lib.hid tb_33
      clear HTb rb_2 rb_3 rb_5 rb_6 rb_7 rb_8 rb_9 rb_10 rb_11 rb_13 rb_16 rb_BX tb_10 tb_11 tb_12 tb_13 tb_14 tb_15 tb_16 tb_17 tb_18 tb_19 tb_20 tb_21 tb_22 tb_23 tb_26 tb_27 tb_32 tb_33 HR7
      clear ra_2' ra_3' ra_5' ra_6' ra_7' ra_8' ra_9' ra_10' ra_11' ra_13' ra_16' ra_BX' ta_10' ta_11' ta_12' ta_13' ta_14' ta_15' ta_16' ta_17' ta_18' ta_19' ta_20' ta_21' ta_22' ta_23' ta_26' ta_27' ta_32' ta_33'
      have u8_48_0 : W7.cell? ⟨y10a.heap.size, 0, none⟩ = some (.bool L) := cell_row (HTb'.out.row 8 _ _ rb_8'.out).1 rfl
      have u8_48_1 : W7.cell? ⟨y10a.heap.size, 1, none⟩ = some (.slice A8 d1 c8) := cell_row (HTb'.out.row 8 _ _ rb_8'.out).1 rfl
      have u8_48_2 : W7.cell? ⟨y10a.heap.size, 2, none⟩ = some (.slice B8 d1 e8) := cell_row (HTb'.out.row 8 _ _ rb_8'.out).1 rfl
      have u13_49_0 : W7.cell? ⟨y22a.heap.size, 0, none⟩ = some (.bool L) := cell_row (HTb'.out.row 13 _ _ rb_13'.out).1 rfl
      have u13_49_1 : W7.cell? ⟨y22a.heap.size, 1, none⟩ = some (.slice A13 d1 c13) := cell_row (HTb'.out.row 13 _ _ rb_13'.out).1 rfl
      have u13_49_2 : W7.cell? ⟨y22a.heap.size, 2, none⟩ = some (.slice B13 d1 e13) := cell_row (HTb'.out.row 13 _ _ rb_13'.out).1 rfl
      go_wp2_with fail
      clear u8_48_0 u8_48_1 u8_48_2 u13_49_0 u13_49_1 u13_49_2
      refine (rsame_eq L _ _ _ _ A8 B8 A13 B13 d1 c8 d1 e8 d1 c13 d1 e13 _ (HTb'.out.rd 16 tb_16'.out) (HTb'.out.rd 17 tb_17'.out) (HTb'.out.rd 26 tb_26'.out) (HTb'.out.rd 27 tb_27'.out) rfl rfl).mono ?_; rintro e v25 ⟨rfl, hb⟩
      have H50 := Lib.hid (HTb'.out.below hb)
      clear hb HTb'
      have u11_51_0 : v25.cell? ⟨y18a.heap.size, 0, none⟩ = some (.bool L) := cell_row (H50.out.row 11 _ _ rb_11'.out).1 rfl
      have u11_51_1 : v25.cell? ⟨y18a.heap.size, 1, none⟩ = some (.slice A11 d2 c11) := cell_row (H50.out.row 11 _ _ rb_11'.out).1 rfl
      have u11_51_2 : v25.cell? ⟨y18a.heap.size, 2, none⟩ = some (.slice B11 d2 e11) := cell_row (H50.out.row 11 _ _ rb_11'.out).1 rfl
      have u16_52_0 : v25.cell? ⟨y30a.heap.size, 0, none⟩ = some (.bool L) := cell_row (H50.out.row 16 _ _ rb_16'.out).1 rfl
      have u16_52_1 : v25.cell? ⟨y30a.heap.size, 1, none⟩ = some (.slice A16 d2 c16) := cell_row (H50.out.row 16 _ _ rb_16'.out).1 rfl
      have u16_52_2 : v25.cell? ⟨y30a.heap.size, 2, none⟩ = some (.slice B16 d2 e16) := cell_row (H50.out.row 16 _ _ rb_16'.out).1 rfl
      go_wp2_with fail
      clear u11_51_0 u11_51_1 u11_51_2 u16_52_0 u16_52_1 u16_52_2
      refine (rsame_eq L _ _ _ _ A11 B11 A16 B16 d2 c11 d2 e11 d2 c16 d2 e16 _ (H50.out.rd 22 tb_22'.out) (H50.out.rd 23 tb_23'.out) (H50.out.rd 32 tb_32'.out) (H50.out.rd 33 tb_33'.out) (cut_all JL.out.1) (cut_all JL.out.2)).mono ?_; rintro e v26 ⟨rfl, hb⟩
      have H53 := Lib.hid (H50.out.below hb)
      clear hb H50
      have u7_54_0 : v26.cell? ⟨w6.heap.size, 0, none⟩ = some (.bool L) := cell_row (H53.out.row 7 _ _ rb_7'.out).1 rfl
      have u7_54_1 : v26.cell? ⟨w6.heap.size, 1, none⟩ = some (.slice A17 (h1 + 1) c17) := cell_row (H53.out.row 7 _ _ rb_7'.out).1 rfl
      have u7_54_2 : v26.cell? ⟨w6.heap.size, 2, none⟩ = some (.slice B7 h1 h1) := cell_row (H53.out.row 7 _ _ rb_7'.out).1 rfl
      go_wp2_with fail
      clear u7_54_0 u7_54_1 u7_54_2
      refine (spoil_at H53.out rb_BX'.out 14 15 (by decide) L A17 B7 (h1 + 1) c17 h1 h1 _ _ tb_14'.out tb_15'.out).mono ?_; rintro e s0 ⟨rfl, hh⟩
      have H55 := Lib.hid (hh)
      clear hh H53
      have u8_56_0 : s0.cell? ⟨y10a.heap.size, 0, none⟩ = some (.bool L) := cell_row (H55.out.row 8 _ _ rb_8'.out).1 rfl
      have u8_56_1 : s0.cell? ⟨y10a.heap.size, 1, none⟩ = some (.slice A8 d1 c8) := cell_row (H55.out.row 8 _ _ rb_8'.out).1 rfl
      have u8_56_2 : s0.cell? ⟨y10a.heap.size, 2, none⟩ = some (.slice B8 d1 e8) := cell_row (H55.out.row 8 _ _ rb_8'.out).1 rfl
      go_wp2_with fail
      clear u8_56_0 u8_56_1 u8_56_2
      refine (spoil_at H55.out rb_BX'.out 16 17 (by decide) L A8 B8 d1 c8 d1 e8 _ _ ((upd_ne _ _ (by decide)).trans ((upd_ne _ _ (by decide)).trans tb_16'.out)) ((upd_ne _ _ (by decide)).trans ((upd_ne _ _ (by decide)).trans tb_17'.out))).mono ?_; rintro e s1 ⟨rfl, hh⟩
      have H57 := Lib.hid (hh)
      clear hh H55
      have u9_58_0 : s1.cell? ⟨w7.heap.size, 0, none⟩ = some (.bool L) := cell_row (H57.out.row 9 _ _ rb_9'.out).1 rfl
      have u9_58_1 : s1.cell? ⟨w7.heap.size, 1, none⟩ = some (.slice A9 q c9) := cell_row (H57.out.row 9 _ _ rb_9'.out).1 rfl
      have u9_58_2 : s1.cell? ⟨w7.heap.size, 2, none⟩ = some (.slice B9 q e9) := cell_row (H57.out.row 9 _ _ rb_9'.out).1 rfl
      go_wp2_with fail
      clear u9_58_0 u9_58_1 u9_58_2
      refine (spoil_at H57.out rb_BX'.out 18 19 (by decide) L A9 B9 q c9 q e9 _ _ ((upd_ne _ _ (by decide)).trans ((upd_ne _ _ (by decide)).trans ((upd_ne _ _ (by decide)).trans ((upd_ne _ _ (by decide)).trans tb_18'.out)))) ((upd_ne _ _ (by decide)).trans ((upd_ne _ _ (by decide)).trans ((upd_ne _ _ (by decide)).trans ((upd_ne _ _ (by decide)).trans tb_19'.out))))).mono ?_; rintro e s2 ⟨rfl, hh⟩
      have H59 := Lib.hid (hh)
      clear hh H57
      have u10_60_0 : s2.cell? ⟨w8.heap.size, 0, none⟩ = some (.bool L) := cell_row (H59.out.row 10 _ _ rb_10'.out).1 rfl
      have u10_60_1 : s2.cell? ⟨w8.heap.size, 1, none⟩ = some (.slice A18 (h2 + 1) c18) := cell_row (H59.out.row 10 _ _ rb_10'.out).1 rfl
      have u10_60_2 : s2.cell? ⟨w8.heap.size, 2, none⟩ = some (.slice B10 h2 h2) := cell_row (H59.out.row 10 _ _ rb_10'.out).1 rfl
      go_wp2_with fail
      clear u10_60_0 u10_60_1 u10_60_2
      refine (spoil_at H59.out rb_BX'.out 20 21 (by decide) L A18 B10 (h2 + 1) c18 h2 h2 _ _ ((upd_ne _ _ (by decide)).trans ((upd_ne _ _ (by decide)).trans ((upd_ne _ _ (by decide)).trans ((upd_ne _ _ (by decide)).trans ((upd_ne _ _ (by decide)).trans ((upd_ne _ _ (by decide)).trans tb_20'.out)))))) ((upd_ne _ _ (by decide)).trans ((upd_ne _ _ (by decide)).trans ((upd_ne _ _ (by decide)).trans ((upd_ne _ _ (by decide)).trans ((upd_ne _ _ (by decide)).trans ((upd_ne _ _ (by decide)).trans tb_21'.out))))))).mono ?_; rintro e s3 ⟨rfl, hh⟩
      have H61 := Lib.hid (hh)
      clear hh H59
      have u11_62_0 : s3.cell? ⟨y18a.heap.size, 0, none⟩ = some (.bool L) := cell_row (H61.out.row 11 _ _ rb_11'.out).1 rfl
      have u11_62_1 : s3.cell? ⟨y18a.heap.size, 1, none⟩ = some (.slice A11 d2 c11) := cell_row (H61.out.row 11 _ _ rb_11'.out).1 rfl
      have u11_62_2 : s3.cell? ⟨y18a.heap.size, 2, none⟩ = some (.slice B11 d2 e11) := cell_row (H61.out.row 11 _ _ rb_11'.out).1 rfl
      go_wp2_with fail
      clear u11_62_0 u11_62_1 u11_62_2
      refine (spoil_at H61.out rb_BX'.out 22 23 (by decide) L A11 B11 d2 c11 d2 e11 _ _ ((upd_ne _ _ (by decide)).trans ((upd_ne _ _ (by decide)).trans ((upd_ne _ _ (by decide)).trans ((upd_ne _ _ (by decide)).trans ((upd_ne _ _ (by decide)).trans ((upd_ne _ _ (by decide)).trans ((upd_ne _ _ (by decide)).trans ((upd_ne _ _ (by decide)).trans tb_22'.out)))))))) ((upd_ne _ _ (by decide)).trans ((upd_ne _ _ (by decide)).trans ((upd_ne _ _ (by decide)).trans ((upd_ne _ _ (by decide)).trans ((upd_ne _ _ (by decide)).trans ((upd_ne _ _ (by decide)).trans ((upd_ne _ _ (by decide)).trans ((upd_ne _ _ (by decide)).trans tb_23'.out))))))))).mono ?_; rintro e s4 ⟨rfl, hh⟩
      have H63 := Lib.hid (hh)
      clear hh H61
      have u5_64_0 : s4.cell? ⟨g5, 0, none⟩ = some (.bool L) := cell_row (H63.out.row 5 _ _ rb_5'.out).1 rfl
      have u5_64_1 : s4.cell? ⟨g5, 1, none⟩ = some (.slice A5 nk c5) := cell_row (H63.out.row 5 _ _ rb_5'.out).1 rfl
      have u5_64_2 : s4.cell? ⟨g5, 2, none⟩ = some (.slice B5 nv e5x) := cell_row (H63.out.row 5 _ _ rb_5'.out).1 rfl
      have u2_65_0 : s4.cell? ⟨w.heap.size, 0, none⟩ = some (.bool L) := cell_row (H63.out.row 2 _ _ rb_2'.out).1 rfl
      have u2_65_1 : s4.cell? ⟨w.heap.size, 1, none⟩ = some (.slice ak nk ck) := cell_row (H63.out.row 2 _ _ rb_2'.out).1 rfl
      have u2_65_2 : s4.cell? ⟨w.heap.size, 2, none⟩ = some (.slice av nv cv) := cell_row (H63.out.row 2 _ _ rb_2'.out).1 rfl
      go_wp2_with fail
      clear u5_64_0 u5_64_1 u5_64_2 u2_65_0 u2_65_1 u2_65_2
      refine (rsame_eq L Ks Vs Ks Vs A5 B5 ak av nk c5 nv e5x nk ck nv cv _ (H63.out.rd 10 ((upd_ne _ _ (by decide)).trans ((upd_ne _ _ (by decide)).trans ((upd_ne _ _ (by decide)).trans ((upd_ne _ _ (by decide)).trans ((upd_ne _ _ (by decide)).trans ((upd_ne _ _ (by decide)).trans ((upd_ne _ _ (by decide)).trans ((upd_ne _ _ (by decide)).trans ((upd_ne _ _ (by decide)).trans ((upd_ne _ _ (by decide)).trans tb_10'.out))))))))))) (H63.out.rd 11 ((upd_ne _ _ (by decide)).trans ((upd_ne _ _ (by decide)).trans ((upd_ne _ _ (by decide)).trans ((upd_ne _ _ (by decide)).trans ((upd_ne _ _ (by decide)).trans ((upd_ne _ _ (by decide)).trans ((upd_ne _ _ (by decide)).trans ((upd_ne _ _ (by decide)).trans ((upd_ne _ _ (by decide)).trans ((upd_ne _ _ (by decide)).trans tb_11'.out))))))))))) (RN.out.1.below H63.out.bel) (RN.out.2.below H63.out.bel) rfl rfl).mono ?_; rintro e z1 ⟨rfl, hb⟩
      have H66 := Lib.hid (H63.out.below hb)
      clear hb H63
      have u6_67_0 : z1.cell? ⟨g6, 0, none⟩ = some (.bool L2) := cell_row (H66.out.row 6 _ _ rb_6'.out).1 rfl
      have u6_67_1 : z1.cell? ⟨g6, 1, none⟩ = some (.slice A6 nk2 c6) := cell_row (H66.out.row 6 _ _ rb_6'.out).1 rfl
      have u6_67_2 : z1.cell? ⟨g6, 2, none⟩ = some (.slice B6 nv2 e6x) := cell_row (H66.out.row 6 _ _ rb_6'.out).1 rfl
      have u3_68_0 : z1.cell? ⟨w1.heap.size, 0, none⟩ = some (.bool L2) := cell_row (H66.out.row 3 _ _ rb_3'.out).1 rfl
      have u3_68_1 : z1.cell? ⟨w1.heap.size, 1, none⟩ = some (.slice ak2 nk2 ck2) := cell_row (H66.out.row 3 _ _ rb_3'.out).1 rfl
      have u3_68_2 : z1.cell? ⟨w1.heap.size, 2, none⟩ = some (.slice av2 nv2 cv2) := cell_row (H66.out.row 3 _ _ rb_3'.out).1 rfl
      go_wp2_with fail
      clear u6_67_0 u6_67_1 u6_67_2 u3_68_0 u3_68_1 u3_68_2
      refine (rsame_eq L2 K2 V2 K2 V2 A6 B6 ak2 av2 nk2 c6 nv2 e6x nk2 ck2 nv2 cv2 _ (H66.out.rd 12 ((upd_ne _ _ (by decide)).trans ((upd_ne _ _ (by decide)).trans ((upd_ne _ _ (by decide)).trans ((upd_ne _ _ (by decide)).trans ((upd_ne _ _ (by decide)).trans ((upd_ne _ _ (by decide)).trans ((upd_ne _ _ (by decide)).trans ((upd_ne _ _ (by decide)).trans ((upd_ne _ _ (by decide)).trans ((upd_ne _ _ (by decide)).trans tb_12'.out))))))))))) (H66.out.rd 13 ((upd_ne _ _ (by decide)).trans ((upd_ne _ _ (by decide)).trans ((upd_ne _ _ (by decide)).trans ((upd_ne _ _ (by decide)).trans ((upd_ne _ _ (by decide)).trans ((upd_ne _ _ (by decide)).trans ((upd_ne _ _ (by decide)).trans ((upd_ne _ _ (by decide)).trans ((upd_ne _ _ (by decide)).trans ((upd_ne _ _ (by decide)).trans tb_13'.out))))))))))) (RM.out.1.below H66.out.bel) (RM.out.2.below H66.out.bel) rfl rfl).mono ?_; rintro e z2 ⟨rfl, hb⟩
      have H69 := Lib.hid (H66.out.below hb)
      clear hb H66
      go_wp2_with fail
      go_ret
      exact ⟨rfl, H69.out.bel⟩
end Go.Proofs.Ytdekplalhfpooaa.Knt
