/- Knots: the document's Join: its walk. -/
import Derived.BigQuiet
import Derived.Test.YtdekplalhfpooaaKntP
set_option linter.unusedVariables false
set_option linter.unusedSimpArgs false
namespace Go.Proofs.Ytdekplalhfpooaa.Knt
open Go Go.RowKit Go.Proofs.YtdekplalhfpooaaW.PrintWords Go.Proofs.YtdekplalhfpooaaW.PrintLast Go.Proofs.YtdekplalhfpooaaW.PrintMore Base Odr Hlp Nod Go.Proofs.Ytdekplalhfpooaa.Inv

set_option maxRecDepth 100000 in
set_option maxHeartbeats 6400000 in
theorem rjoin_at (L L2 : Bool) (Ks Vs K2 V2 : List Int) (ak av ak2 av2 : Option Addr) (nk ck nv cv nk2 ck2 nv2 cv2 m m2 q : Nat) (w : World) (HK : ReadsInt w .u64 ak nk Ks) (HV : ReadsInt w .u64 av nv Vs) (HK2 : ReadsInt w .u64 ak2 nk2 K2) (HV2 : ReadsInt w .u64 av2 nv2 V2)
    (hm : min nk nv = m) (hm2 : min nk2 nv2 = m2) (hq : m + m2 = q) (hs : q * 8 ≤ 140737488355328) :
    Calls Try.prog 25 #[.agg #[.bool L, .slice ak nk ck, .slice av nv cv], .agg #[.bool L2, .slice ak2 nk2 ck2, .slice av2 nv2 cv2]] w fun e w' => NO w w' e L q q (Ks.take m ++ K2.take m2) (Vs.take m ++ V2.take m2) := by
  obtain ⟨w1, hw1, b1, f1, s1⟩ := made w #[.bool L, .slice ak nk ck, .slice av nv cv] 24
  obtain ⟨w2, hw2, b2, f2, s2⟩ := made w1 #[.bool L2, .slice ak2 nk2 ck2, .slice av2 nv2 cv2] 24
  obtain ⟨w3, hw3, b3, f3, s3⟩ := made w2 #[.bool false, .slice none 0 0, .slice none 0 0] 24
  have B3 := Lib.hid (below_then' (below_then' b1 b2) b3)
  have P3 := Lib.hid (keep_row (keep_row f1 b2) b3)
  have Q3 := Lib.hid (keep_row f2 b3)
  have F3 := Lib.hid f3
  have SZ := Lib.hid (show w.heap.size ≤ w2.heap.size ∧ w2.heap.size < w3.heap.size ∧ w.heap.size ≤ w3.heap.size by omega)
  have RK := Lib.hid (And.intro (HK.below B3.out) (HV.below B3.out))
  have RK2 := Lib.hid (And.intro (HK2.below B3.out) (HV2.below B3.out))
  have HM := Lib.hid (And.intro hm (And.intro hm2 hq))
  have HS := Lib.hid (And.intro hs (And.intro (And.intro HK.2.1 HV.2.1) (And.intro HK2.2.1 HV2.2.1)))
  have HL := Lib.hid (show (cut Ks 0 m).length = m ∧ (cut Vs 0 m).length = m ∧ (cut K2 0 m2).length = m2 ∧ (cut V2 0 m2).length = m2 by
    refine ⟨?_, ?_, ?_, ?_⟩ <;> (rw [cut_len (by have h1 := HK.1; have h2 := HV.1; have h3 := HK2.1; have h4 := HV2.1; omega)]; rfl))
  have HLE := Lib.hid (show m ≤ nk ∧ m ≤ nv ∧ m2 ≤ nk2 ∧ m2 ≤ nv2 ∧ m * 8 ≤ 140737488355328 ∧ m2 * 8 ≤ 140737488355328 by omega)
  clear b1 f1 s1 b2 f2 s2 b3 f3 s3 HK HV HK2 HV2 hm hm2 hq hs
  go_enter Try.func25, Try.ntmps25
  go_wp2_with fail
  clear hw1 hw2 hw3
  refine start_ (n := 6) (S := fun w' => w'.cell? ⟨w.heap.size, 0, none⟩ = some (.bool L) ∧ w'.cell? ⟨w.heap.size, 1, none⟩ = some (.slice ak nk ck) ∧ w'.cell? ⟨w.heap.size, 2, none⟩ = some (.slice av nv cv)) (ds := [5]) #[false, false, false, false, false, false] (by kernel_rfl) rfl rfl ⟨cell_row P3.out rfl, cell_row P3.out rfl, cell_row P3.out rfl⟩ (fun hHeld => ?_)
  refine take_ (i := 0) (N := some 7) (v := ?_) (a' := ?_) #[true, false, false, false, false, false] rfl rfl (by kernel_rfl) (fun _ _ _ h => h) (Or.inl ⟨by rfl, ?_⟩) hHeld ?_ ?_
  rotate_left
  · rintro w' ⟨s0, s1, s2⟩
    go_simp
    with_reducible rfl
  rotate_left
  · simp only [Act.put, List.setIfInBounds_toArray, List.set_cons_zero, List.set_cons_succ, i64_w, i32_w]
    rfl
  refine take_ (i := 1) (N := some 8) (v := ?_) (a' := ?_) #[true, true, false, false, false, false] rfl rfl (by kernel_rfl) (fun _ _ _ h => h) (Or.inl ⟨by rfl, ?_⟩) hHeld ?_ ?_
  rotate_left
  · rintro w' ⟨s0, s1, s2⟩
    go_simp
    with_reducible rfl
  rotate_left
  · simp only [Act.put, List.setIfInBounds_toArray, List.set_cons_zero, List.set_cons_succ, i64_w, i32_w]
    rfl
  refine inv_ (fuel' := 1) #[true, true, true, true, true, false] [(2, 9, []), (3, 10, [2]), (4, 5, [])] (JI w3 L m m (cut Ks 0 m) (cut Vs 0 m) 2 3 4) (by kernel_rfl) (fun _ _ _ _ _ => Iff.rfl) (fun sel v W hI => ⟨cell_row (keep_row P3.out hI.bel) rfl, cell_row (keep_row P3.out hI.bel) rfl, cell_row (keep_row P3.out hI.bel) rfl⟩) (JI.start (below_drew (Below.refl _ _))) ?_ ?_ (by rfl)
  · refine steps_cons rfl ?_ (steps_cons rfl ?_ (steps_cons rfl ?_ (steps_nil)))
    · intro sel v W hI hs hd
      intro a1 ha1 K hK
      simp (decide := true) only [foldA, if_true, if_false, ite_true, ite_false, Act.put, List.setIfInBounds_toArray, List.set_cons_zero, List.set_cons_succ] at ha1
      subst ha1
      refine goes_ Try.func46 (by kernel_rfl) rfl #[.agg #[.bool L, .slice ak nk ck, .slice av nv cv]] (by rfl) rfl rfl (by simp only [List.map_toArray, List.map_cons, List.map_nil]; rfl) ?_
      with_reducible refine (pairs_at L ak av nk ck nv cv m _ HM.out.1 HS.out.2.1.1 HS.out.2.1.2).mono ?_
      rintro e W2 ⟨rfl, hb⟩
      refine ⟨_, rfl, ?_⟩
      exact hK.out _ _ (hI.val (by decide) (by decide) hb)
    · intro sel v W hI hs hd
      simp only [List.all_cons, List.all_nil, Bool.and_true, Bool.and_eq_true] at hd
      have e2 : v 2 = .int .i64 (m : Int) := by obtain ⟨_, _, _, _, _, _, e2, _⟩ := hI; exact e2 hd
      intro a1 ha1 K hK
      simp (decide := true) only [foldA, if_true, if_false, ite_true, ite_false, Act.put, List.setIfInBounds_toArray, List.set_cons_zero, List.set_cons_succ, e2] at ha1
      subst ha1
      refine goes_ Try.func52 (by kernel_rfl) rfl #[.agg #[.bool L, .slice ak nk ck, .slice av nv cv], .int .i64 0, .int .i64 (m : Int)] (by rfl) rfl rfl (by simp only [List.map_toArray, List.map_cons, List.map_nil]; rfl) ?_
      with_reducible refine (part_all L Ks Vs ak av nk ck nv cv m _ (RK.out.1.below (below_then (Below.refl _ _) (Nat.le_refl _) hI.bel)) (RK.out.2.below hI.bel) HLE.out.1 HLE.out.2.1 HLE.out.2.2.2.2.1).mono ?_
      rintro e W2 ⟨A0, c0, A0x, c0x, rfl, ho1, ho2, -, -, hap, hb⟩
      refine ⟨_, rfl, ?_⟩
      exact hK.out _ _ (hI.call (by decide) (by decide) hs ho1 ho2 hap hb)
    · intro sel v W hI hs hd
      intro a1 ha1 K hK
      simp (decide := true) only [foldA, if_true, if_false, ite_true, ite_false, Act.put, List.setIfInBounds_toArray, List.set_cons_zero, List.set_cons_succ] at ha1
      subst ha1
      refine value_ (w1 := ?_) (v := ?_) (by rfl) rfl ?_ ?_
      rotate_left 2
      · go_simp
        constructor
        · rfl
        · rfl
      exact hK.out _ _ (hI.box (by decide) (by decide))
  intro sel v W hsel hI
  obtain ⟨g5, A5, c5, A5x, c5x, hB, e2, e3, e4, -⟩ := hI
  have q2 := e2 (hsel (2, 9, []) (by simp))
  obtain ⟨q3, k5, v5, ap5⟩ := e3 (hsel (3, 10, [2]) (by simp))
  obtain ⟨q4, bx5, ge5⟩ := e4 (hsel (4, 5, []) (by simp))
  have KK := Lib.hid (And.intro k5 (And.intro v5 (And.intro ap5 (And.intro bx5 (And.intro ge5 hB)))))
  clear e2 e3 e4 k5 v5 ap5 bx5 ge5 hB hsel
  refine norm_ (a' := ?_) ?_ ?_
  rotate_left
  · simp (decide := true) only [foldA, if_true, if_false, ite_true, ite_false, Act.put, List.setIfInBounds_toArray, List.set_cons_zero, List.set_cons_succ, q2, q3, q4]
    rfl
  refine last_ (i := 5) (N := none) #[true, true, true, true, true, true] rfl rfl (by kernel_rfl) (by decide) (fun K hK => ?_)
  refine skip_ (w1 := W.setRow g5 #[.bool L, .slice A5 m c5, .slice A5x m c5x]) (by rfl) rfl (exec_store_row 24 _ _ rfl g5 #[.bool L, .slice A5 m c5, .slice A5x m c5x] (by rfl) (by rfl) 24 _ KK.out.2.2.2.1 (size3 _ _ _) rfl (one3 _ _ _ _ _ _ _)) ?_
  obtain ⟨y1, hy⟩ : ∃ y, W.setRow g5 #[.bool L, .slice A5 m c5, .slice A5x m c5x] = y := ⟨_, rfl⟩
  rw [hy]
  refine hK.out _ _ ?_
  clear hK K
  refine done_ (by kernel_rfl) ?_
  have OB5 := Lib.hid (show OB y1 w3.heap.size g5 #[.bool L, .slice A5 m c5, .slice A5x m c5x] A5 c5 A5x c5x m m (cut Ks 0 m) (cut Vs 0 m) by rw [← hy]; exact OB.made KK.out.2.2.2.1 KK.out.2.2.2.2.1 KK.out.1 KK.out.2.1 KK.out.2.2.1)
  have BY1 := Lib.hid (show Below w3.heap.size w3 y1 by rw [← hy]; exact below_setRow KK.out.2.2.2.2.2 KK.out.2.2.2.2.1 _)
  have Q4 := Lib.hid (keep_row Q3.out BY1.out)
  have RK3 := Lib.hid (And.intro (RK2.out.1.below BY1.out) (RK2.out.2.below BY1.out))
  clear hy KK q2 q3 q4 hHeld
  go_wp2_with fail
  refine start_ (n := 6) (S := fun w' => w'.cell? ⟨w1.heap.size, 0, none⟩ = some (.bool L2) ∧ w'.cell? ⟨w1.heap.size, 1, none⟩ = some (.slice ak2 nk2 ck2) ∧ w'.cell? ⟨w1.heap.size, 2, none⟩ = some (.slice av2 nv2 cv2)) (ds := [5]) #[false, false, false, false, false, false] (by kernel_rfl) rfl rfl ⟨cell_row Q4.out rfl, cell_row Q4.out rfl, cell_row Q4.out rfl⟩ (fun hHeld => ?_)
  refine take_ (i := 0) (N := some 11) (v := ?_) (a' := ?_) #[true, false, false, false, false, false] rfl rfl (by kernel_rfl) (fun _ _ _ h => h) (Or.inl ⟨by rfl, ?_⟩) hHeld ?_ ?_
  rotate_left
  · rintro w' ⟨s0, s1, s2⟩
    go_simp
    with_reducible rfl
  rotate_left
  · simp only [Act.put, List.setIfInBounds_toArray, List.set_cons_zero, List.set_cons_succ, i64_w, i32_w]
    rfl
  refine take_ (i := 1) (N := some 12) (v := ?_) (a' := ?_) #[true, true, false, false, false, false] rfl rfl (by kernel_rfl) (fun _ _ _ h => h) (Or.inl ⟨by rfl, ?_⟩) hHeld ?_ ?_
  rotate_left
  · rintro w' ⟨s0, s1, s2⟩
    go_simp
    with_reducible rfl
  rotate_left
  · simp only [Act.put, List.setIfInBounds_toArray, List.set_cons_zero, List.set_cons_succ, i64_w, i32_w]
    rfl
  refine inv_ (fuel' := 1) #[true, true, true, true, true, false] [(2, 13, []), (3, 14, [2]), (4, 6, [])] (JI y1 L2 m2 m2 (cut K2 0 m2) (cut V2 0 m2) 2 3 4) (by kernel_rfl) (fun _ _ _ _ _ => Iff.rfl) (fun sel v W hI => ⟨cell_row (keep_row Q4.out hI.bel) rfl, cell_row (keep_row Q4.out hI.bel) rfl, cell_row (keep_row Q4.out hI.bel) rfl⟩) (JI.start (below_drew (Below.refl _ _))) ?_ ?_ (by rfl)
  · refine steps_cons rfl ?_ (steps_cons rfl ?_ (steps_cons rfl ?_ (steps_nil)))
    · intro sel v W hI hs hd
      intro a1 ha1 K hK
      simp (decide := true) only [foldA, if_true, if_false, ite_true, ite_false, Act.put, List.setIfInBounds_toArray, List.set_cons_zero, List.set_cons_succ] at ha1
      subst ha1
      refine goes_ Try.func46 (by kernel_rfl) rfl #[.agg #[.bool L2, .slice ak2 nk2 ck2, .slice av2 nv2 cv2]] (by rfl) rfl rfl (by simp only [List.map_toArray, List.map_cons, List.map_nil]; rfl) ?_
      with_reducible refine (pairs_at L2 ak2 av2 nk2 ck2 nv2 cv2 m2 _ HM.out.2.1 HS.out.2.2.1 HS.out.2.2.2).mono ?_
      rintro e W2 ⟨rfl, hb⟩
      refine ⟨_, rfl, ?_⟩
      exact hK.out _ _ (hI.val (by decide) (by decide) hb)
    · intro sel v W hI hs hd
      simp only [List.all_cons, List.all_nil, Bool.and_true, Bool.and_eq_true] at hd
      have e2 : v 2 = .int .i64 (m2 : Int) := by obtain ⟨_, _, _, _, _, _, e2, _⟩ := hI; exact e2 hd
      intro a1 ha1 K hK
      simp (decide := true) only [foldA, if_true, if_false, ite_true, ite_false, Act.put, List.setIfInBounds_toArray, List.set_cons_zero, List.set_cons_succ, e2] at ha1
      subst ha1
      refine goes_ Try.func52 (by kernel_rfl) rfl #[.agg #[.bool L2, .slice ak2 nk2 ck2, .slice av2 nv2 cv2], .int .i64 0, .int .i64 (m2 : Int)] (by rfl) rfl rfl (by simp only [List.map_toArray, List.map_cons, List.map_nil]; rfl) ?_
      with_reducible refine (part_all L2 K2 V2 ak2 av2 nk2 ck2 nv2 cv2 m2 _ (RK3.out.1.below (below_then (Below.refl _ _) (Nat.le_refl _) hI.bel)) (RK3.out.2.below hI.bel) HLE.out.2.2.1 HLE.out.2.2.2.1 HLE.out.2.2.2.2.2).mono ?_
      rintro e W2 ⟨A0, c0, A0x, c0x, rfl, ho1, ho2, -, -, hap, hb⟩
      refine ⟨_, rfl, ?_⟩
      exact hK.out _ _ (hI.call (by decide) (by decide) hs ho1 ho2 hap hb)
    · intro sel v W hI hs hd
      intro a1 ha1 K hK
      simp (decide := true) only [foldA, if_true, if_false, ite_true, ite_false, Act.put, List.setIfInBounds_toArray, List.set_cons_zero, List.set_cons_succ] at ha1
      subst ha1
      refine value_ (w1 := ?_) (v := ?_) (by rfl) rfl ?_ ?_
      rotate_left 2
      · go_simp
        constructor
        · rfl
        · rfl
      exact hK.out _ _ (hI.box (by decide) (by decide))
  intro sel v W hsel hI
  obtain ⟨g6, A6, c6, A6x, c6x, hB, e2, e3, e4, -⟩ := hI
  have q2 := e2 (hsel (2, 13, []) (by simp))
  obtain ⟨q3, k5, v5, ap5⟩ := e3 (hsel (3, 14, [2]) (by simp))
  obtain ⟨q4, bx5, ge5⟩ := e4 (hsel (4, 6, []) (by simp))
  have KK := Lib.hid (And.intro k5 (And.intro v5 (And.intro ap5 (And.intro bx5 (And.intro ge5 hB)))))
  clear e2 e3 e4 k5 v5 ap5 bx5 ge5 hB hsel
  refine norm_ (a' := ?_) ?_ ?_
  rotate_left
  · simp (decide := true) only [foldA, if_true, if_false, ite_true, ite_false, Act.put, List.setIfInBounds_toArray, List.set_cons_zero, List.set_cons_succ, q2, q3, q4]
    rfl
  refine last_ (i := 5) (N := none) #[true, true, true, true, true, true] rfl rfl (by kernel_rfl) (by decide) (fun K hK => ?_)
  refine skip_ (w1 := W.setRow g6 #[.bool L2, .slice A6 m2 c6, .slice A6x m2 c6x]) (by rfl) rfl (exec_store_row 24 _ _ rfl g6 #[.bool L2, .slice A6 m2 c6, .slice A6x m2 c6x] (by rfl) (by rfl) 24 _ KK.out.2.2.2.1 (size3 _ _ _) rfl (one3 _ _ _ _ _ _ _)) ?_
  obtain ⟨y2, hy⟩ : ∃ y, W.setRow g6 #[.bool L2, .slice A6 m2 c6, .slice A6x m2 c6x] = y := ⟨_, rfl⟩
  rw [hy]
  refine hK.out _ _ ?_
  clear hK K
  refine done_ (by kernel_rfl) ?_
  have OB6 := Lib.hid (show OB y2 y1.heap.size g6 #[.bool L2, .slice A6 m2 c6, .slice A6x m2 c6x] A6 c6 A6x c6x m2 m2 (cut K2 0 m2) (cut V2 0 m2) by rw [← hy]; exact OB.made KK.out.2.2.2.1 KK.out.2.2.2.2.1 KK.out.1 KK.out.2.1 KK.out.2.2.1)
  have BYY := Lib.hid (show Below y1.heap.size y1 y2 by rw [← hy]; exact below_setRow KK.out.2.2.2.2.2 KK.out.2.2.2.2.1 _)
  have OB5' := Lib.hid (OB5.out.below BYY.out)
  have BY2 := Lib.hid (below_then' BY1.out BYY.out)
  have GNE := Lib.hid (show g6 ≠ g5 by have h1 := (Array.getElem?_eq_some_iff.1 OB5.out.box).1; have h2 := OB6.out.ge; omega)
  clear hy KK q2 q3 q4 hHeld
  have x5 : y2.cell? ⟨g5, 1, none⟩ = some (.slice A5 m c5) := cell_row OB5'.out.box rfl
  have x6 : y2.cell? ⟨g6, 1, none⟩ = some (.slice A6 m2 c6) := cell_row OB6.out.box rfl
  go_wp2_with (at_builtin; go_loud (refine print_append_row (w0 := y2) (W := y2) w3.heap.size rfl (.tmp 16) (.tmp 18) 22 25 .u64 8 rfl Try.underlying22 info64 (by omega) (.slice A5 m c5) (cut Ks 0 m) (cut K2 0 m2) A6 m2 c6 rfl rfl (by rw [HL.out.1]; exact OB5'.out.k) (own_reads' OB6.out.k) (Below.refl _ _) BY2.out.size (by rw [HL.out.1]; have h1 := HM.out; have h2 := HS.out.1; omega) ?_))
  intro v8 w8 hown hB hg hat
  obtain ⟨A8, c8, rfl⟩ := own_slice hown
  have hq8 : (cut Ks 0 m).length + (cut K2 0 m2).length = q := by rw [HL.out.1, HL.out.2.2.1]; exact HM.out.2.2
  rw [hq8] at hown ⊢
  have k5n : some g5 ≠ (Value.slice A5 m c5).ownBlock := own_ne OB5'.out.k OB5'.out.box (by decide)
  have k6n : some g6 ≠ (Value.slice A5 m c5).ownBlock := own_ne OB5'.out.k OB6.out.box (by decide)
  have hap : Apart A8 A5x := by
    rintro a a' rfl rfl he
    rcases hat with hat | ⟨p, hat, hp⟩
    · cases A5 with
      | none => simp [Value.ownBlock] at hat
      | some a5 => simp only [Value.ownBlock] at hat; injection hat with hat; exact OB5'.out.ap a5 a' rfl rfl (by rw [← hat]; exact he)
    · simp only [Value.ownBlock] at hat; injection hat with hat
      have := (own_blk_ge OB5'.out.v a' rfl).2
      omega
  have OW8 := Lib.hid hown
  have V8 := Lib.hid (own_other OB5'.out.v hg (ap_own OB5'.out.ap))
  have BX5 := Lib.hid (blk_grown OB5'.out.box hg k5n)
  have BX6 := Lib.hid (blk_grown OB6.out.box hg k6n)
  have M8 := Lib.hid (own_other OB6.out.v hg (own_later OB5.out.k OB6.out.v (Nat.le_refl _)))
  have BW8 := Lib.hid (pw_below_grown BY2.out _ BY2.out.size hg (fun k hk => own_base OB5'.out.k k hk))
  have AP8 := Lib.hid hap
  have x8 : w8.cell? ⟨g5, 1, none⟩ = some (.slice A5 m c5) := cell_row BX5.out rfl
  have z8 : w8.frozen? ⟨g5, 1, none⟩ = false := blk_frozen BX5.out 1
  obtain ⟨w9, hw9⟩ : ∃ w9, w8.setCell ⟨g5, 1, none⟩ (.slice A8 q c8) = w9 := ⟨_, rfl⟩
  have BZ5 := Lib.hid (show w9.heap[g5]? = some (.cells #[.bool L, .slice A8 q c8, .slice A5x m c5x] 24) by rw [← hw9]; exact blk_put BX5.out 1 _ rfl)
  have BZ6 := Lib.hid (show w9.heap[g6]? = some (.cells #[.bool L2, .slice A6 m2 c6, .slice A6x m2 c6x] 24) by rw [← hw9]; exact (Below.heap_setCell w8 ⟨g5, 1, none⟩ _ g6 (GNE.out)).trans BX6.out)
  have OW9 := Lib.hid (show w9.ownsRow w3.heap.size 25 1 (.slice A8 q c8) q (nums .u64 (cut Ks 0 m ++ cut K2 0 m2)) by rw [← hw9]; exact own_setCell OW8.out (own_ne OW8.out BX5.out (by decide)) _)
  have V9 := Lib.hid (show w9.ownsRow w3.heap.size 25 1 (.slice A5x m c5x) m (nums .u64 (cut Vs 0 m)) by rw [← hw9]; exact own_setCell V8.out (own_ne V8.out BX5.out (by decide)) _)
  have M9 := Lib.hid (show w9.ownsRow y1.heap.size 25 1 (.slice A6x m2 c6x) m2 (nums .u64 (cut V2 0 m2)) by rw [← hw9]; exact own_setCell M8.out (own_ne M8.out BX5.out (by decide)) _)
  have BW9 := Lib.hid (show Below w3.heap.size w3 w9 by rw [← hw9]; exact BW8.out.setCell OB5.out.ge _)
  have x9 : w9.cell? ⟨g5, 2, none⟩ = some (.slice A5x m c5x) := cell_row BZ5.out rfl
  have x9' : w9.cell? ⟨g6, 2, none⟩ = some (.slice A6x m2 c6x) := cell_row BZ6.out rfl
  clear hown hB hg hat hap k5n k6n hq8 x5 x6
  go_wp2_with (at_builtin; go_loud (refine print_append_row (w0 := w9) (W := w9) w3.heap.size rfl (.tmp 22) (.tmp 24) 22 25 .u64 8 rfl Try.underlying22 info64 (by omega) (.slice A5x m c5x) (cut Vs 0 m) (cut V2 0 m2) A6x m2 c6x rfl rfl (by rw [HL.out.2.1]; exact V9.out) (own_reads' M9.out) (Below.refl _ _) BW9.out.size (by rw [HL.out.2.1]; have h1 := HM.out; have h2 := HS.out.1; omega) ?_))
  clear hw9 x8 z8
  intro v10 w10 hown hB hg hat
  obtain ⟨A10, c10, rfl⟩ := own_slice hown
  have hq8 : (cut Vs 0 m).length + (cut V2 0 m2).length = q := by rw [HL.out.2.1, HL.out.2.2.2]; exact HM.out.2.2
  rw [hq8] at hown ⊢
  have k5n : some g5 ≠ (Value.slice A5x m c5x).ownBlock := own_ne V9.out BZ5.out (by decide)
  have hap : Apart A8 A10 := by
    rintro a a' rfl rfl he
    rcases hat with hat | ⟨p, hat, hp⟩
    · cases A5x with
      | none => simp [Value.ownBlock] at hat
      | some a5 => simp only [Value.ownBlock] at hat; injection hat with hat; exact AP8.out a a5 rfl rfl (by rw [← hat]; exact he)
    · simp only [Value.ownBlock] at hat; injection hat with hat
      have := (own_blk_ge OW9.out a rfl).2
      omega
  have K10 := Lib.hid (own_other OW9.out hg (ap_own (fun a a' h h' he => AP8.out a' a h' h he.symm)))
  have OW10 := Lib.hid hown
  have BX10 := Lib.hid (blk_grown BZ5.out hg k5n)
  have BW10 := Lib.hid (pw_below_grown BW9.out _ BW9.out.size hg (fun k hk => own_base V9.out k hk))
  have AP10 := Lib.hid hap
  have x10 : w10.cell? ⟨g5, 2, none⟩ = some (.slice A5x m c5x) := cell_row BX10.out rfl
  have z10 : w10.frozen? ⟨g5, 2, none⟩ = false := blk_frozen BX10.out 2
  obtain ⟨w11, hw11⟩ : ∃ w11, w10.setCell ⟨g5, 2, none⟩ (.slice A10 q c10) = w11 := ⟨_, rfl⟩
  have BX11 := Lib.hid (show w11.heap[g5]? = some (.cells #[.bool L, .slice A8 q c8, .slice A10 q c10] 24) by rw [← hw11]; exact blk_put BX10.out 2 _ rfl)
  have K11 := Lib.hid (show w11.ownsRow w3.heap.size 25 1 (.slice A8 q c8) q (nums .u64 (cut Ks 0 m ++ cut K2 0 m2)) by rw [← hw11]; exact own_setCell K10.out (own_ne K10.out BX10.out (by decide)) _)
  have V11 := Lib.hid (show w11.ownsRow w3.heap.size 25 1 (.slice A10 q c10) q (nums .u64 (cut Vs 0 m ++ cut V2 0 m2)) by rw [← hw11]; exact own_setCell OW10.out (own_ne OW10.out BX10.out (by decide)) _)
  have BW11 := Lib.hid (show Below w3.heap.size w3 w11 by rw [← hw11]; exact BW10.out.setCell OB5.out.ge _)
  have R11 := Lib.hid (keep_row F3.out BW11.out)
  have LQ := Lib.hid (show (cut Vs 0 m ++ cut V2 0 m2).length = q by rw [List.length_append]; exact hq8)
  clear hown hB hg hat hap k5n hq8 x9 x9'
  go_wp2_with (first | ((with_reducible refine wpList_load_row rfl 24 (.tmp 5) rfl g5 ?_ 24 _ _ _ BX11.out Try.underlying24 ?_ (size3 _ _ _) ?_); rfl; rfl) | ((with_reducible refine wpList_store_row rfl 24 (.tmp 4) (.tmp 27) rfl w2.heap.size #[.bool L, .slice A8 q c8, .slice A10 q c10] ?_ ?_ 24 _ R11.out (size3 _ _ _) ?_ (one3 _ _ _ _ _ _ _) ?_); rfl; rfl; rfl))
  have hk := own_setRow K11.out (own_ne K11.out R11.out (by decide)) #[.bool L, .slice A8 q c8, .slice A10 q c10]
  have hv := own_setRow V11.out (own_ne V11.out R11.out (by decide)) #[.bool L, .slice A8 q c8, .slice A10 q c10]
  have lk : (cut Ks 0 m ++ cut K2 0 m2).length = q := by rw [List.length_append, HL.out.1, HL.out.2.2.1]; exact HM.out.2.2
  exact ret_c 4 rfl w2.heap.size #[.bool L, .slice A8 q c8, .slice A10 q c10] (0, 0) rfl (setRow_heap _ _ _ _ _ _ R11.out) rfl rfl ⟨A8, c8, A10, c10, rfl, own_weaken hk SZ.out.2.2, own_weaken hv SZ.out.2.2, lk, LQ.out, AP10.out, below_setRow (below_then' B3.out BW11.out) SZ.out.1 _⟩
end Go.Proofs.Ytdekplalhfpooaa.Knt
