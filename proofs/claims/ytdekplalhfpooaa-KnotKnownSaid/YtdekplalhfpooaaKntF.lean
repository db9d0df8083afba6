/- Knots: Even, by its contract (every input). -/
import Derived.BigQuiet
import Derived.Test.YtdekplalhfpooaaKntE
set_option linter.unusedVariables false
set_option linter.unusedSimpArgs false
namespace Go.Proofs.Ytdekplalhfpooaa.Knt
open Go Go.RowKit Go.Proofs.YtdekplalhfpooaaW.PrintWords Go.Proofs.YtdekplalhfpooaaW.PrintLast Go.Proofs.YtdekplalhfpooaaW.PrintMore Base Odr Hlp Nod

set_option maxRecDepth 100000 in
set_option maxHeartbeats 3200000 in
theorem even_at (L L2 : Bool) (Ks Vs K2 V2 JK JV : List Int) (ak av ak2 av2 : Option Addr) (nk ck nv cv nk2 ck2 nv2 cv2 m m2 q h d : Nat) (w : World) (HK : ReadsInt w .u64 ak nk Ks) (HV : ReadsInt w .u64 av nv Vs) (HK2 : ReadsInt w .u64 ak2 nk2 K2) (HV2 : ReadsInt w .u64 av2 nv2 V2)
    (hm : min nk nv = m) (hm2 : min nk2 nv2 = m2) (hq : m + m2 = q) (hh : (q + 1) / 2 = h) (hd : q - h = d) (hJ : Ks.take m ++ K2.take m2 = JK ∧ Vs.take m ++ V2.take m2 = JV) (hk : nk ≤ ck ∧ nv ≤ cv) (hn : (ak = none → ck = 0) ∧ (av = none → cv = 0)) (hk2 : nk2 ≤ ck2 ∧ nv2 ≤ cv2) (hn2 : (ak2 = none → ck2 = 0) ∧ (av2 = none → cv2 = 0)) (hs : q * 8 ≤ 140737488355328) :
    Calls Try.prog 23 #[.agg #[.bool L, .slice ak nk ck, .slice av nv cv], .agg #[.bool L2, .slice ak2 nk2 ck2, .slice av2 nv2 cv2]] w fun e w' => N2 w w' e L h d (JK.take h) (JV.take h) (JK.drop h) (JV.drop h) := by
  obtain ⟨w1, hw1, b1, f1, s1⟩ := made w #[.bool L, .slice ak nk ck, .slice av nv cv] 24
  obtain ⟨w2, hw2, b2, f2, s2⟩ := made w1 #[.bool L2, .slice ak2 nk2 ck2, .slice av2 nv2 cv2] 24
  obtain ⟨w3, hw3, b3, f3, s3⟩ := made w2 #[.bool false, .slice none 0 0, .slice none 0 0] 24
  obtain ⟨w4, hw4, b4, f4, s4⟩ := made w3 #[.bool false, .slice none 0 0, .slice none 0 0] 24
  have B4 := Lib.hid (below_then' (below_then' (below_then' b1 b2) b3) b4)
  have P4 := Lib.hid (keep_row (keep_row (keep_row f1 b2) b3) b4)
  have Q4 := Lib.hid (keep_row (keep_row f2 b3) b4)
  have F4 := Lib.hid (keep_row f3 b4)
  have G4 := Lib.hid f4
  have SP := Lib.hid (show w.heap.size ≤ w2.heap.size ∧ w2.heap.size < w3.heap.size ∧ w3.heap.size < w4.heap.size by omega)
  have RK := Lib.hid (And.intro (HK.below B4.out) (HV.below B4.out))
  have RK2 := Lib.hid (And.intro (HK2.below B4.out) (HV2.below B4.out))
  have HM := Lib.hid (And.intro hm (And.intro hm2 hq))
  have HD := Lib.hid (And.intro hh hd)
  have HJ := Lib.hid hJ
  have HC := Lib.hid (And.intro hk hn)
  have HC2 := Lib.hid (And.intro hk2 hn2)
  have HS := Lib.hid hs
  clear b1 f1 s1 b2 f2 s2 b3 f3 s3 b4 f4 s4 HK HV HK2 HV2 hm hm2 hq hh hd hJ hk hn hk2 hn2 hs
  go_enter Try.func23, Try.ntmps23
  go_wp2_with (first | ((with_reducible refine wpList_load_row rfl 24 (.tmp 2) rfl w.heap.size ?_ 24 _ _ _ P4.out Try.underlying24 ?_ (size3 _ _ _) ?_); rfl; rfl) | ((with_reducible refine wpList_load_row rfl 24 (.tmp 3) rfl w1.heap.size ?_ 24 _ _ _ Q4.out Try.underlying24 ?_ (size3 _ _ _) ?_); rfl; rfl))
  clear hw1 hw2 hw3 hw4
  refine (join_at L L2 Ks Vs K2 V2 ak av ak2 av2 nk ck nv cv nk2 ck2 nv2 cv2 m m2 q _ RK.out.1 RK.out.2 RK2.out.1 RK2.out.2 HM.out.1 HM.out.2.1 HM.out.2.2 HC.out.1 HC.out.2 HC2.out.1 HC2.out.2 HS.out).mono ?_; rintro e w5 ⟨A5, c5, B5', d5, rfl, ho, hb⟩
  rw [HJ.out.1, HJ.out.2] at ho
  have OW5 := Lib.hid ho
  have B5 := Lib.hid (below_then' B4.out hb)
  have F5 := Lib.hid (keep_row F4.out hb)
  have G5 := Lib.hid (keep_row G4.out hb)
  have SP5 := Lib.hid (show w4.heap.size ≤ w5.heap.size from hb.size)
  have HJL := Lib.hid (And.intro ho.k.1 ho.v.1)
  clear ho hb
  go_wp2_with fail
  refine (split_at L JK JV A5 B5' q c5 q d5 q h d _ (mine_reads OW5.out.k) (mine_reads OW5.out.v) (Nat.min_self q) HD.out.1 HD.out.2 ⟨OW5.out.lk, OW5.out.lv⟩ ⟨fun h => (OW5.out.nk h).2, fun h => (OW5.out.nv h).2⟩ HS.out).mono ?_
  rintro e w6 ⟨A6, c6, A6', c6', D6, k6, D6', k6', rfl, o1, o2, g1, g2, g3, g4, hb⟩
  rw [List.take_of_length_le (l := JK) (by rw [HJL.out.1]; exact Nat.le_refl _), List.take_of_length_le (l := JV) (by rw [HJL.out.2]; exact Nat.le_refl _)] at o1 o2
  have O1 := Lib.hid o1
  have O2 := Lib.hid o2
  have FA := Lib.hid (And.intro g1 (And.intro g2 (And.intro g3 g4)))
  have B6 := Lib.hid (below_then' B5.out hb)
  have F6 := Lib.hid (keep_row F5.out hb)
  have G6 := Lib.hid (keep_row G5.out hb)
  clear o1 o2 g1 g2 g3 g4 hb
  obtain ⟨w7, hw7⟩ : ∃ w7, w6.setRow w2.heap.size #[.bool L, .slice A6 h c6, .slice A6' h c6'] = w7 := ⟨_, rfl⟩
  have hne : w3.heap.size ≠ w2.heap.size := by have := SP.out; omega
  have G7 := Lib.hid (show w7.heap[w3.heap.size]? = some (.cells #[.bool false, .slice none 0 0, .slice none 0 0] 24) by rw [← hw7, setRow_other _ _ _ _ hne]; exact G6.out)
  have F7 := Lib.hid (show w7.heap[w2.heap.size]? = some (.cells #[.bool L, .slice A6 h c6, .slice A6' h c6'] 24) by rw [← hw7]; exact setRow_heap _ _ _ _ _ _ F6.out)
  have HW7 := Lib.hid hw7
  have HNE := Lib.hid hne
  clear hne
  go_wp2_with (first | ((with_reducible refine wpList_store_row rfl 24 (.tmp 4) (.tmp 10) rfl w2.heap.size #[.bool L, .slice A6 h c6, .slice A6' h c6'] ?_ ?_ 24 _ F6.out (size3 _ _ _) ?_ (one3 _ _ _ _ _ _ _) ?_); rfl; rfl; rfl; rw [hw7]) | ((with_reducible refine wpList_store_row rfl 24 (.tmp 5) (.tmp 11) rfl w3.heap.size #[.bool L, .slice D6 d k6, .slice D6' d k6'] ?_ ?_ 24 _ G7.out (size3 _ _ _) ?_ (one3 _ _ _ _ _ _ _) ?_); rfl; rfl; rfl))
  have l1 : w2.heap.size < w5.heap.size ∧ w3.heap.size < w5.heap.size ∧ w.heap.size ≤ w2.heap.size ∧ w.heap.size ≤ w3.heap.size ∧ w.heap.size ≤ w5.heap.size := by have h1 := SP.out; have h2 := SP5.out; omega
  have o1 := own2_weaken (own2_setRow (own2_setRow O1.out l1.1 #[.bool L, .slice A6 h c6, .slice A6' h c6']) l1.2.1 #[.bool L, .slice D6 d k6, .slice D6' d k6']) l1.2.2.2.2
  have o2 := own2_weaken (own2_setRow (own2_setRow O2.out l1.1 #[.bool L, .slice A6 h c6, .slice A6' h c6']) l1.2.1 #[.bool L, .slice D6 d k6, .slice D6' d k6']) l1.2.2.2.2
  rw [HW7.out] at o1 o2
  exact ret_cc 4 5 rfl w2.heap.size w3.heap.size _ _ (0, 0) (0, 0) rfl rfl (by rw [setRow_other _ _ _ _ (Ne.symm HNE.out)]; exact F7.out) (setRow_heap _ _ _ _ _ _ G7.out) rfl rfl rfl ⟨A6, c6, A6', c6', D6, k6, D6', k6', rfl, o1, o2, FA.out.1, FA.out.2.1, FA.out.2.2.1, FA.out.2.2.2, below_setRow (by rw [← HW7.out]; exact below_setRow B6.out l1.2.2.1 _) l1.2.2.2.1 _⟩
end Go.Proofs.Ytdekplalhfpooaa.Knt
