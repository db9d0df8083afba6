/- A node's form: the document's eight and Put (every input). -/
import Derived.Test.YtdekplalhfpooaaNodG
set_option linter.unusedVariables false
set_option linter.unusedSimpArgs false
namespace Go.Proofs.Ytdekplalhfpooaa.Nod
open Go Go.RowKit Go.Proofs.YtdekplalhfpooaaW.PrintWords Go.Proofs.YtdekplalhfpooaaW.PrintLast Go.Proofs.YtdekplalhfpooaaW.PrintMore Base Odr Hlp

theorem be_getElem (n : Int) (size i : Nat) (h : i < size) (h' : i < (be n size).length) : (be n size)[i] = n / (2 : Int) ^ (8 * (size - 1 - i)) % 256 := by simp [be]
theorem mid_set (m y : List Int) (i k : Nat) (hm : m.length = k) (hy : y.length = k) (hi : i < k) : (m.take (i + 1) ++ y.drop (i + 1)).set i (y[i]'(by omega)) = m.take i ++ y.drop i := by
  rw [List.take_succ_eq_append_getElem (by omega), List.append_assoc, List.set_append_right _ _ (by rw [List.length_take]; omega), List.length_take, show i - min i m.length = 0 by omega]
  rw [List.drop_eq_getElem_cons (show i < y.length by omega)]
  rfl
theorem pow8 (j : Nat) : (2 : Int) ^ (8 * (j + 1)) = 256 * (2 : Int) ^ (8 * j) := by
  rw [show 8 * (j + 1) = 8 * j + 8 by omega, Int.pow_add]; omega
theorem pow8_pos (j : Nat) : 0 < (2 : Int) ^ (8 * j) := Int.pow_pos (by decide)
theorem div_step (m : Int) (j : Nat) : m / (2 : Int) ^ (8 * (j + 1)) = m / (2 : Int) ^ (8 * j) / 256 := by
  rw [pow8, Int.mul_comm, ← Int.ediv_ediv_of_nonneg (Int.le_of_lt (pow8_pos j))]
theorem div_bound (m : Int) (j : Nat) (b : Int) (h0 : 0 ≤ m) (h1 : m < b) : 0 ≤ m / (2 : Int) ^ (8 * j) ∧ m / (2 : Int) ^ (8 * j) < b := by
  have hp := pow8_pos j
  refine ⟨Int.ediv_nonneg h0 (Int.le_of_lt hp), Int.lt_of_le_of_lt (Int.ediv_le_self _ h0) h1⟩
set_option maxRecDepth 100000 in
set_option maxHeartbeats 1600000 in
theorem eight_any (n : Int) (w : World) (h0 : 0 ≤ n) (h1 : n < 18446744073709551616) :
    Calls Try.prog 54 #[.int .u64 n] w fun e w' => ∃ A c, e = .returned (.slice A 8 c) ∧ w'.ownsRow w.heap.size 5 1 (.slice A 8 c) 8 (nums .u8 (be n 8)) ∧ Below w.heap.size w w' := by
  have hmk' := made8 8 (by omega)
  have hmk : ∀ W : World, (Instr.makeSlice 41 (.int .i64 8) (.int .i64 8)).run Try.prog W = .ok (.slice (some ⟨W.heap.size, 0, none⟩) 8 8) (W.alloc (.cells (madeCells #[.int .u8 0] 8) 5)) := hmk'
  clear hmk'
  obtain ⟨w1, hw1, b1, f1, s1⟩ := made w (madeCells #[.int .u8 0] 8) 5
  have O1 := Lib.hid (show w1.ownsRow w.heap.size 5 1 (.slice (some ⟨w.heap.size, 0, none⟩) 8 8) 8 (nums .u8 (List.replicate 8 0)) by rw [← hw1]; exact own_made w w.heap.size 5 .u8 8 (Nat.le_refl _) (by omega))
  have B1 := Lib.hid b1
  clear b1 f1 s1
  obtain ⟨m, hm⟩ : ∃ m, m = List.replicate 8 (0 : Int) := ⟨_, rfl⟩
  have HM := Lib.hid (show m.length = 8 by rw [hm]; simp)
  rw [← hm] at O1
  clear hm
  go_enter Try.func54, Try.ntmps54
  go_wp2_with fail
  go_loopw [0, 4] (fun v i wr => ∃ q : Nat, q ≤ 8 ∧ i = .int .i64 ((q : Int) - 1) ∧ v = .int .u64 (n / (2 : Int) ^ (8 * (8 - q))) ∧ wr.ownsRow w.heap.size 5 1 (.slice (some ⟨w.heap.size, 0, none⟩) 8 8) 8 (nums .u8 (m.take q ++ (be n 8).drop q)) ∧ Below w.heap.size w wr) (fun _ i _ => (intOf i + 1).toNat)
  case atStart =>
    refine ⟨8, by omega, rfl, by simp, ?_, B1.out⟩
    rw [List.take_of_length_le (by rw [HM.out]; omega), List.drop_of_length_le (by rw [be_length]; omega), List.append_nil]
    exact O1.out
  case round =>
    obtain ⟨q, hq, rfl, rfl, ho, hb⟩ := hrel
    have HO1 := Lib.hid ho
    have HB1 := Lib.hid hb
    clear ho hb hw1
    by_cases hlt : 0 < q
    · obtain ⟨i, rfl⟩ : ∃ i, q = i + 1 := ⟨q - 1, by omega⟩
      have hd := div_bound n (8 - (i + 1)) 18446744073709551616 h0 h1
      have hst := div_step n (8 - (i + 1))
      rw [show 8 - (i + 1) + 1 = 8 - i by omega] at hst
      have hse : (m.take (i + 1) ++ (be n 8).drop (i + 1)).set i (n / (2 : Int) ^ (8 * (8 - (i + 1))) % 256) = m.take i ++ (be n 8).drop i := by
        have e1 : n / (2 : Int) ^ (8 * (8 - (i + 1))) % 256 = (be n 8)[i]'(by rw [be_length]; omega) := by rw [be_getElem n 8 i (by omega)]; congr 4; omega
        rw [e1, mid_set m (be n 8) i 8 HM.out (be_length _ _) (by omega)]
      obtain ⟨y, hy⟩ : ∃ y, n / (2 : Int) ^ (8 * (8 - (i + 1))) = y := ⟨_, rfl⟩
      rw [hy] at hd hst hse ⊢
      obtain ⟨y0, y1⟩ := hd
      have HST := Lib.hid hst
      have HSE := Lib.hid hse
      have hat := own_at HO1.out (i : Int) (by omega) (by omega)
      have ea : wr.cell? ⟨w.heap.size, i, none⟩ = some (.int .u8 (rd (m.take (i + 1) ++ (be n 8).drop (i + 1)) (i : Int))) := hat.1
      have eb : wr.frozen? ⟨w.heap.size, i, none⟩ = false := hat.2
      have hos := (own_store HO1.out (i : Int) (y % 256)).1
      rw [Int.toNat_natCast, HSE.out] at hos
      have HOS := Lib.hid hos
      obtain ⟨z, hz⟩ : ∃ z, rd (m.take (i + 1) ++ (be n 8).drop (i + 1)) (i : Int) = z := ⟨_, rfl⟩
      rw [hz] at ea
      clear hat hy hst hse hos hz
      go_wp2_with fail
      go_roundw
      case rel =>
        exact ⟨i, by omega, rfl, by rw [HST.out], HOS.out, HB1.out.setCell (Nat.le_refl _) _⟩
      case measure => simp [intOf]
    · obtain rfl : q = 0 := by omega
      go_wp2_with fail
      go_ret
      refine ⟨_, _, rfl, ?_, HB1.out⟩
      have h := HO1.out
      rw [List.take_zero, List.drop_zero, List.nil_append] at h
      exact h
theorem rmay_at {b : Bool} (L : Bool) {K V : List Int} {ak av : Option Addr} {nk ck nv cv : Nat} (w : World) (HK : ReadsInt w .u64 ak nk K) (HV : ReadsInt w .u64 av nv V) (hwv : ∀ x ∈ V, (Lit.int .u64 x).wf = true) (h : mayN K V = b) :
    Calls Try.prog 34 #[.agg #[.bool L, .slice ak nk ck, .slice av nv cv]] w fun e w' => e = .returned (.bool b) ∧ Below w.heap.size w w' := by
  subst h; exact rmay_any L K V ak av nk ck nv cv w HK HV hwv
set_option maxRecDepth 100000 in
set_option maxHeartbeats 1600000 in
theorem rput_no (L : Bool) (K V : List Int) (ak av : Option Addr) (nk ck nv cv : Nat) (w : World) (HK : ReadsInt w .u64 ak nk K) (HV : ReadsInt w .u64 av nv V) (hwv : ∀ x ∈ V, (Lit.int .u64 x).wf = true) (hm : mayN K V = false) :
    Calls Try.prog 30 #[.agg #[.bool L, .slice ak nk ck, .slice av nv cv]] w fun e w' => e = .returned (.tuple #[.slice none 0 0, .int .i64 1]) ∧ Below w.heap.size w w' := by
  obtain ⟨w1, hw1, b1, f1, s1⟩ := made w #[.bool L, .slice ak nk ck, .slice av nv cv] 24
  have B1 := Lib.hid b1
  have F1 := Lib.hid f1
  have RK := Lib.hid (ReadsInt.below HK b1)
  have RV := Lib.hid (ReadsInt.below HV b1)
  have HM := Lib.hid hm
  have WV := Lib.hid hwv
  clear HK HV b1 f1 s1 hm hwv
  go_enter Try.func30, Try.ntmps30
  go_wp2_with ((with_reducible refine wpList_load_row rfl 24 (.tmp 1) rfl w.heap.size ?_ 24 _ _ _ F1.out Try.underlying24 ?_ (size3 _ _ _) ?_); rfl; rfl)
  refine (rmay_at L _ RK.out RV.out WV.out HM.out).mono ?_; rintro e w2 ⟨rfl, hb⟩
  have B2 := Lib.hid (below_then B1.out B1.out.size hb)
  clear hb
  go_wp2_with fail
  go_ret2
  exact ⟨rfl, B2.out⟩

set_option maxRecDepth 100000 in
set_option maxHeartbeats 3200000 in
theorem rput_ok (L : Bool) (K V : List Int) (ak av : Option Addr) (nk ck nv cv : Nat) (w : World) (HK : ReadsInt w .u64 ak nk K) (HV : ReadsInt w .u64 av nv V) (hwk : ∀ x ∈ K, (Lit.int .u64 x).wf = true) (hwv : ∀ x ∈ V, (Lit.int .u64 x).wf = true) (hm : mayN K V = true) :
    Calls Try.prog 30 #[.agg #[.bool L, .slice ak nk ck, .slice av nv cv]] w fun e w' => ∃ A' c', e = .returned (.tuple #[.slice A' (2 + 16 * nk) c', .int .i64 0]) ∧ w'.ownsRow w.heap.size 5 1 (.slice A' (2 + 16 * nk) c') (2 + 16 * nk) (nums .u8 (formN L K V)) ∧ Below w.heap.size w w' := by
  obtain ⟨w1, hw1, b1, f1, s1⟩ := made w #[.bool L, .slice ak nk ck, .slice av nv cv] 24
  have B1 := Lib.hid b1
  have F1 := Lib.hid f1
  have LK := Lib.hid HK.1
  have LV := Lib.hid HV.1
  have RK := Lib.hid (ReadsInt.below HK b1)
  have RV := Lib.hid (ReadsInt.below HV b1)
  have HM := Lib.hid hm
  have WK := Lib.hid hwk
  have WV := Lib.hid hwv
  have HL := Lib.hid (may_le hm)
  have S1 := Lib.hid s1
  clear HK HV b1 f1 s1 hm hwv hwk
  go_enter Try.func30, Try.ntmps30
  go_wp2_with ((with_reducible refine wpList_load_row rfl 24 (.tmp 1) rfl w.heap.size ?_ 24 _ _ _ F1.out Try.underlying24 ?_ (size3 _ _ _) ?_); rfl; rfl)
  refine (rmay_at L _ RK.out RV.out WV.out HM.out).mono ?_; rintro e w2 ⟨rfl, hb⟩
  have f2 := keep_row F1.out hb
  obtain ⟨w3, hw3, b3, f3, s3⟩ := made w2 #[.int .u8 0] 5
  have c03 : w3.cell? ⟨w.heap.size, 0, none⟩ = some (.bool L) := cell_row (keep_row f2 b3) rfl
  have hn8 : (nk : Int) ≤ 8 := by have := HL.out.2.1; have := LK.out; omega
  have F2 := Lib.hid f2
  have B2 := Lib.hid (below_then B1.out B1.out.size hb)
  have K2 := Lib.hid (ReadsInt.below RK.out hb)
  have V2 := Lib.hid (ReadsInt.below RV.out hb)
  have D3 := Lib.hid b3
  clear hb f2 RK RV F1 b3 f3 s3
  cases L
  · skip
    have O3 := Lib.hid (show w3.ownsRow w2.heap.size 5 1 (.slice (some ⟨w2.heap.size, 0, none⟩) 1 1) 1 (nums .u8 [0]) by rw [← hw3]; exact own_lit w2 w2.heap.size 5 .u8 [0] (Nat.le_refl _) (by simp))
    have c1w : w3.cell? ⟨w.heap.size, 1, none⟩ = some (.slice ak nk ck) := cell_row (keep_row F2.out D3.out) rfl
    go_wp2_with (at_builtin; refine print_append_num (w0 := w2) (W := w3) w2.heap.size rfl (.tmp 14) (.tmp 19) 41 5 .u8 1 rfl Try.underlying41 info8 (by omega) (.slice (some ⟨w2.heap.size, 0, none⟩) 1 1) [0] (nk : Int) rfl (by simp [Act.eval, Act.put]) O3.out D3.out D3.out.size (by simp) ?_)
    intro v5 w5 hown hb hg hat
    have hown' : w5.ownsRow w2.heap.size 5 1 v5 2 (nums .u8 (headN false nk)) := hown
    obtain ⟨A5, c5, rfl⟩ := own_slice hown'
    have O5 := Lib.hid hown'
    have D5 := Lib.hid hb
    clear hown hown' hb hg hat c1w
    go_wp2_with fail
    go_loopw [4, 5] (fun v i wr => ∃ (j n : Nat) (A : Option Addr) (c : Nat), j ≤ nk ∧ i = .int .i64 (j : Int) ∧ n = 2 + 16 * j ∧ v = .slice A n c ∧ wr.ownsRow w2.heap.size 5 1 (.slice A n c) n (nums .u8 (headN false nk ++ pairsTo K V j)) ∧ Below w2.heap.size w2 wr) (fun _ i _ => nk - (intOf i).toNat)
    case atStart => exact ⟨0, 2, _, _, by omega, rfl, rfl, rfl, O5.out, D5.out⟩
    case round =>
      obtain ⟨j, n, A, c, hj, rfl, hn, rfl, hown, hbel⟩ := hrel
      have HO := Lib.hid hown
      have HB := Lib.hid hbel
      have HN := Lib.hid hn
      have c1r : wr.cell? ⟨w.heap.size, 1, none⟩ = some (.slice ak nk ck) := cell_row (keep_row F2.out hbel) rfl
      clear hown hbel hn O5 D5 c03
      by_cases hlt : j < nk
      · have hjv : (j : Int) < (nk : Int) := by omega
        have hjv' : (j : Int) < (nv : Int) := by have := HL.out.2.2; have := LK.out; have := LV.out; omega
        have hjd : decide ((j : Int) < (nk : Int)) = true := decide_eq_true hjv
        obtain ⟨ad, rfl, hc0⟩ := cell_at (ReadsInt.below K2.out HB.out) j hlt
        obtain ⟨bd, rfl, hc1⟩ := cell_at (ReadsInt.below V2.out HB.out) j (by have := HL.out.2.2; have := LK.out; have := LV.out; omega)
        obtain ⟨x, hx⟩ : ∃ x, x = K.getD j 0 := ⟨_, rfl⟩
        obtain ⟨y, hy⟩ : ∃ y, y = V.getD j 0 := ⟨_, rfl⟩
        rw [← hx] at hc0
        rw [← hy] at hc1
        have hxr := le_of_wfu64 (WK.out x (by rw [hx, List.getD_eq_getElem?_getD, List.getElem?_eq_getElem (show j < K.length by have := LK.out; omega)]; exact List.getElem_mem _))
        have hyr := le_of_wfu64 (WV.out y (by rw [hy, List.getD_eq_getElem?_getD, List.getElem?_eq_getElem (show j < V.length by have := HL.out.2.2; have := LK.out; omega)]; exact List.getElem_mem _))
        have HX := Lib.hid hx
        have HY := Lib.hid hy
        have HXR := Lib.hid hxr
        have HYR := Lib.hid hyr
        have C1 := Lib.hid hc1
        have HLN := Lib.hid (show (headN false nk ++ pairsTo K V j).length = n by rw [List.length_append, pairs_len, HN.out]; rfl)
        have HS := Lib.hid (show n + 16 ≤ 1000 by have := HN.out; omega)
        obtain ⟨pre, hpre⟩ : ∃ pre, pre = headN false nk ++ pairsTo K V j := ⟨_, rfl⟩
        rw [← hpre] at HO HLN
        have HPRE := Lib.hid hpre
        clear hx hy hc1 hj hxr hyr hpre
        go_wp2_with fail
        refine (eight_any x _ HXR.out.1 HXR.out.2).mono ?_; rintro e w6 ⟨A6, c6, rfl, ho, hb⟩
        have R6 := Lib.hid (reads_own_of ho (be_length _ _) rfl)
        have O6 := Lib.hid (pw_own_below HO.out hb)
        have D6 := Lib.hid (below_then HB.out HB.out.size hb)
        have X1 := Lib.hid (pw_cell_below hb C1.out)
        clear ho hb
        go_wp2_with (at_builtin; refine print_append_row (w0 := w2) (W := w6) w2.heap.size rfl _ _ 41 5 .u8 1 rfl Try.underlying41 info8 (by omega) (.slice A n c) pre (be x 8) A6 8 c6 rfl rfl (by rw [HLN.out]; exact O6.out) R6.out D6.out D6.out.size (by rw [HLN.out]; have := HS.out; omega) ?_)
        intro v7 w7 hown hb hg hat
        have hown' : w7.ownsRow w2.heap.size 5 1 v7 (n + 8) (nums .u8 (pre ++ be x 8)) := by
          have h := hown
          rw [← List.length_append] at h
          rw [show (pre ++ be x 8).length = n + 8 by rw [List.length_append, HLN.out, be_length]] at h
          exact h
        obtain ⟨A7, c7, rfl⟩ := own_slice hown'
        have O7 := Lib.hid hown'
        have D7 := Lib.hid hb
        have c27 : w7.cell? ⟨w.heap.size, 2, none⟩ = some (.slice (some bd) nv cv) := cell_row (keep_row F2.out hb) rfl
        have X7 : w7.cell? (bd.add j) = some (.int .u64 y) := by
          obtain ⟨bd', e1, hc⟩ := cell_at (ReadsInt.below V2.out hb) j (by have := HL.out.2.2; have := LK.out; have := LV.out; omega)
          cases e1
          rw [HY.out]; exact hc
        clear hown hown' hb hg hat
        go_wp2_with fail
        refine (eight_any y _ HYR.out.1 HYR.out.2).mono ?_; rintro e w8 ⟨A8, c8, rfl, ho, hb⟩
        have R8 := Lib.hid (reads_own_of ho (be_length _ _) rfl)
        have O8 := Lib.hid (pw_own_below O7.out hb)
        have D8 := Lib.hid (below_then D7.out D7.out.size hb)
        clear ho hb c27 X7
        have HLN8 := Lib.hid (show (pre ++ be x 8).length = n + 8 by rw [List.length_append, HLN.out, be_length])
        go_wp2_with (at_builtin; refine print_append_row (w0 := w2) (W := w8) w2.heap.size rfl _ _ 41 5 .u8 1 rfl Try.underlying41 info8 (by omega) (.slice A7 (n + 8) c7) (pre ++ be x 8) (be y 8) A8 8 c8 rfl rfl (by rw [HLN8.out]; exact O8.out) R8.out D8.out D8.out.size (by rw [HLN8.out]; have := HS.out; omega) ?_)
        intro v9 w9 hown hb hg hat
        have hown' : w9.ownsRow w2.heap.size 5 1 v9 (n + 8 + 8) (nums .u8 (pre ++ be x 8 ++ be y 8)) := by
          have h := hown
          rw [← List.length_append, ← List.length_append, ← List.append_assoc] at h
          rw [show (pre ++ be x 8 ++ be y 8).length = n + 8 + 8 by rw [List.length_append, HLN8.out, be_length]] at h
          exact h
        obtain ⟨A9, c9, rfl⟩ := own_slice hown'
        have O9 := Lib.hid hown'
        have D9 := Lib.hid hb
        clear hown hown' hb hg hat
        go_wp2_with fail
        go_roundw
        case rel =>
          refine ⟨j + 1, n + 8 + 8, A9, c9, by omega, by go_num, by have := HN.out; omega, rfl, ?_, D9.out⟩
          have h := O9.out
          rw [pairs_succ, ← HX.out, ← HY.out]
          rw [HPRE.out] at h
          simpa only [List.append_assoc] using h
        case measure => simp [intOf]; omega
      · obtain rfl : j = nk := by omega
        have hjd : decide ((j : Int) < (j : Int)) = false := by simp
        clear hj hlt
        go_wp2_with fail
        go_ret2
        refine ⟨A, c, ?_, ?_, below_then B2.out B2.out.size HB.out⟩
        · rw [← HN.out]; rfl
        · have h := own_weaken HO.out B2.out.size
          rw [HN.out] at h
          simpa only [formN, LK.out] using h
  · skip
    have O3 := Lib.hid (show w3.ownsRow w2.heap.size 5 1 (.slice (some ⟨w2.heap.size, 0, none⟩) 1 1) 1 (nums .u8 [0]) by rw [← hw3]; exact own_lit w2 w2.heap.size 5 .u8 [0] (Nat.le_refl _) (by simp))
    obtain ⟨a3, z3⟩ := own_at O3.out 0 (by omega) (by omega)
    have a3' : w3.cell? ⟨w2.heap.size, 0, none⟩ = some (.int .u8 0) := a3
    have z3' : w3.frozen? ⟨w2.heap.size, 0, none⟩ = false := z3
    obtain ⟨w4, hw4⟩ : ∃ w4, w3.setCell ⟨w2.heap.size, 0, none⟩ (.int .u8 1) = w4 := ⟨_, rfl⟩
    have O4 := Lib.hid (show w4.ownsRow w2.heap.size 5 1 (.slice (some ⟨w2.heap.size, 0, none⟩) 1 1) 1 (nums .u8 [1]) by rw [← hw4]; exact (own_store O3.out 0 1).1)
    have D4 := Lib.hid (show Below w2.heap.size w2 w4 by rw [← hw4]; exact D3.out.setCell (Nat.le_refl _) _)
    clear a3 z3
    have c1w : w4.cell? ⟨w.heap.size, 1, none⟩ = some (.slice ak nk ck) := cell_row (keep_row F2.out D4.out) rfl
    go_wp2_with (at_builtin; refine print_append_num (w0 := w2) (W := w4) w2.heap.size rfl (.tmp 14) (.tmp 19) 41 5 .u8 1 rfl Try.underlying41 info8 (by omega) (.slice (some ⟨w2.heap.size, 0, none⟩) 1 1) [1] (nk : Int) rfl (by simp [Act.eval, Act.put]) O4.out D4.out D4.out.size (by simp) ?_)
    intro v5 w5 hown hb hg hat
    have hown' : w5.ownsRow w2.heap.size 5 1 v5 2 (nums .u8 (headN true nk)) := hown
    obtain ⟨A5, c5, rfl⟩ := own_slice hown'
    have O5 := Lib.hid hown'
    have D5 := Lib.hid hb
    clear hown hown' hb hg hat c1w
    go_wp2_with fail
    go_loopw [4, 5] (fun v i wr => ∃ (j n : Nat) (A : Option Addr) (c : Nat), j ≤ nk ∧ i = .int .i64 (j : Int) ∧ n = 2 + 16 * j ∧ v = .slice A n c ∧ wr.ownsRow w2.heap.size 5 1 (.slice A n c) n (nums .u8 (headN true nk ++ pairsTo K V j)) ∧ Below w2.heap.size w2 wr) (fun _ i _ => nk - (intOf i).toNat)
    case atStart => exact ⟨0, 2, _, _, by omega, rfl, rfl, rfl, O5.out, D5.out⟩
    case round =>
      obtain ⟨j, n, A, c, hj, rfl, hn, rfl, hown, hbel⟩ := hrel
      have HO := Lib.hid hown
      have HB := Lib.hid hbel
      have HN := Lib.hid hn
      have c1r : wr.cell? ⟨w.heap.size, 1, none⟩ = some (.slice ak nk ck) := cell_row (keep_row F2.out hbel) rfl
      clear hown hbel hn O5 D5 c03
      by_cases hlt : j < nk
      · have hjv : (j : Int) < (nk : Int) := by omega
        have hjv' : (j : Int) < (nv : Int) := by have := HL.out.2.2; have := LK.out; have := LV.out; omega
        have hjd : decide ((j : Int) < (nk : Int)) = true := decide_eq_true hjv
        obtain ⟨ad, rfl, hc0⟩ := cell_at (ReadsInt.below K2.out HB.out) j hlt
        obtain ⟨bd, rfl, hc1⟩ := cell_at (ReadsInt.below V2.out HB.out) j (by have := HL.out.2.2; have := LK.out; have := LV.out; omega)
        obtain ⟨x, hx⟩ : ∃ x, x = K.getD j 0 := ⟨_, rfl⟩
        obtain ⟨y, hy⟩ : ∃ y, y = V.getD j 0 := ⟨_, rfl⟩
        rw [← hx] at hc0
        rw [← hy] at hc1
        have hxr := le_of_wfu64 (WK.out x (by rw [hx, List.getD_eq_getElem?_getD, List.getElem?_eq_getElem (show j < K.length by have := LK.out; omega)]; exact List.getElem_mem _))
        have hyr := le_of_wfu64 (WV.out y (by rw [hy, List.getD_eq_getElem?_getD, List.getElem?_eq_getElem (show j < V.length by have := HL.out.2.2; have := LK.out; omega)]; exact List.getElem_mem _))
        have HX := Lib.hid hx
        have HY := Lib.hid hy
        have HXR := Lib.hid hxr
        have HYR := Lib.hid hyr
        have C1 := Lib.hid hc1
        have HLN := Lib.hid (show (headN true nk ++ pairsTo K V j).length = n by rw [List.length_append, pairs_len, HN.out]; rfl)
        have HS := Lib.hid (show n + 16 ≤ 1000 by have := HN.out; omega)
        obtain ⟨pre, hpre⟩ : ∃ pre, pre = headN true nk ++ pairsTo K V j := ⟨_, rfl⟩
        rw [← hpre] at HO HLN
        have HPRE := Lib.hid hpre
        clear hx hy hc1 hj hxr hyr hpre
        go_wp2_with fail
        refine (eight_any x _ HXR.out.1 HXR.out.2).mono ?_; rintro e w6 ⟨A6, c6, rfl, ho, hb⟩
        have R6 := Lib.hid (reads_own_of ho (be_length _ _) rfl)
        have O6 := Lib.hid (pw_own_below HO.out hb)
        have D6 := Lib.hid (below_then HB.out HB.out.size hb)
        have X1 := Lib.hid (pw_cell_below hb C1.out)
        clear ho hb
        go_wp2_with (at_builtin; refine print_append_row (w0 := w2) (W := w6) w2.heap.size rfl _ _ 41 5 .u8 1 rfl Try.underlying41 info8 (by omega) (.slice A n c) pre (be x 8) A6 8 c6 rfl rfl (by rw [HLN.out]; exact O6.out) R6.out D6.out D6.out.size (by rw [HLN.out]; have := HS.out; omega) ?_)
        intro v7 w7 hown hb hg hat
        have hown' : w7.ownsRow w2.heap.size 5 1 v7 (n + 8) (nums .u8 (pre ++ be x 8)) := by
          have h := hown
          rw [← List.length_append] at h
          rw [show (pre ++ be x 8).length = n + 8 by rw [List.length_append, HLN.out, be_length]] at h
          exact h
        obtain ⟨A7, c7, rfl⟩ := own_slice hown'
        have O7 := Lib.hid hown'
        have D7 := Lib.hid hb
        have c27 : w7.cell? ⟨w.heap.size, 2, none⟩ = some (.slice (some bd) nv cv) := cell_row (keep_row F2.out hb) rfl
        have X7 : w7.cell? (bd.add j) = some (.int .u64 y) := by
          obtain ⟨bd', e1, hc⟩ := cell_at (ReadsInt.below V2.out hb) j (by have := HL.out.2.2; have := LK.out; have := LV.out; omega)
          cases e1
          rw [HY.out]; exact hc
        clear hown hown' hb hg hat
        go_wp2_with fail
        refine (eight_any y _ HYR.out.1 HYR.out.2).mono ?_; rintro e w8 ⟨A8, c8, rfl, ho, hb⟩
        have R8 := Lib.hid (reads_own_of ho (be_length _ _) rfl)
        have O8 := Lib.hid (pw_own_below O7.out hb)
        have D8 := Lib.hid (below_then D7.out D7.out.size hb)
        clear ho hb c27 X7
        have HLN8 := Lib.hid (show (pre ++ be x 8).length = n + 8 by rw [List.length_append, HLN.out, be_length])
        go_wp2_with (at_builtin; refine print_append_row (w0 := w2) (W := w8) w2.heap.size rfl _ _ 41 5 .u8 1 rfl Try.underlying41 info8 (by omega) (.slice A7 (n + 8) c7) (pre ++ be x 8) (be y 8) A8 8 c8 rfl rfl (by rw [HLN8.out]; exact O8.out) R8.out D8.out D8.out.size (by rw [HLN8.out]; have := HS.out; omega) ?_)
        intro v9 w9 hown hb hg hat
        have hown' : w9.ownsRow w2.heap.size 5 1 v9 (n + 8 + 8) (nums .u8 (pre ++ be x 8 ++ be y 8)) := by
          have h := hown
          rw [← List.length_append, ← List.length_append, ← List.append_assoc] at h
          rw [show (pre ++ be x 8 ++ be y 8).length = n + 8 + 8 by rw [List.length_append, HLN8.out, be_length]] at h
          exact h
        obtain ⟨A9, c9, rfl⟩ := own_slice hown'
        have O9 := Lib.hid hown'
        have D9 := Lib.hid hb
        clear hown hown' hb hg hat
        go_wp2_with fail
        go_roundw
        case rel =>
          refine ⟨j + 1, n + 8 + 8, A9, c9, by omega, by go_num, by have := HN.out; omega, rfl, ?_, D9.out⟩
          have h := O9.out
          rw [pairs_succ, ← HX.out, ← HY.out]
          rw [HPRE.out] at h
          simpa only [List.append_assoc] using h
        case measure => simp [intOf]; omega
      · obtain rfl : j = nk := by omega
        have hjd : decide ((j : Int) < (j : Int)) = false := by simp
        clear hj hlt
        go_wp2_with fail
        go_ret2
        refine ⟨A, c, ?_, ?_, below_then B2.out B2.out.size HB.out⟩
        · rw [← HN.out]; rfl
        · have h := own_weaken HO.out B2.out.size
          rw [HN.out] at h
          simpa only [formN, LK.out] using h
end Go.Proofs.Ytdekplalhfpooaa.Nod
