/- Whether two lists, two nodes are the same: the program's and the document's answer (every input). -/
import Derived.Test.YtdekplalhfpooaaNodA
import Derived.Deep.QuietTactic
import Derived.BigQuiet
set_option linter.unusedVariables false
set_option linter.unusedSimpArgs false
namespace Go.Proofs.Ytdekplalhfpooaa.Nod
open Go Go.RowKit Go.Proofs.YtdekplalhfpooaaW.PrintWords Go.Proofs.YtdekplalhfpooaaW.PrintLast Go.Proofs.YtdekplalhfpooaaW.PrintMore Base Odr Hlp

theorem drewN_add (w : World) (m n : Nat) : (w.drewN m).drewN n = w.drewN (m + n) := by simp [World.drewN, Nat.add_assoc]
theorem drewN_zero (w : World) : w.drewN 0 = w := rfl
theorem below_dn {B : Nat} {w W : World} (h : Below B w W) (n : Nat) : Below B w (W.drewN n) := h.trans ⟨rfl, rfl, rfl, Nat.le_refl _, fun _ _ => rfl⟩
theorem reads_dn {w : World} {k : IntKind} {A : Option Addr} {n : Nat} {xs : List Int} (h : ReadsInt w k A n xs) (m : Nat) : ReadsInt (w.drewN m) k A n xs := h
theorem take_same {X Y : List Int} {j : Nat} (hx : j < X.length) (hy : j < Y.length) (h : X.take j = Y.take j) (he : X.getD j 0 = Y.getD j 0) : X.take (j + 1) = Y.take (j + 1) := by
  rw [List.take_succ_eq_append_getElem hx, List.take_succ_eq_append_getElem hy, h]
  simp only [List.getD_eq_getElem?_getD, List.getElem?_eq_getElem hx, List.getElem?_eq_getElem hy, Option.getD_some] at he
  rw [he]
theorem ne_at {X Y : List Int} {j : Nat} (he : X.getD j 0 ≠ Y.getD j 0) : decide (X = Y) = false := decide_eq_false (fun h => he (by rw [h]))
theorem eq_all {X Y : List Int} {n : Nat} (hx : X.length = n) (hy : Y.length = n) (h : X.take n = Y.take n) : X = Y := by
  rw [List.take_of_length_le (by omega), List.take_of_length_le (by omega)] at h; exact h

set_option maxRecDepth 100000 in
set_option maxHeartbeats 1600000 in
theorem alike_any (X Y : List Int) (ax ay : Option Addr) (nx cx ny cy : Nat) (w : World) (HX : ReadsInt w .u64 ax nx X) (HY : ReadsInt w .u64 ay ny Y) :
    Calls Try.prog 57 #[.slice ax nx cx, .slice ay ny cy] w fun e w' => e = .returned (.bool (decide (X = Y))) ∧ ∃ m, w' = w.drewN m := by
  have LX := Lib.hid HX.1
  have LY := Lib.hid HY.1
  have MX := Lib.hid HX.2.1
  have RX := Lib.hid HX
  have RY := Lib.hid HY
  clear HX HY
  go_enter Try.func57, Try.ntmps57
  by_cases h1 : nx = ny
  · subst h1
    have d1 : ((nx : Int) == (nx : Int)) = true := by simp
    go_wp2_with fail
    go_loopw [13] (fun i wr => ∃ j m : Nat, j ≤ nx ∧ i = .int .i64 (j : Int) ∧ X.take j = Y.take j ∧ wr = w.drewN m) (fun i _ => nx - (intOf i).toNat)
    case atStart => exact ⟨0, 0, by omega, rfl, rfl, rfl⟩
    case round =>
      obtain ⟨j, m, hj, rfl, hall, rfl⟩ := hrel
      have HA := Lib.hid hall
      clear hall d1
      by_cases hlt : j < nx
      · have hjv : (j : Int) < (nx : Int) := by omega
        have hjd : decide ((j : Int) < (nx : Int)) = true := decide_eq_true hjv
        have hn8 : (nx : Int) ≤ 9223372036854775807 := by have := MX.out; omega
        obtain ⟨ad, rfl, hc0⟩ := cell_at RX.out j hlt
        obtain ⟨bd, rfl, hc1⟩ := cell_at RY.out j hlt
        obtain ⟨x, hx⟩ : ∃ x, x = X.getD j 0 := ⟨_, rfl⟩
        obtain ⟨y, hy⟩ : ∃ y, y = Y.getD j 0 := ⟨_, rfl⟩
        rw [← hx] at hc0
        rw [← hy] at hc1
        by_cases hxy : x = y
        · have hb : (x == y) = true := by simp [hxy]
          have HN : Hid (X.take (j + 1) = Y.take (j + 1)) := Lib.hid (take_same (by have := LX.out; omega) (by have := LY.out; omega) HA.out (by rw [← hx, ← hy]; exact hxy))
          clear hx hy hxy hj
          go_wp2_with fail
          go_quiet (fail)
          go_wp2_with fail
          go_roundw
          case rel => exact ⟨j + 1, _, by omega, by go_num, HN.out, rfl⟩
          case measure => simp [intOf]; omega
        · have hb : (x == y) = false := by simp [hxy]
          have HN : Hid (decide (X = Y) = false) := Lib.hid (ne_at (j := j) (by rw [← hx, ← hy]; exact hxy))
          clear hx hy hxy hj
          go_wp2_with fail
          go_quiet (fail)
          go_wp2_with fail
          go_ret
          exact ⟨by rw [HN.out]; rfl, _, drewN_add _ _ _⟩
      · obtain rfl : j = nx := by omega
        have HN : Hid (decide (X = Y) = true) := Lib.hid (decide_eq_true (eq_all LX.out LY.out HA.out))
        clear hj hlt
        go_wp2_with fail
        go_ret
        exact ⟨by rw [HN.out]; rfl, _, rfl⟩
  · have d1 : ((nx : Int) == (ny : Int)) = false := by simp; omega
    have HN : Hid (decide (X = Y) = false) := Lib.hid (decide_eq_false (fun h => h1 (by rw [← LX.out, ← LY.out, h])))
    clear h1
    go_wp2_with fail
    go_ret
    exact ⟨by rw [HN.out]; rfl, 0, rfl⟩

def sameN (L L' : Bool) (K V K' V' : List Int) : Bool := decide (L = L') && decide (K = K') && decide (V = V')
set_option maxRecDepth 100000 in
set_option maxHeartbeats 1600000 in
theorem same_any (L L' : Bool) (K V K' V' : List Int) (ak av ak' av' : Option Addr) (nk ck nv cv nk' ck' nv' cv' : Nat) (w : World) (HK : ReadsInt w .u64 ak nk K) (HV : ReadsInt w .u64 av nv V) (HK' : ReadsInt w .u64 ak' nk' K') (HV' : ReadsInt w .u64 av' nv' V') :
    Calls Try.prog 37 #[.agg #[.bool L, .slice ak nk ck, .slice av nv cv], .agg #[.bool L', .slice ak' nk' ck', .slice av' nv' cv']] w fun e w' => e = .returned (.bool (sameN L L' K V K' V')) ∧ Below w.heap.size w w' := by
  obtain ⟨w1, hw1, b1, f1, s1⟩ := made w #[.bool L, .slice ak nk ck, .slice av nv cv] 24
  obtain ⟨w2, hw2, b2, f2, -⟩ := made w1 #[.bool L', .slice ak' nk' ck', .slice av' nv' cv'] 24
  have B2 := Lib.hid (below_then b1 b1.size b2)
  have f1' := keep_row f1 b2
  have g0 : w2.cell? ⟨w.heap.size, 0, none⟩ = some (.bool L) := cell_row f1' rfl
  have g1 : w2.cell? ⟨w.heap.size, 1, none⟩ = some (.slice ak nk ck) := cell_row f1' rfl
  have g2 : w2.cell? ⟨w.heap.size, 2, none⟩ = some (.slice av nv cv) := cell_row f1' rfl
  have k0 : w2.cell? ⟨w1.heap.size, 0, none⟩ = some (.bool L') := cell_row f2 rfl
  have k1 : w2.cell? ⟨w1.heap.size, 1, none⟩ = some (.slice ak' nk' ck') := cell_row f2 rfl
  have k2 : w2.cell? ⟨w1.heap.size, 2, none⟩ = some (.slice av' nv' cv') := cell_row f2 rfl
  have RK := Lib.hid (ReadsInt.below HK B2.out)
  have RV := Lib.hid (ReadsInt.below HV B2.out)
  have RK' := Lib.hid (ReadsInt.below HK' B2.out)
  have RV' := Lib.hid (ReadsInt.below HV' B2.out)
  clear HK HV HK' HV' b1 b2 f1 f2 s1 f1'
  go_enter Try.func37, Try.ntmps37
  by_cases h0 : L = L'
  · have hb : (L == L') = true := by simp [h0]
    have H0 := Lib.hid h0
    clear h0
    go_wp2_with fail
    refine (alike_any K K' _ _ _ _ _ _ _ RK.out RK'.out).mono ?_; rintro e w3 ⟨rfl, m, rfl⟩
    by_cases h1 : K = K'
    · have hk : decide (K = K') = true := decide_eq_true h1
      have H1 := Lib.hid h1
      clear h1
      go_wp2_with fail
      refine (alike_any V V' _ _ _ _ _ _ _ (reads_dn RV.out m) (reads_dn RV'.out m)).mono ?_; rintro e w3 ⟨rfl, m', rfl⟩
      go_wp2_with fail
      go_ret
      exact ⟨ret_eq (by simp [sameN, H0.out, H1.out]), below_dn B2.out _⟩
    · have hk : decide (K = K') = false := decide_eq_false h1
      have H1 := Lib.hid h1
      clear h1
      go_wp2_with fail
      go_ret
      exact ⟨ret_eq (by simp [sameN, H1.out]), below_dn B2.out _⟩
  · have hb : (L == L') = false := by simp [h0]
    have H0 := Lib.hid h0
    clear h0
    go_wp2_with fail
    go_ret
    exact ⟨ret_eq (by simp [sameN, H0.out]), B2.out⟩
set_option maxRecDepth 100000 in
set_option maxHeartbeats 3200000 in
theorem rsame_any (L L' : Bool) (K V K' V' : List Int) (ak av ak' av' : Option Addr) (nk ck nv cv nk' ck' nv' cv' : Nat) (w : World) (HK : ReadsInt w .u64 ak nk K) (HV : ReadsInt w .u64 av nv V) (HK' : ReadsInt w .u64 ak' nk' K') (HV' : ReadsInt w .u64 av' nv' V') :
    Calls Try.prog 26 #[.agg #[.bool L, .slice ak nk ck, .slice av nv cv], .agg #[.bool L', .slice ak' nk' ck', .slice av' nv' cv']] w fun e w' => e = .returned (.bool (sameN L L' K V K' V')) ∧ Below w.heap.size w w' := by
  obtain ⟨w1, hw1, b1, f1, s1⟩ := made w #[.bool L, .slice ak nk ck, .slice av nv cv] 24
  obtain ⟨w2, hw2, b2, f2, -⟩ := made w1 #[.bool L', .slice ak' nk' ck', .slice av' nv' cv'] 24
  have B2 := Lib.hid (below_then b1 b1.size b2)
  have f1' := keep_row f1 b2
  have g0 : w2.cell? ⟨w.heap.size, 0, none⟩ = some (.bool L) := cell_row f1' rfl
  have g1 : w2.cell? ⟨w.heap.size, 1, none⟩ = some (.slice ak nk ck) := cell_row f1' rfl
  have g2 : w2.cell? ⟨w.heap.size, 2, none⟩ = some (.slice av nv cv) := cell_row f1' rfl
  have k0 : w2.cell? ⟨w1.heap.size, 0, none⟩ = some (.bool L') := cell_row f2 rfl
  have k1 : w2.cell? ⟨w1.heap.size, 1, none⟩ = some (.slice ak' nk' ck') := cell_row f2 rfl
  have k2 : w2.cell? ⟨w1.heap.size, 2, none⟩ = some (.slice av' nv' cv') := cell_row f2 rfl
  have RK := Lib.hid (ReadsInt.below HK B2.out)
  have RV := Lib.hid (ReadsInt.below HV B2.out)
  have RK' := Lib.hid (ReadsInt.below HK' B2.out)
  have RV' := Lib.hid (ReadsInt.below HV' B2.out)
  have LK := Lib.hid HK.1
  have LV := Lib.hid HV.1
  have LK' := Lib.hid HK'.1
  have LV' := Lib.hid HV'.1
  have MK := Lib.hid HK.2.1
  have MV := Lib.hid HV.2.1
  clear HK HV HK' HV' b1 b2 f1 f2 s1 f1'
  go_enter Try.func26, Try.ntmps26
  by_cases h0 : L = L'
  · have hb : (L == L') = true := by simp [h0]
    have H0 := Lib.hid h0
    clear h0
    by_cases h1 : nk = nk'
    · have d1 : ((nk : Int) != (nk' : Int)) = false := by simp [h1]
      have H1 := Lib.hid h1
      clear h1
      by_cases h2 : nv = nv'
      · have d2 : ((nv : Int) != (nv' : Int)) = false := by simp [h2]
        have H2 := Lib.hid h2
        clear h2
        go_wp2_with fail
        go_loopw [5] (fun i wr => ∃ j m : Nat, j ≤ nk ∧ i = .int .i64 (j : Int) ∧ K.take j = K'.take j ∧ wr = w2.drewN m) (fun i _ => nk - (intOf i).toNat)
        case atStart => exact ⟨0, 0, by omega, rfl, rfl, rfl⟩
        case round =>
          obtain ⟨j, m, hj, rfl, hall, rfl⟩ := hrel
          have HA := Lib.hid hall
          clear hall d1 d2 hb
          by_cases hlt : j < nk
          · have hjv : (j : Int) < (nk : Int) := by omega
            have hjv' : (j : Int) < (nk' : Int) := by have := H1.out; omega
            have hjd : decide ((j : Int) < (nk : Int)) = true := decide_eq_true hjv
            have hn8 : (nk : Int) ≤ 9223372036854775807 := by have := MK.out; omega
            obtain ⟨ad, rfl, hc0⟩ := cell_at RK.out j hlt
            obtain ⟨bd, rfl, hc1⟩ := cell_at RK'.out j (by have := H1.out; omega)
            obtain ⟨x, hx⟩ : ∃ x, x = K.getD j 0 := ⟨_, rfl⟩
            obtain ⟨y, hy⟩ : ∃ y, y = K'.getD j 0 := ⟨_, rfl⟩
            rw [← hx] at hc0
            rw [← hy] at hc1
            by_cases hxy : x = y
            · have hb : (x == y) = true := by simp [hxy]
              have HN : Hid (K.take (j + 1) = K'.take (j + 1)) := Lib.hid (take_same (by have := LK.out; omega) (by have := LK'.out; have := H1.out; omega) HA.out (by rw [← hx, ← hy]; exact hxy))
              clear hx hy hxy hj
              go_wp2_with fail
              go_quiet (fail)
              go_wp2_with fail
              go_roundw
              case rel => exact ⟨j + 1, _, by omega, by go_num, HN.out, rfl⟩
              case measure => simp [intOf]; omega
            · have hb : (x == y) = false := by simp [hxy]
              have HN : Hid (decide (K = K') = false) := Lib.hid (ne_at (j := j) (by rw [← hx, ← hy]; exact hxy))
              clear hx hy hxy hj
              go_wp2_with fail
              go_quiet (fail)
              go_wp2_with fail
              go_ret
              exact ⟨ret_eq (by simp only [sameN, HN.out]; simp), below_dn (below_dn B2.out _) _⟩
          · obtain rfl : j = nk := by omega
            have HK := Lib.hid (eq_all LK.out (LK'.out.trans H1.out.symm) HA.out)
            have HJ : decide ((j : Int) < (j : Int)) = false := by simp
            clear hj hlt
            go_wp2_with fail
            go_loopw [6] (fun i wr => ∃ j m : Nat, j ≤ nv ∧ i = .int .i64 (j : Int) ∧ V.take j = V'.take j ∧ wr = w2.drewN m) (fun i _ => nv - (intOf i).toNat)
            case atStart => exact ⟨0, m, by omega, rfl, rfl, rfl⟩
            case round =>
              obtain ⟨j2, m2, hj, rfl, hall, rfl⟩ := hrel
              have HA2 := Lib.hid hall
              clear hall HJ
              by_cases hlt : j2 < nv
              · have hjv : (j2 : Int) < (nv : Int) := by omega
                have hjv' : (j2 : Int) < (nv' : Int) := by have := H2.out; omega
                have hjd : decide ((j2 : Int) < (nv : Int)) = true := decide_eq_true hjv
                have hn8 : (nv : Int) ≤ 9223372036854775807 := by have := MV.out; omega
                obtain ⟨ad, rfl, hc0⟩ := cell_at RV.out j2 hlt
                obtain ⟨bd, rfl, hc1⟩ := cell_at RV'.out j2 (by have := H2.out; omega)
                obtain ⟨x, hx⟩ : ∃ x, x = V.getD j2 0 := ⟨_, rfl⟩
                obtain ⟨y, hy⟩ : ∃ y, y = V'.getD j2 0 := ⟨_, rfl⟩
                rw [← hx] at hc0
                rw [← hy] at hc1
                by_cases hxy : x = y
                · have hb : (x == y) = true := by simp [hxy]
                  have HN : Hid (V.take (j2 + 1) = V'.take (j2 + 1)) := Lib.hid (take_same (by have := LV.out; omega) (by have := LV'.out; have := H2.out; omega) HA2.out (by rw [← hx, ← hy]; exact hxy))
                  clear hx hy hxy hj
                  go_wp2_with fail
                  go_quiet (fail)
                  go_wp2_with fail
                  go_roundw
                  case rel => exact ⟨j2 + 1, _, by omega, by go_num, HN.out, rfl⟩
                  case measure => simp [intOf]; omega
                · have hb : (x == y) = false := by simp [hxy]
                  have HN : Hid (decide (V = V') = false) := Lib.hid (ne_at (j := j2) (by rw [← hx, ← hy]; exact hxy))
                  clear hx hy hxy hj
                  go_wp2_with fail
                  go_quiet (fail)
                  go_wp2_with fail
                  go_ret
                  exact ⟨ret_eq (by simp only [sameN, HN.out]; simp), below_dn (below_dn B2.out _) _⟩
              · obtain rfl : j2 = nv := by omega
                have HV := Lib.hid (eq_all LV.out (LV'.out.trans H2.out.symm) HA2.out)
                clear hj hlt
                go_wp2_with fail
                go_ret
                exact ⟨ret_eq (by simp [sameN, H0.out, HK.out, HV.out]), below_dn B2.out _⟩
      · have d2 : ((nv : Int) != (nv' : Int)) = true := by simp; omega
        have HN : Hid (decide (V = V') = false) := Lib.hid (decide_eq_false (fun h => h2 (by rw [← LV.out, ← LV'.out, h])))
        clear h2
        go_wp2_with fail
        go_ret
        exact ⟨ret_eq (by simp only [sameN, HN.out]; simp), B2.out⟩
    · have d1 : ((nk : Int) != (nk' : Int)) = true := by simp; omega
      have HN : Hid (decide (K = K') = false) := Lib.hid (decide_eq_false (fun h => h1 (by rw [← LK.out, ← LK'.out, h])))
      clear h1
      go_wp2_with fail
      go_ret
      exact ⟨ret_eq (by simp only [sameN, HN.out]; simp), B2.out⟩
  · have hb : (L == L') = false := by simp [h0]
    have H0 := Lib.hid h0
    clear h0
    go_wp2_with fail
    go_ret
    exact ⟨ret_eq (by simp [sameN, H0.out]), B2.out⟩
end Go.Proofs.Ytdekplalhfpooaa.Nod
