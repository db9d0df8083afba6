/- Which nodes may be, and their forms: the document's May, eight, Put (every input). -/
import Derived.Test.YtdekplalhfpooaaNodF
set_option linter.unusedVariables false
set_option linter.unusedSimpArgs false
namespace Go.Proofs.Ytdekplalhfpooaa.Nod
open Go Go.RowKit Go.Proofs.YtdekplalhfpooaaW.PrintWords Go.Proofs.YtdekplalhfpooaaW.PrintLast Go.Proofs.YtdekplalhfpooaaW.PrintMore Base Odr Hlp

set_option maxRecDepth 100000 in
set_option maxHeartbeats 3200000 in
theorem rmay_any (L : Bool) (K V : List Int) (ak av : Option Addr) (nk ck nv cv : Nat) (w : World) (HK : ReadsInt w .u64 ak nk K) (HV : ReadsInt w .u64 av nv V) (hwv : ∀ x ∈ V, (Lit.int .u64 x).wf = true) :
    Calls Try.prog 34 #[.agg #[.bool L, .slice ak nk ck, .slice av nv cv]] w fun e w' => e = .returned (.bool (mayN K V)) ∧ Below w.heap.size w w' := by
  obtain ⟨w1, hw1, b1, f1, s1⟩ := made w #[.bool L, .slice ak nk ck, .slice av nv cv] 24
  have B1 := Lib.hid b1
  have g1 : w1.cell? ⟨w.heap.size, 1, none⟩ = some (.slice ak nk ck) := cell_row f1 rfl
  have g2 : w1.cell? ⟨w.heap.size, 2, none⟩ = some (.slice av nv cv) := cell_row f1 rfl
  have RK := Lib.hid (ReadsInt.below HK b1)
  have RV := Lib.hid (ReadsInt.below HV b1)
  have LK := Lib.hid HK.1
  have LV := Lib.hid HV.1
  have WV := Lib.hid hwv
  have HM := Lib.hid (show (nk : Int) ≤ 9223372036854775807 by have := HK.2.1; omega)
  clear HK HV b1 f1 s1 hwv
  go_enter Try.func34, Try.ntmps34
  obtain ⟨ok0, hok0⟩ : ∃ b, (decide (1 ≤ nk) && decide (nk ≤ 8) && decide (nv = nk)) = b := ⟨_, rfl⟩
  have HINI : Hid ((ok0 = true → 0 ≤ nk ∧ 1 ≤ nk ∧ nk ≤ 8 ∧ nv = nk ∧ (List.range 0).all (okAt K V) = true) ∧ (ok0 = false → mayN K V = false)) := Lib.hid (by
    subst hok0
    refine ⟨fun h => ?_, fun h => ?_⟩
    · simp only [Bool.and_eq_true, decide_eq_true_eq] at h
      exact ⟨by omega, h.1.1, h.1.2, h.2, rfl⟩
    · simp only [mayN, LK.out, LV.out, h, Bool.false_and])
  have HLOOP : ∀ (K' : Act → World → Prop), True := fun _ => trivial
  clear HLOOP
  by_cases h1 : 1 ≤ nk
  · have d1 : decide (1 ≤ (nk : Int)) = true := decide_eq_true (by omega)
    by_cases h2 : nk ≤ 8
    · have d2 : decide ((nk : Int) ≤ 8) = true := decide_eq_true (by omega)
      by_cases h3 : nv = nk
      · have d3 : ((nv : Int) == (nk : Int)) = true := by simp [h3]
        have hb0 : ok0 = true := by rw [← hok0]; simp [h1, h2, h3]
        subst hb0
        have HOK := Lib.hid hok0
        clear hok0 h1 h2 h3
        go_wp2_with fail
        go_loopw [3, 4] (fun v i wr => ∃ (ok : Bool) (j m : Nat), v = .bool ok ∧ i = .int .i64 (j : Int) ∧ wr = w1.drewN m ∧ (ok = true → j ≤ nk ∧ 1 ≤ nk ∧ nk ≤ 8 ∧ nv = nk ∧ (List.range j).all (okAt K V) = true) ∧ (ok = false → mayN K V = false)) (fun _ i _ => nk + 1 - (intOf i).toNat)
        case atStart => exact ⟨true, 0, 0, by first | rfl | (rw [HOK.out]), rfl, rfl, fun _ => HINI.out.1 trivial, fun h => absurd h (by decide)⟩
        case round =>
          obtain ⟨ok, j, m, rfl, rfl, rfl, hin, hno⟩ := hrel
          clear HINI
          cases ok
          · have HN := Lib.hid (hno rfl)
            clear hin hno
            go_wp2_with fail
            go_ret
            exact ⟨by first | rfl | (rw [HN.out]; rfl), below_dn B1.out _⟩
          · obtain ⟨hj, p1, p2, p3, hall⟩ := hin rfl
            have P := Lib.hid (show 1 ≤ nk ∧ nk ≤ 8 ∧ nv = nk from ⟨p1, p2, p3⟩)
            have HA := Lib.hid hall
            have HR := Lib.hid (may_len (K := K) (V := V) (by have := LK.out; omega) (by have := LK.out; omega) (by rw [LV.out, LK.out, p3]))
            have hn8 : (nk : Int) ≤ 8 := by omega
            clear hin hno hall p1 p2 p3
            by_cases hlt : j < nk
            · have hjv : (j : Int) < (nk : Int) := by omega
              have hjv' : (j : Int) < (nv : Int) := by have := P.out.2.2; omega
              have hjd : decide ((j : Int) < (nk : Int)) = true := decide_eq_true hjv
              obtain ⟨ad, rfl, hc0⟩ := cell_at RK.out j hlt
              obtain ⟨bd, rfl, hc1⟩ := cell_at RV.out j (by have := P.out.2.2; omega)
              obtain ⟨x, hx⟩ : ∃ x, x = K.getD j 0 := ⟨_, rfl⟩
              obtain ⟨y, hy⟩ : ∃ y, y = V.getD j 0 := ⟨_, rfl⟩
              have hy0 : 0 ≤ y := by
                rw [hy, List.getD_eq_getElem?_getD, List.getElem?_eq_getElem (show j < V.length by have := LV.out; have := P.out.2.2; omega)]
                exact (le_of_wfu64 (WV.out _ (List.getElem_mem _))).1
              rw [← hx] at hc0
              rw [← hy] at hc1
              have HO := Lib.hid (show okAt K V j = (!decide (y = 0) && (decide (j = 0) || decide (K.getD (j - 1) 0 < x))) by rw [hx, hy]; rfl)
              clear hx hy
              rcases Nat.eq_zero_or_pos j with hj0 | hj0
              · have hjz : decide (0 < (j : Int)) = false := decide_eq_false (by omega)
                have hjn : decide (0 < j) = false := decide_eq_false (by omega)
                by_cases hyz : y = 0
                · skip
                  have hb1 : decide (0 < y) = false := decide_eq_false (by omega)
                  have HN := Lib.hid (show mayN K V = false by rw [HR.out]; exact all_no (j := j) (by have := LK.out; omega) (by rw [HO.out]; simp [hyz]))
                  clear hyz hj0 hy0
                  clear hlt hj
                  go_wp2_with fail
                  go_quiet (fail)
                  go_wp2_with fail
                  go_roundw
                  case rel => exact ⟨false, j + 1, _, rfl, by go_num, rfl, fun h => absurd h (by decide), fun _ => HN.out⟩
                  case measure => simp [intOf]; omega
                · skip
                  have hb1 : decide (0 < y) = true := decide_eq_true (by omega)
                  have HN := Lib.hid (show (List.range (j + 1)).all (okAt K V) = true by rw [all_succ, HO.out, HA.out]; simp [hyz, hj0])
                  clear hyz hj0 hy0
                  clear hlt hj
                  go_wp2_with fail
                  go_quiet (fail)
                  go_wp2_with fail
                  go_roundw
                  case rel => exact ⟨true, j + 1, _, rfl, by go_num, rfl, fun _ => ⟨by omega, P.out.1, P.out.2.1, P.out.2.2, HN.out⟩, fun h => absurd h (by decide)⟩
                  case measure => simp [intOf]; omega
              · obtain ⟨i, hi⟩ : ∃ i, j - 1 = i := ⟨_, rfl⟩
                have hjz : decide (0 < (j : Int)) = true := decide_eq_true (by omega)
                have hjn : decide (0 < j) = true := decide_eq_true (by omega)
                have hij : (j : Int) - 1 = (i : Int) := by omega
                have hiv : (i : Int) < (nk : Int) := by omega
                obtain ⟨ad', e1, hc2⟩ := cell_at RK.out i (by omega)
                cases e1
                obtain ⟨z, hz⟩ : ∃ z, z = K.getD i 0 := ⟨_, rfl⟩
                rw [← hz] at hc2
                have HO2 := Lib.hid (show okAt K V j = (!decide (y = 0) && (decide (j = 0) || decide (z < x))) by rw [HO.out, hz, hi])
                have HJ := Lib.hid hj0
                clear hz hj0 hi
                by_cases hzx : x ≤ z
                · have hb2 : decide (x ≤ z) = true := decide_eq_true hzx
                  have HN := Lib.hid (show mayN K V = false by rw [HR.out]; exact all_no (j := j) (by have := LK.out; omega) (by rw [HO2.out]; have := HJ.out; simp; omega))
                  by_cases hyz : y = 0
                  · skip
                    have hb1 : decide (0 < y) = false := decide_eq_false (by omega)
                    clear hyz hy0 hzx
                    clear hlt hj
                    go_wp2_with fail
                    go_quiet (fail)
                    go_wp2_with fail
                    go_roundw
                    case rel => exact ⟨false, j + 1, _, rfl, by go_num, rfl, fun h => absurd h (by decide), fun _ => HN.out⟩
                    case measure => simp [intOf]; omega
                  · skip
                    have hb1 : decide (0 < y) = true := decide_eq_true (by omega)
                    clear hyz hy0 hzx
                    clear hlt hj
                    go_wp2_with fail
                    go_quiet (fail)
                    go_wp2_with fail
                    go_roundw
                    case rel => exact ⟨false, j + 1, _, rfl, by go_num, rfl, fun h => absurd h (by decide), fun _ => HN.out⟩
                    case measure => simp [intOf]; omega
                · have hb2 : decide (x ≤ z) = false := decide_eq_false hzx
                  by_cases hyz : y = 0
                  · skip
                    have hb1 : decide (0 < y) = false := decide_eq_false (by omega)
                    have HN := Lib.hid (show mayN K V = false by rw [HR.out]; exact all_no (j := j) (by have := LK.out; omega) (by rw [HO2.out]; simp [hyz]))
                    clear hyz hy0 hzx
                    clear hlt hj
                    go_wp2_with fail
                    go_quiet (fail)
                    go_wp2_with fail
                    go_roundw
                    case rel => exact ⟨false, j + 1, _, rfl, by go_num, rfl, fun h => absurd h (by decide), fun _ => HN.out⟩
                    case measure => simp [intOf]; omega
                  · skip
                    have hb1 : decide (0 < y) = true := decide_eq_true (by omega)
                    have HN := Lib.hid (show (List.range (j + 1)).all (okAt K V) = true by rw [all_succ, HO2.out, HA.out]; simp [hyz]; right; omega)
                    clear hyz hy0 hzx
                    clear hlt hj
                    go_wp2_with fail
                    go_quiet (fail)
                    go_wp2_with fail
                    go_roundw
                    case rel => exact ⟨true, j + 1, _, rfl, by go_num, rfl, fun _ => ⟨by omega, P.out.1, P.out.2.1, P.out.2.2, HN.out⟩, fun h => absurd h (by decide)⟩
                    case measure => simp [intOf]; omega
            · obtain rfl : j = nk := by omega
              have HN := Lib.hid (show mayN K V = true by rw [HR.out, LK.out]; exact HA.out)
              have hjd : decide ((j : Int) < (j : Int)) = false := by simp
              clear hj hlt
              go_wp2_with fail
              go_ret
              exact ⟨by first | rfl | (rw [HN.out]; rfl), below_dn B1.out _⟩
      · have d3 : ((nv : Int) == (nk : Int)) = false := by simp; omega
        have hb0 : ok0 = false := by rw [← hok0]; simp [h3]
        have HN := Lib.hid (HINI.out.2 hb0)
        subst hb0
        clear hok0 HINI h1 h2 h3
        go_wp2_with fail
        go_loopw [3, 4] (fun v i wr => v = .bool false ∧ wr = w1) (fun _ i _ => 0)
        case atStart => exact ⟨rfl, rfl⟩
        case round =>
          obtain ⟨rfl, rfl⟩ := hrel
          go_wp2_with fail
          go_ret
          exact ⟨by first | rfl | (rw [HN.out]; rfl), B1.out⟩
    · have d2 : decide ((nk : Int) ≤ 8) = false := decide_eq_false (by omega)
      have hb0 : ok0 = false := by rw [← hok0]; simp [h2]
      have HN := Lib.hid (HINI.out.2 hb0)
      subst hb0
      clear hok0 HINI h1 h2
      go_wp2_with fail
      go_loopw [3, 4] (fun v i wr => v = .bool false ∧ wr = w1) (fun _ i _ => 0)
      case atStart => exact ⟨rfl, rfl⟩
      case round =>
        obtain ⟨rfl, rfl⟩ := hrel
        go_wp2_with fail
        go_ret
        exact ⟨by first | rfl | (rw [HN.out]; rfl), B1.out⟩
  · have d1 : decide (1 ≤ (nk : Int)) = false := decide_eq_false (by omega)
    have hb0 : ok0 = false := by rw [← hok0]; simp [h1]
    have HN := Lib.hid (HINI.out.2 hb0)
    subst hb0
    clear hok0 HINI h1
    go_wp2_with fail
    go_loopw [3, 4] (fun v i wr => v = .bool false ∧ wr = w1) (fun _ i _ => 0)
    case atStart => exact ⟨rfl, rfl⟩
    case round =>
      obtain ⟨rfl, rfl⟩ := hrel
      go_wp2_with fail
      go_ret
      exact ⟨by first | rfl | (rw [HN.out]; rfl), B1.out⟩
end Go.Proofs.Ytdekplalhfpooaa.Nod
