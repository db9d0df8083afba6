/- Nodes: May, alike, Same of the program and of the document, by their contracts (every input). -/
import Derived.Test.YtdekplalhfpooaaHlp
set_option linter.unusedVariables false
set_option linter.unusedSimpArgs false
namespace Go.Proofs.Ytdekplalhfpooaa.Nod
open Go Go.RowKit Go.Proofs.YtdekplalhfpooaaW.PrintWords Go.Proofs.YtdekplalhfpooaaW.PrintLast Go.Proofs.YtdekplalhfpooaaW.PrintMore Base Odr Hlp

/-- What a node's pair must be at a place. -/
def okAt (K V : List Int) (i : Nat) : Bool := !decide (V.getD i 0 = 0) && (decide (i = 0) || decide (K.getD (i - 1) 0 < K.getD i 0))
def mayN (K V : List Int) : Bool := decide (1 ≤ K.length) && decide (K.length ≤ 8) && decide (V.length = K.length) && (List.range K.length).all (okAt K V)
theorem all_succ (K V : List Int) (j : Nat) : (List.range (j + 1)).all (okAt K V) = ((List.range j).all (okAt K V) && okAt K V j) := by
  rw [List.range_succ, List.all_append]; simp
theorem all_no {K V : List Int} {j n : Nat} (h : j < n) (ho : okAt K V j = false) : (List.range n).all (okAt K V) = false := by
  rw [List.all_eq_false]
  exact ⟨j, List.mem_range.2 h, by rw [ho]; decide⟩
theorem may_len {K V : List Int} (h1 : 1 ≤ K.length) (h2 : K.length ≤ 8) (h3 : V.length = K.length) : mayN K V = (List.range K.length).all (okAt K V) := by
  simp [mayN, h1, h2, h3]
set_option maxRecDepth 100000 in
set_option maxHeartbeats 1600000 in
theorem may_any (L : Bool) (K V : List Int) (ak av : Option Addr) (nk ck nv cv : Nat) (w : World) (HK : ReadsInt w .u64 ak nk K) (HV : ReadsInt w .u64 av nv V) :
    Calls Try.prog 33 #[.agg #[.bool L, .slice ak nk ck, .slice av nv cv]] w fun e w' => e = .returned (.bool (mayN K V)) ∧ Below w.heap.size w w' := by
  obtain ⟨w1, hw1, b0, f0, -⟩ := made w #[.bool L, .slice ak nk ck, .slice av nv cv] 24
  have B0 := Lib.hid b0
  have f1 : w1.cell? ⟨w.heap.size, 1, none⟩ = some (.slice ak nk ck) := cell_row f0 rfl
  have f2 : w1.cell? ⟨w.heap.size, 2, none⟩ = some (.slice av nv cv) := cell_row f0 rfl
  have HK2 := Lib.hid (ReadsInt.below HK b0)
  have HV2 := Lib.hid (ReadsInt.below HV b0)
  have LK := Lib.hid HK.1
  have LV := Lib.hid HV.1
  clear HK HV b0 f0
  go_enter Try.func33, Try.ntmps33
  go_upto_region 1 with fail
  clear hw1
  by_cases h1 : nk < 1
  · have d1 : decide ((nk : Int) < 1) = true := decide_eq_true (by omega)
    have hr : mayN K V = false := by simp [mayN]; intro h; have := LK.out; omega
    clear h1
    go_wp2_with fail
    go_ret
    exact ⟨by rw [hr]; rfl, B0.out⟩
  · have d1 : decide ((nk : Int) < 1) = false := decide_eq_false (by omega)
    by_cases h2 : 8 < nk
    · have d2 : decide (8 < (nk : Int)) = true := decide_eq_true (by omega)
      have hr : mayN K V = false := by simp [mayN]; intro _ h; have := LK.out; omega
      clear h1 h2
      go_wp2_with fail
      go_ret
      exact ⟨by rw [hr]; rfl, B0.out⟩
    · have d2 : decide (8 < (nk : Int)) = false := decide_eq_false (by omega)
      by_cases h3 : nv = nk
      · subst h3
        have d3 : ((nv : Int) == (nv : Int)) = true := by simp
        have hr := Lib.hid (may_len (K := K) (V := V) (by have := LK.out; omega) (by have := LK.out; omega) (by rw [LV.out, LK.out]))
        have H1 := Lib.hid h1
        have H2 := Lib.hid h2
        clear h1 h2
        go_wp2_with fail
        go_loop [27] (fun i => ∃ j : Nat, j ≤ nv ∧ i = .int .i64 (j : Int) ∧ (List.range j).all (okAt K V) = true) (fun i => nv - (intOf i).toNat)
        case atStart => exact ⟨0, by omega, rfl, rfl⟩
        case round =>
          obtain ⟨j, hj, rfl, hall⟩ := hrel
          have HA := Lib.hid hall
          clear hall d1 d2 d3
          by_cases hlt : j < nv
          · have hjv : (j : Int) < (nv : Int) := by omega
            have hjd : decide ((j : Int) < (nv : Int)) = true := decide_eq_true hjv
            have hn8 : (nv : Int) ≤ 8 := by have := H2.out; omega
            obtain ⟨ad, rfl, hc0⟩ := cell_at HK2.out j hlt
            obtain ⟨bd, rfl, hc1⟩ := cell_at HV2.out j hlt
            obtain ⟨x, hx⟩ : ∃ x, x = K.getD j 0 := ⟨_, rfl⟩
            obtain ⟨y, hy⟩ : ∃ y, y = V.getD j 0 := ⟨_, rfl⟩
            rw [← hx] at hc0
            rw [← hy] at hc1
            have hok : okAt K V j = (!decide (y = 0) && (decide (j = 0) || decide (K.getD (j - 1) 0 < x))) := by rw [hx, hy]; rfl
            have HO := Lib.hid hok
            have HR := Lib.hid hr.out
            clear hok hx hy hr
            rcases Nat.eq_zero_or_pos j with hj0 | hj0
            · have hjz : decide (0 < (j : Int)) = false := decide_eq_false (by omega)
              have hjn : decide (0 < j) = false := decide_eq_false (by omega)
              by_cases hy0 : y = 0
              · have hyb : (y == 0) = true := by simp [hy0]
                have hres : mayN K V = false := by rw [HR.out]; exact all_no (j := j) (by have := LK.out; omega) (by rw [HO.out]; simp [hy0])
                clear hj hlt hj0 hy0
                go_wp2_with fail
                go_ret
                exact ⟨by first | rfl | (rw [hres]; rfl), B0.out⟩
              · have hyb : (y == 0) = false := by simp [hy0]
                have HN : Hid ((List.range (j + 1)).all (okAt K V) = true) := Lib.hid (by rw [all_succ, HO.out, HA.out]; simp [hy0, hj0])
                clear hy0 hj hj0
                go_wp2_with fail
                go_round
                case rel => exact ⟨j + 1, by omega, by go_num, HN.out⟩
                case measure => simp [intOf]; omega
            · obtain ⟨i, hi⟩ : ∃ i, j - 1 = i := ⟨_, rfl⟩
              have hjz : decide (0 < (j : Int)) = true := decide_eq_true (by omega)
              have hjn : decide (0 < j) = true := decide_eq_true (by omega)
              have hij : (j : Int) - 1 = (i : Int) := by omega
              have hiv : (i : Int) < (nv : Int) := by omega
              obtain ⟨ad', e1, hc2⟩ := cell_at HK2.out i (by omega)
              cases e1
              obtain ⟨z, hz⟩ : ∃ z, z = K.getD i 0 := ⟨_, rfl⟩
              rw [← hz] at hc2
              have HO2 : Hid (okAt K V j = (!decide (y = 0) && (decide (j = 0) || decide (z < x)))) := Lib.hid (by rw [HO.out, hz, hi])
              have HJ := Lib.hid hj0
              clear hz hj0 hi
              by_cases hzx : z < x
              · have hb1 : decide (x ≤ z) = false := decide_eq_false (by omega)
                by_cases hy0 : y = 0
                · have hyb : (y == 0) = true := by simp [hy0]
                  have hres : mayN K V = false := by rw [HR.out]; exact all_no (j := j) (by have := LK.out; omega) (by rw [HO2.out]; simp [hy0])
                  clear hj hlt hzx hy0
                  go_wp2_with fail
                  go_ret
                  exact ⟨by first | rfl | (rw [hres]; rfl), B0.out⟩
                · have hyb : (y == 0) = false := by simp [hy0]
                  have HN : Hid ((List.range (j + 1)).all (okAt K V) = true) := Lib.hid (by rw [all_succ, HO2.out, HA.out]; simp [hy0, hzx])
                  clear hy0 hj hzx
                  go_wp2_with fail
                  go_round
                  case rel => exact ⟨j + 1, by omega, by go_num, HN.out⟩
                  case measure => simp [intOf]; omega
              · have hb1 : decide (x ≤ z) = true := decide_eq_true (by omega)
                have hres : mayN K V = false := by rw [HR.out]; exact all_no (j := j) (by have := LK.out; omega) (by rw [HO2.out]; have := HJ.out; simp [hzx]; omega)
                clear hj hlt hzx
                go_wp2_with fail
                go_ret
                exact ⟨by first | rfl | (rw [hres]; rfl), B0.out⟩
          · obtain rfl : j = nv := by omega
            have hres : mayN K V = true := by rw [hr.out, LK.out]; exact HA.out
            clear hr hj hlt
            go_wp2_with fail
            go_ret
            exact ⟨by first | rfl | (rw [hres]; rfl), B0.out⟩
      · have d3 : ((nv : Int) == (nk : Int)) = false := by simp; omega
        have hr : mayN K V = false := by simp [mayN]; intro _ _ h; have := LK.out; have := LV.out; omega
        clear h1 h2 h3
        go_wp2_with fail
        go_ret
        exact ⟨by rw [hr]; rfl, B0.out⟩
end Go.Proofs.Ytdekplalhfpooaa.Nod
