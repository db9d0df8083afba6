/- Knots: Child, the program's and the document's, by their contracts (every input). -/
import Derived.BigQuiet
import Derived.Test.YtdekplalhfpooaaKntA
set_option linter.unusedVariables false
set_option linter.unusedSimpArgs false
namespace Go.Proofs.Ytdekplalhfpooaa.Knt
open Go Go.RowKit Go.Proofs.YtdekplalhfpooaaW.PrintWords Go.Proofs.YtdekplalhfpooaaW.PrintLast Go.Proofs.YtdekplalhfpooaaW.PrintMore Base Odr Hlp Nod

set_option maxRecDepth 100000 in
set_option maxHeartbeats 1600000 in
theorem child_at (L : Bool) (K V : List Int) (ak av : Option Addr) (nk ck nv cv : Nat) (key : Int) (w : World) (HK : ReadsInt w .u64 ak nk K) (HV : ReadsInt w .u64 av nv V) {m i : Nat} (hm : min nk nv = m) (hi : pos K m (atmost key) - 1 = i) :
    Calls Try.prog 17 #[.agg #[.bool L, .slice ak nk ck, .slice av nv cv], .int .u64 key] w fun e w' => e = .returned (.int .i64 (i : Int)) ∧ Below w.heap.size w w' := by
  obtain ⟨w1, hw1, b1, f1, s1⟩ := made w #[.bool L, .slice ak nk ck, .slice av nv cv] 24
  have P1 := Lib.hid f1
  have B1 := Lib.hid b1
  have R1 := Lib.hid (HK.below b1)
  have HM := Lib.hid hm
  have HS := Lib.hid (And.intro HK.2.1 HV.2.1)
  have HI := Lib.hid hi
  have HL := Lib.hid HK.1
  clear b1 f1 s1 HK HV hm hi
  go_enter Try.func17, Try.ntmps17
  go_wp2_with ((with_reducible refine wpList_load_row rfl 24 (.tmp 2) rfl w.heap.size ?_ 24 _ _ _ P1.out Try.underlying24 ?_ (size3 _ _ _) ?_); rfl; rfl)
  refine (count_at L ak av nk ck nv cv m _ HM.out HS.out.1 HS.out.2).mono ?_; rintro e w2 ⟨rfl, hb⟩
  have B2 := Lib.hid (below_then' B1.out hb)
  have P2 := Lib.hid (keep_row P1.out hb)
  have R2 := Lib.hid (R1.out.below hb)
  have c1 : w2.cell? ⟨w.heap.size, 1, none⟩ = some (.slice ak nk ck) := cell_row P2.out rfl
  clear hb
  have hm63 : m ≤ 9223372036854775807 := by have h1 := HM.out; have h2 := HS.out; omega
  have HMK := Lib.hid (show m ≤ nk by have h1 := HM.out; omega)
  go_wp2_with fail
  go_loop [5, 9] (fun av_ iv => ∃ j : Nat, j ≤ m ∧ av_ = .int .i64 ((j - 1 : Nat) : Int) ∧ iv = .int .i64 (j : Int) ∧ ∀ x, x < j → atmost key (K.getD x 0) = true) (fun _ iv => m - (intOf iv).toNat)
  case atStart => exact ⟨0, by omega, rfl, rfl, fun x hx => absurd hx (by omega)⟩
  case round =>
    obtain ⟨j, hj, rfl, rfl, hall⟩ := hrel
    have HA := Lib.hid hall
    clear hall
    obtain ⟨j', hj'⟩ : ∃ j', j - 1 = j' := ⟨_, rfl⟩
    rw [hj']
    have HJ' := Lib.hid hj'
    clear hj'
    by_cases hlt : j < m
    · obtain ⟨ad, rfl, hc⟩ := cell_at R2.out j (by have := HMK.out; omega)
      obtain ⟨x, hx⟩ : ∃ x, K.getD j 0 = x := ⟨_, rfl⟩
      rw [hx] at hc
      have hjk : (j : Int) < (nk : Int) := by have := HMK.out; omega
      have hjk' : j < nk := by have := HMK.out; omega
      have HX := Lib.hid hx
      have HLT := Lib.hid hlt
      clear hx hj
      by_cases hge : key < x
      · have d : decide (key < x) = true := decide_eq_true hge
        have HIJ := Lib.hid (pos_at (K := K) (p := atmost key) (Nat.le_of_lt HLT.out) (by rw [HL.out]; exact HMK.out) HA.out (fun _ => by rw [HX.out]; exact decide_eq_false (by omega)))
        have hij : i = j' := by rw [← HI.out, HIJ.out, HJ'.out]
        subst hij
        clear hge
        go_wp2_with fail
        go_ret
        exact ⟨rfl, B2.out⟩
      · have d : decide (key < x) = false := decide_eq_false hge
        have HA' := Lib.hid (show ∀ y, y < j + 1 → atmost key (K.getD y 0) = true by
          intro y hy
          by_cases h : y = j
          · rw [h, HX.out]; exact decide_eq_true (by omega)
          · exact HA.out y (by omega))
        clear hge
        go_wp2_with fail
        go_round
        case rel => exact ⟨j + 1, HLT.out, by rw [Nat.add_sub_cancel], by push_cast; rfl, HA'.out⟩
        case measure => simp [intOf]; have := HLT.out; omega
    · obtain rfl : j = m := by omega
      have hij : i = j' := by rw [← HI.out, pos_at (K := K) (p := atmost key) (Nat.le_refl _) (by rw [HL.out]; exact HMK.out) HA.out (fun h => absurd h (by omega)), HJ'.out]
      subst hij
      clear hj hlt
      go_wp2_with fail
      go_ret
      exact ⟨rfl, B2.out⟩
set_option maxRecDepth 100000 in
set_option maxHeartbeats 1600000 in
theorem rchild_at (L : Bool) (K V : List Int) (ak av : Option Addr) (nk ck nv cv : Nat) (key : Int) (w : World) (HK : ReadsInt w .u64 ak nk K) (HV : ReadsInt w .u64 av nv V) {m i : Nat} (hm : min nk nv = m) (hi : pos K m (atmost key) - 1 = i) :
    Calls Try.prog 18 #[.agg #[.bool L, .slice ak nk ck, .slice av nv cv], .int .u64 key] w fun e w' => e = .returned (.int .i64 (i : Int)) ∧ Below w.heap.size w w' := by
  obtain ⟨w1, hw1, b1, f1, s1⟩ := made w #[.bool L, .slice ak nk ck, .slice av nv cv] 24
  have P1 := Lib.hid f1
  have B1 := Lib.hid b1
  have R1 := Lib.hid (HK.below b1)
  have HM := Lib.hid hm
  have HS := Lib.hid (And.intro HK.2.1 HV.2.1)
  have HI := Lib.hid hi
  have HL := Lib.hid HK.1
  clear b1 f1 s1 HK HV hm hi
  go_enter Try.func18, Try.ntmps18
  go_wp2_with fail
  go_loopw [5] (fun iv wr => ∃ j : Nat, j ≤ m ∧ iv = .int .i64 (j : Int) ∧ (∀ x, x < j → atmost key (K.getD x 0) = true) ∧ Below w1.heap.size w1 wr) (fun iv _ => m - (intOf iv).toNat)
  case atStart => exact ⟨0, by omega, rfl, fun x hx => absurd hx (by omega), Below.refl _ _⟩
  case round =>
    obtain ⟨j, hj, rfl, hall, hb⟩ := hrel
    have HA := Lib.hid hall
    have HB := Lib.hid hb
    have P2 := Lib.hid (keep_row P1.out hb)
    have R2 := Lib.hid (R1.out.below hb)
    clear hall hb
    have hm63 : m ≤ 9223372036854775807 := by have h1 := HM.out; have h2 := HS.out; omega
    have HMK := Lib.hid (show m ≤ nk by have h1 := HM.out; omega)
    go_wp2_with ((with_reducible refine wpList_load_row rfl 24 (.tmp 2) rfl w.heap.size ?_ 24 _ _ _ P2.out Try.underlying24 ?_ (size3 _ _ _) ?_); rfl; rfl)
    refine (pairs_at L ak av nk ck nv cv m _ HM.out HS.out.1 HS.out.2).mono ?_; rintro e w3 ⟨rfl, hb⟩
    have B3 := Lib.hid (below_then HB.out HB.out.size hb)
    have BB3 := Lib.hid (below_then B1.out B1.out.size B3.out)
    have P3 := Lib.hid (keep_row P2.out hb)
    have R3 := Lib.hid (R2.out.below hb)
    have c1 : w3.cell? ⟨w.heap.size, 1, none⟩ = some (.slice ak nk ck) := cell_row P3.out rfl
    clear hb
    by_cases hlt : j < m
    · obtain ⟨ad, rfl, hc⟩ := cell_at R3.out j (by have := HMK.out; omega)
      obtain ⟨x, hx⟩ : ∃ x, K.getD j 0 = x := ⟨_, rfl⟩
      rw [hx] at hc
      have hjk : (j : Int) < (nk : Int) := by have := HMK.out; omega
      have hjk' : j < nk := by have := HMK.out; omega
      have dj : decide ((j : Int) < (m : Int)) = true := decide_eq_true (by omega)
      have HX := Lib.hid hx
      have HLT := Lib.hid hlt
      clear hx hj
      by_cases hge : x ≤ key
      · have d : decide (x ≤ key) = true := decide_eq_true hge
        have HA' := Lib.hid (show ∀ y, y < j + 1 → atmost key (K.getD y 0) = true by
          intro y hy
          by_cases h : y = j
          · rw [h, HX.out]; exact decide_eq_true (by omega)
          · exact HA.out y (by omega))
        clear hge
        go_wp2_with fail
        go_roundw
        case rel => exact ⟨j + 1, HLT.out, by push_cast; rfl, HA'.out, B3.out⟩
        case measure => simp [intOf]; have := HLT.out; omega
      · have d : decide (x ≤ key) = false := decide_eq_false hge
        have HIJ := Lib.hid (pos_at (K := K) (p := atmost key) (Nat.le_of_lt HLT.out) (by rw [HL.out]; exact HMK.out) HA.out (fun _ => by rw [HX.out]; exact decide_eq_false (by omega)))
        have hij : j - 1 = i := by rw [← HI.out, HIJ.out]
        have HIJ2 := Lib.hid hij
        clear hge
        rcases Nat.eq_zero_or_pos j with h0 | h0
        · obtain rfl : i = 0 := by omega
          have dz : ((j : Int) == 0) = true := by simp; omega
          clear hij h0
          go_wp2_with fail
          go_ret
          exact ⟨rfl, BB3.out⟩
        · have hji : (j : Int) - 1 = (i : Int) := by omega
          have dz : ((j : Int) == 0) = false := by simp; omega
          have hib : i < 9223372036854775807 := by omega
          clear hij h0
          go_wp2_with fail
          go_ret
          exact ⟨rfl, BB3.out⟩
    · obtain rfl : j = m := by omega
      have hij : j - 1 = i := by rw [← HI.out, pos_at (K := K) (p := atmost key) (Nat.le_refl _) (by rw [HL.out]; exact HMK.out) HA.out (fun h => absurd h (by omega))]
      have dj : decide ((j : Int) < (j : Int)) = false := by simp
      clear hj hlt
      rcases Nat.eq_zero_or_pos j with h0 | h0
      · obtain rfl : i = 0 := by omega
        have dz : ((j : Int) == 0) = true := by simp; omega
        clear hij h0
        go_wp2_with fail
        go_ret
        exact ⟨rfl, BB3.out⟩
      · obtain rfl : j = i + 1 := by omega
        have dz : ((i : Int) + 1 == 0) = false := by simp; omega
        clear hij h0
        go_wp2_with fail
        go_ret
        exact ⟨rfl, BB3.out⟩
end Go.Proofs.Ytdekplalhfpooaa.Knt
