/- Pieces: any range's pieces, and the blocks within it: the walk. -/
import Derived.Test.YtgmjpnampjkfeaaPieP
set_option linter.unusedVariables false
set_option linter.unusedSimpArgs false
namespace Go.Proofs.Ytgmjpnampjkfeaa.Pie
open Go Go.RowKit Go.Proofs.YtgmjpnampjkfeaaW.PrintWords Go.Proofs.YtgmjpnampjkfeaaW.PrintLast Go.Proofs.YtgmjpnampjkfeaaW.PrintMore Base

theorem rinner_at (O N : Nat) (w : World) (hO : O < 18446744073709551616) (hN : N < 18446744073709551616) :
    Calls Try.prog 12 #[.int .u64 (O : Int), .int .u64 (N : Int)] w fun e w' => e = .returned (.tuple #[.int .u64 (iF O N : Int), .int .u64 (iT O N : Int)]) ∧ w = w' := by
  rw [← innerF_nat, ← innerT_nat]; exact rinner_any O N w (by omega) (by omega)
set_option maxRecDepth 100000 in
set_option maxHeartbeats 3200000 in
theorem cuts_walk (a : Int) (wa : (Lit.int .u64 a).wf = true) (b : Int) (wb : (Lit.int .u64 b).wf = true) (c : Int) (wc : (Lit.int .u64 c).wf = true) (w : World) :
    Calls Try.prog 3 #[.int .u64 a, .int .u64 b, .int .u64 c] w fun e w' => e = .returned (.bool true) ∧ Below w.heap.size w w' := by
  have ha := le_of_wfu64 wa
  have hb := le_of_wfu64 wb
  have hc := le_of_wfu64 wc
  obtain ⟨O, rfl⟩ := Int.eq_ofNat_of_zero_le ha.1
  obtain ⟨N, rfl⟩ := Int.eq_ofNat_of_zero_le hb.1
  obtain ⟨C, rfl⟩ := Int.eq_ofNat_of_zero_le hc.1
  have hOO : O < 18446744073709551616 := by omega
  have hNN : N < 18446744073709551616 := by omega
  have hCC : C < 18446744073709551616 := by omega
  have HB := Lib.hid (And.intro hOO (And.intro hNN hCC))
  obtain ⟨F, hF⟩ : ∃ F, iF O N = F := ⟨_, rfl⟩
  obtain ⟨T, hT⟩ : ∃ T, iT O N = T := ⟨_, rfl⟩
  obtain ⟨K, hK⟩ : ∃ K, cutK O N = K := ⟨_, rfl⟩
  obtain ⟨x, hx⟩ : ∃ x, within (O : Int) (N : Int) (C : Int) = x := ⟨_, rfl⟩
  have HFT := Lib.hid (And.intro hF hT)
  have HK := Lib.hid hK
  have HX := Lib.hid hx
  have HKS := Lib.hid (show K < 65538 by rw [← hK]; have := cutK_le O N; omega)
  clear wa wb wc ha hb hc hOO hNN hCC hF hT hK hx
  go_enter Try.func3, Try.ntmps3
  go_wp2_with fail
  refine (inner_at O N _ HB.out.1 HB.out.2.1).mono ?_; rintro e w1 ⟨rfl, rfl⟩
  rw [HFT.out.1, HFT.out.2]
  go_wp2_with fail
  refine (rinner_at O N _ HB.out.1 HB.out.2.1).mono ?_; rintro e w1 ⟨rfl, rfl⟩
  rw [HFT.out.1, HFT.out.2]
  go_wp2_with fail
  refine (cut_at _ HB.out.1 HB.out.2.1 HK.out).mono ?_; rintro e w1 ⟨A1, c1, rfl, ho, hb⟩
  have O1 := Lib.hid ho
  have B1 := Lib.hid hb
  clear ho hb
  go_wp2_with fail
  refine (rcut_at _ HB.out.1 HB.out.2.1 HK.out).mono ?_; rintro e w2 ⟨A2, c2, rfl, ho, hb⟩
  have H1 := Lib.hid (has_own (pw_own_below O1.out hb))
  have H2 := Lib.hid (has_own ho)
  have HC2 := Lib.hid (own_cap ho)
  have B2 := Lib.hid (below_then B1.out B1.out.size hb)
  clear ho hb
  go_wp2_with fail
  refine (same_at K _ _ _ _ _ _ H1.out H2.out HKS.out (Nat.le_refl _) HC2.out).mono ?_; rintro e w3 ⟨rfl, hb⟩
  have B3 := Lib.hid (below_then B2.out B2.out.size hb)
  clear hb
  go_wp2_with fail
  refine (within_at _ (by have := HB.out; omega) (by have := HB.out; omega) (by have := HB.out; omega) HX.out).mono ?_; rintro e w4 ⟨rfl, rfl⟩
  go_wp2_with fail
  refine (rwithin_at _ (by have := HB.out; omega) (by have := HB.out; omega) (by have := HB.out; omega) HX.out).mono ?_; rintro e w4 ⟨rfl, rfl⟩
  go_wp2_with fail
  refine (wakes_any _).mono ?_; rintro e w4 ⟨rfl, hb⟩
  have B4 := Lib.hid (below_then B3.out B3.out.size hb)
  clear hb
  go_wp2_with fail
  go_ret
  exact ⟨rfl, B4.out⟩
end Go.Proofs.Ytgmjpnampjkfeaa.Pie
