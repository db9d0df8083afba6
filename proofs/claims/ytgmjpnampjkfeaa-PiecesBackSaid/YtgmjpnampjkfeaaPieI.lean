/- Pieces: which blocks lie within a range: plain facts, and the walk. -/
import Derived.BigQuiet
import Derived.Test.YtgmjpnampjkfeaaPieH
set_option linter.unusedVariables false
set_option linter.unusedSimpArgs false
namespace Go.Proofs.Ytgmjpnampjkfeaa.Pie
open Go Go.RowKit Go.Proofs.YtgmjpnampjkfeaaW.PrintWords Go.Proofs.YtgmjpnampjkfeaaW.PrintLast Go.Proofs.YtgmjpnampjkfeaaW.PrintMore Base

def iF (O N : Nat) : Nat := if O + N ≤ 4294967296 ∧ (O + 255) / 256 < (O + N) / 256 then (O + 255) / 256 else 0
def iT (O N : Nat) : Nat := if O + N ≤ 4294967296 ∧ (O + 255) / 256 < (O + N) / 256 then (O + N) / 256 else 0
theorem within_nat (O N : Nat) : within O N 4294967296 = decide (O + N ≤ 4294967296) := by
  unfold within
  by_cases h : O + N ≤ 4294967296
  · rw [decide_eq_true h, decide_eq_true (show (O : Int) ≤ 4294967296 by omega), decide_eq_true (show (N : Int) ≤ 4294967296 - O by omega)]; rfl
  · rw [decide_eq_false h]
    by_cases h1 : (O : Int) ≤ 4294967296
    · rw [decide_eq_true h1, decide_eq_false (show ¬ (N : Int) ≤ 4294967296 - O by omega)]; rfl
    · rw [decide_eq_false h1]; rfl
theorem innerF_nat (O N : Nat) : innerF O N = (iF O N : Int) := by
  unfold innerF iF
  rw [within_nat]
  by_cases h : O + N ≤ 4294967296 ∧ (O + 255) / 256 < (O + N) / 256
  · rw [if_pos h, if_pos ⟨decide_eq_true h.1, by omega⟩]; omega
  · rw [if_neg h, if_neg (fun hh => h ⟨of_decide_eq_true hh.1, by omega⟩)]; rfl
theorem innerT_nat (O N : Nat) : innerT O N = (iT O N : Int) := by
  unfold innerT iT
  rw [within_nat]
  by_cases h : O + N ≤ 4294967296 ∧ (O + 255) / 256 < (O + N) / 256
  · rw [if_pos h, if_pos ⟨decide_eq_true h.1, by omega⟩]; omega
  · rw [if_neg h, if_neg (fun hh => h ⟨of_decide_eq_true hh.1, by omega⟩)]; rfl
theorem inner_at (O N : Nat) (w : World) (hO : O < 18446744073709551616) (hN : N < 18446744073709551616) :
    Calls Try.prog 11 #[.int .u64 (O : Int), .int .u64 (N : Int)] w fun e w' => e = .returned (.tuple #[.int .u64 (iF O N : Int), .int .u64 (iT O N : Int)]) ∧ w = w' := by
  rw [← innerF_nat, ← innerT_nat]; exact inner_any O N w (by omega) (by omega)
theorem inner_cases (O N : Nat) : (iF O N = 0 ∧ iT O N = 0) ∨ iF O N < iT O N := by
  unfold iF iT
  split
  · rename_i h; exact .inr h.2
  · exact .inl ⟨rfl, rfl⟩
theorem cutK_pos {O N : Nat} (h : 0 < cutK O N) : cutK O N = cntP O N ∧ N ≤ 65536 ∧ O + N ≤ 4294967296 ∧ 0 < N := by
  unfold cutK at h ⊢
  split at h
  · rename_i h1
    refine ⟨if_pos h1, h1.1, h1.2, ?_⟩
    rcases Nat.eq_zero_or_pos N with h2 | h2
    · subst h2; simp [cntP] at h
    · exact h2
  · omega
theorem pB_eq {O N j : Nat} (h : j < cntP O N) : pB O N j = O / 256 + j := by
  rw [lt_cnt] at h
  unfold pB
  unfold okN at h ⊢
  split at h
  · rename_i h0; subst h0; rw [if_pos rfl]; rfl
  · rename_i h0; rw [if_neg h0]; omega
/-- A piece is a whole block. -/
theorem whole_iff {O N j : Nat} (h : j < cntP O N) : (pT O N j = pF O N j + 256) ↔ ((O + 255) / 256 < (O + N) / 256 ∧ (O + 255) / 256 ≤ O / 256 + j ∧ O / 256 + j < (O + N) / 256) := by
  have h2 := h
  rw [lt_cnt] at h2
  have e : okN O N (j + 1) = min (256 * (O / 256 + (j + 1))) (O + N) := by unfold okN; rw [if_neg (by omega)]
  unfold pT pF
  rw [e]
  unfold okN at h2 ⊢
  split at h2
  · rename_i h0; subst h0; rw [if_pos rfl]; omega
  · rename_i h0; rw [if_neg h0]; omega
/-- The block that the next whole piece must be. -/
def kI (O N j : Nat) : Nat := if cutK O N = 0 then iF O N else if (O + 255) / 256 < (O + N) / 256 then max ((O + 255) / 256) (min ((O + N) / 256) (O / 256 + j)) else 0
theorem kI_zero (O N : Nat) : kI O N 0 = iF O N := by
  unfold kI
  split
  · rfl
  · rename_i h
    obtain ⟨h1, h2, h3, h4⟩ := cutK_pos (Nat.pos_of_ne_zero h)
    unfold iF
    split
    · rename_i h5; rw [if_pos ⟨h3, h5⟩]; omega
    · rename_i h5; rw [if_neg (fun hh => h5 hh.2)]
theorem kI_end (O N : Nat) (h : 0 < cutK O N) : kI O N (cutK O N) = iT O N := by
  obtain ⟨h1, h2, h3, h4⟩ := cutK_pos h
  unfold kI iT
  rw [if_neg (by omega)]
  have hc : cutK O N = (O + N - 1) / 256 - O / 256 + 1 := by rw [h1]; unfold cntP; rw [if_neg (by omega)]
  rw [hc]
  split
  · rename_i h5; rw [if_pos ⟨h3, h5⟩]; omega
  · rename_i h5; rw [if_neg (fun hh => h5 hh.2)]
theorem kI_whole {O N j : Nat} (h : j < cutK O N) (hw : pT O N j = pF O N j + 256) : pB O N j = kI O N j ∧ kI O N (j + 1) = kI O N j + 1 ∧ kI O N j < 16777217 := by
  obtain ⟨h1, h2, h3, h4⟩ := cutK_pos (Nat.lt_of_le_of_lt (Nat.zero_le _) h)
  rw [h1] at h
  rw [pB_eq h]
  rw [whole_iff h] at hw
  unfold kI
  rw [if_neg (by omega), if_pos hw.1, if_neg (by omega), if_pos hw.1]
  omega
theorem kI_part {O N j : Nat} (h : j < cutK O N) (hw : ¬ pT O N j = pF O N j + 256) : kI O N (j + 1) = kI O N j := by
  obtain ⟨h1, h2, h3, h4⟩ := cutK_pos (Nat.lt_of_le_of_lt (Nat.zero_le _) h)
  rw [h1] at h
  rw [whole_iff h] at hw
  have hk0 : cutK O N ≠ 0 := by omega
  unfold kI
  by_cases h5 : (O + 255) / 256 < (O + N) / 256
  · simp only [if_neg hk0, if_pos h5]
    have h6 := h
    rw [lt_cnt] at h6
    omega
  · simp only [if_neg hk0, if_neg h5]
theorem below_dn {B : Nat} {a w : World} (h : Below B a w) (n : Nat) : Below B a (w.drewN n) := h.trans ⟨rfl, rfl, rfl, Nat.le_refl _, fun _ _ => rfl⟩
theorem pT_le {O N j : Nat} (h : j < cntP O N) : pT O N j ≤ 256 ∧ pF O N j ≤ pT O N j := by
  have h2 := ok_step O N j h
  unfold pT pF
  omega
theorem cutK_le (O N : Nat) : cutK O N ≤ 65537 := by
  unfold cutK cntP
  split
  · split <;> omega
  · omega
theorem pl_at {W : World} {base K c : Nat} {A : Option Addr} {O N : Nat} (ho : W.ownsRow base 31 4 (.slice A K c) K (cutC O N K)) {j : Nat} (hj : j < K) : ∃ g, A = some ⟨g, 0, none⟩ ∧
    W.cell? ⟨g, j * 4, none⟩ = some (.int .u64 (pB O N j : Int)) ∧ W.cell? ⟨g, j * 4 + 1, none⟩ = some (.int .i64 (pF O N j : Int)) ∧ W.cell? ⟨g, j * 4 + 2, none⟩ = some (.int .i64 (pT O N j : Int)) ∧ W.cell? ⟨g, j * 4 + 3, none⟩ = some (.int .i64 (pA O N j : Int)) := by
  obtain ⟨g, cap, he, hg, -⟩ := ho.form (by omega)
  injection he with h1 h2 h3
  subst h1
  refine ⟨g, rfl, ?_, ?_, ?_, ?_⟩
  · exact own_cell4 ho _ _ (by rw [Nat.mul_comm]; exact cutC_at O N K j 0 hj (by omega))
  · exact own_cell4 ho _ _ (by rw [Nat.mul_comm]; exact cutC_at O N K j 1 hj (by omega))
  · exact own_cell4 ho _ _ (by rw [Nat.mul_comm]; exact cutC_at O N K j 2 hj (by omega))
  · exact own_cell4 ho _ _ (by rw [Nat.mul_comm]; exact cutC_at O N K j 3 hj (by omega))
end Go.Proofs.Ytgmjpnampjkfeaa.Pie
