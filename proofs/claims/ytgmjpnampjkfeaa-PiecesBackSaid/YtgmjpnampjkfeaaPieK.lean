/- Pieces: the pieces of a range have all its bytes: the walk. -/
import Derived.BigQuiet
import Derived.Test.YtgmjpnampjkfeaaPieI
set_option linter.unusedVariables false
set_option linter.unusedSimpArgs false
namespace Go.Proofs.Ytgmjpnampjkfeaa.Pie
open Go Go.RowKit Go.Proofs.YtgmjpnampjkfeaaW.PrintWords Go.Proofs.YtgmjpnampjkfeaaW.PrintLast Go.Proofs.YtgmjpnampjkfeaaW.PrintMore Base

theorem w64 {x : Int} (h0 : -9223372036854775808 ≤ x) (h1 : x < 9223372036854775808) : wrap64 x = x := by unfold wrap64; omega
theorem wu {x : Int} (h0 : 0 ≤ x) (h1 : x < 18446744073709551616) : IntKind.u64.wrap x = x := by rw [wrap_u64]; omega
theorem w64_eq {x y : Int} (h : x = y) (h0 : -9223372036854775808 ≤ y) (h1 : y < 9223372036854775808) : wrap64 x = y := by rw [h]; exact w64 h0 h1
theorem wu_eq {x y : Int} (h : x = y) (h0 : 0 ≤ y) (h1 : y < 18446744073709551616) : IntKind.u64.wrap x = y := by rw [h]; exact wu h0 h1
theorem ok_form (O N k : Nat) : okN O N k = 256 * pB O N k + pF O N k := by unfold pB pF; omega
theorem pA_zero (O N : Nat) : pA O N 0 = 0 := by unfold pA okN; simp
theorem pA_end {O N : Nat} : pA O N (cntP O N) = N := by unfold pA; rw [ok_end O N _ (Nat.le_refl _)]; omega
/-- What the stage's theorem asks of each piece. -/
structure Fine (O N j b f t a a1 : Nat) : Prop where
  ft : f < t
  t256 : t ≤ 256
  at_ : b * 256 + f = O + a
  next : a + t = a1 + f
  first : 0 < j → f = 0 ∧ pB O N (j - 1) + 1 = b
  last : j + 1 < cntP O N → t = 256
  small : a1 ≤ N
theorem fine {O N j : Nat} (h : j < cntP O N) : Fine O N j (pB O N j) (pF O N j) (pT O N j) (pA O N j) (pA O N (j + 1)) := by
  have hs := ok_step O N j h
  have h2 := h
  rw [lt_cnt] at h2
  have hr := ok_range O N j
  have hr1 := ok_range O N (j + 1)
  have hf := ok_form O N j
  have hm := pT_le h
  have h256 : pF O N j < 256 := Nat.mod_lt _ (by omega)
  refine ⟨?_, hm.1, ?_, ?_, ?_, ?_, ?_⟩
  · unfold pT pF at *; omega
  · unfold pA; omega
  · unfold pA; unfold pT; unfold pF at hf ⊢; omega
  · intro h0
    have hm0 := ok_mod O N j h0 h
    have hb := pB_eq h
    have hb1 := pB_eq (O := O) (N := N) (j := j - 1) (by omega)
    refine ⟨by unfold pF; omega, by omega⟩
  · intro h1
    have hm1 := ok_mod O N (j + 1) (by omega) h1
    rw [lt_cnt] at h1
    unfold pT
    omega
  · unfold pA; omega
theorem whole_nums {O b f t q q1 z K m : Nat} (h1 : f < 257) (h2 : t ≤ 256) (h3 : f < t) (h4 : q + t = q1 + f) (h5 : q1 ≤ 65536) (h6 : b * 256 + f = O + q) (h7 : O + q1 ≤ 4294967296) (h8 : O + q = z) (h9 : K = m + 1) (h10 : K < 65538) :
    IntKind.u64.wrap ((b : Int) * 256) = (b : Int) * 256 ∧ IntKind.u64.wrap (f : Int) = (f : Int) ∧ IntKind.u64.wrap (q : Int) = (q : Int) ∧ IntKind.u64.wrap ((b : Int) * 256 + (f : Int)) = (z : Int) ∧ IntKind.u64.wrap ((O : Int) + (q : Int)) = (z : Int) ∧
    wrap64 ((q : Int) + (t : Int)) = (q : Int) + (t : Int) ∧ wrap64 ((q : Int) + (t : Int) - (f : Int)) = (q1 : Int) ∧ wrap64 ((K : Int) - 1) = (m : Int) :=
  ⟨wu (by omega) (by omega), wu (by omega) (by omega), wu (by omega) (by omega), wu_eq (by omega) (by omega) (by omega), wu_eq (by omega) (by omega) (by omega), w64 (by omega) (by omega), w64_eq (by omega) (by omega) (by omega), w64_eq (by omega) (by omega) (by omega)⟩
theorem pred_num {j i K : Nat} (h : j = i + 1) (h1 : j < K) (h2 : K < 65538) : wrap64 ((j : Int) - 1) = (i : Int) := w64_eq (by omega) (by omega) (by omega)
theorem succ_num {b' b O q f : Nat} (h : b' + 1 = b) (h6 : b * 256 + f = O + q) (h7 : O + q ≤ 4294967296) : IntKind.u64.wrap ((b' : Int) + 1) = (b : Int) := wu_eq (by omega) (by omega) (by omega)
end Go.Proofs.Ytgmjpnampjkfeaa.Pie
