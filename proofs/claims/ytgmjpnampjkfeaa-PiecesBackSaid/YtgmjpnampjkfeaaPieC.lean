/- Pieces: where pieces begin and end, plain; the cutter's next, piece by piece. -/
import Derived.Test.YtgmjpnampjkfeaaPieB
set_option linter.unusedVariables false
set_option linter.unusedSimpArgs false
namespace Go.Proofs.Ytgmjpnampjkfeaa.Pie
open Go Go.RowKit Go.Proofs.YtgmjpnampjkfeaaW.PrintWords Go.Proofs.YtgmjpnampjkfeaaW.PrintLast Go.Proofs.YtgmjpnampjkfeaaW.PrintMore Base

/-- Where a range's piece begins. -/
def okN (O N k : Nat) : Nat := if k = 0 then O else min (256 * (O / 256 + k)) (O + N)
/-- How many pieces a range has. -/
def cntP (O N : Nat) : Nat := if N = 0 then 0 else (O + N - 1) / 256 - O / 256 + 1
theorem ok_range (O N k : Nat) : O ≤ okN O N k ∧ okN O N k ≤ O + N := by unfold okN; split <;> omega
theorem lt_cnt (O N k : Nat) : k < cntP O N ↔ okN O N k < O + N := by
  unfold okN cntP
  split <;> split <;> omega
theorem ok_end (O N k : Nat) (h : cntP O N ≤ k) : okN O N k = O + N := by
  have h1 := ok_range O N k
  have h2 := lt_cnt O N k
  omega
theorem ok_step (O N k : Nat) (h : k < cntP O N) : okN O N (k + 1) = okN O N k + min (O + N - okN O N k) (256 - okN O N k % 256) := by
  rw [lt_cnt] at h
  have e : okN O N (k + 1) = min (256 * (O / 256 + (k + 1))) (O + N) := by unfold okN; rw [if_neg (by omega)]
  rw [e]
  unfold okN at h ⊢
  split at h
  · rename_i h0; subst h0; rw [if_pos rfl]; omega
  · rename_i h0; rw [if_neg h0]; omega
theorem ok_mod (O N k : Nat) (h0 : 0 < k) (h : k < cntP O N) : okN O N k = 256 * (O / 256 + k) := by
  rw [lt_cnt] at h
  unfold okN at h ⊢
  rw [if_neg (by omega)] at h ⊢
  omega
def pB (O N k : Nat) : Nat := okN O N k / 256
def pF (O N k : Nat) : Nat := okN O N k % 256
def pT (O N k : Nat) : Nat := okN O N k % 256 + (okN O N (k + 1) - okN O N k)
def pA (O N k : Nat) : Nat := okN O N k - O
def pcell (O N k : Nat) : List Value := [.int .u64 (pB O N k : Int), .int .i64 (pF O N k : Int), .int .i64 (pT O N k : Int), .int .i64 (pA O N k : Int)]
def zcell : List Value := [.int .u64 0, .int .i64 0, .int .i64 0, .int .i64 0]
def pcv (O N k : Nat) : List Value := if k < cntP O N then pcell O N k else zcell
def stv (O N k : Nat) : Array Value := #[.int .u64 (okN O N k : Int), .int .u64 ((O + N - okN O N k : Nat) : Int), .int .i64 ((okN O N k - O : Nat) : Int)]
theorem pcv_form (O N k : Nat) : ∃ a b c d : Int, pcv O N k = [.int .u64 a, .int .i64 b, .int .i64 c, .int .i64 d] := by
  unfold pcv
  split
  · exact ⟨_, _, _, _, rfl⟩
  · exact ⟨0, 0, 0, 0, rfl⟩
theorem next_k (O N k : Nat) (g : Nat) (w : World) (hb : O + N ≤ 4294967296) (hn : N ≤ 4294967296) (hrow : w.heap[g]? = some (.cells (stv O N k) 47)) :
    Calls Try.prog 26 #[.pointer (some ⟨g, 0, none⟩)] w fun e w' => e = .returned (.tuple #[.agg (pcv O N k).toArray, .bool (decide (k < cntP O N))]) ∧ w'.heap[g]? = some (.cells (stv O N (k + 1)) 47) ∧ w.grownBy w' (some g) := by
  have hr := ok_range O N k
  by_cases h : k < cntP O N
  · have hst := ok_step O N k h
    have hlt := (lt_cnt O N k).1 h
    refine (next_ok (okN O N k) (O + N - okN O N k) (okN O N k - O) (okN O N (k + 1) - okN O N k) g w hrow (by omega) (by omega) (by omega) (by omega)).mono ?_
    rintro e w' ⟨rfl, h1, h2⟩
    refine ⟨?_, ?_, h2⟩
    · rw [decide_eq_true h]
      have e1 : pcv O N k = pcell O N k := if_pos h
      rw [e1]
      show Ending.returned _ = Ending.returned (.tuple #[.agg #[.int .u64 (pB O N k : Int), .int .i64 (pF O N k : Int), .int .i64 (pT O N k : Int), .int .i64 (pA O N k : Int)], .bool true])
      unfold pB pF pT pA
      rfl
    · rw [h1]
      unfold stv
      rw [show okN O N k + (okN O N (k + 1) - okN O N k) = okN O N (k + 1) by omega, show O + N - okN O N k - (okN O N (k + 1) - okN O N k) = O + N - okN O N (k + 1) by omega, show okN O N k - O + (okN O N (k + 1) - okN O N k) = okN O N (k + 1) - O by omega]
  · have he := ok_end O N k (by omega)
    have he1 := ok_end O N (k + 1) (by omega)
    have hs : stv O N k = #[.int .u64 ((O + N : Nat) : Int), .int .u64 0, .int .i64 ((O + N - O : Nat) : Int)] := by unfold stv; rw [he, Nat.sub_self]; rfl
    have hs1 : stv O N (k + 1) = stv O N k := by unfold stv; rw [he, he1]
    rw [hs] at hrow
    refine (next_end _ _ g w hrow).mono ?_
    rintro e w' ⟨rfl, hb2⟩
    refine ⟨?_, ?_, grown_of_below hb2 _⟩
    · rw [decide_eq_false h]
      have e1 : pcv O N k = zcell := if_neg h
      rw [e1]; rfl
    · rw [hs1, hs]; exact keep_row hrow hb2
/-- Pieces' cells, one behind the other. -/
def cutC (O N : Nat) : Nat → List Value
  | 0 => []
  | k + 1 => cutC O N k ++ pcell O N k
theorem cutC_len (O N k : Nat) : (cutC O N k).length = 4 * k := by
  induction k with
  | zero => rfl
  | succ k ih => simp only [cutC, List.length_append, ih]; show 4 * k + 4 = _; omega
theorem cutC_at (O N : Nat) : ∀ (k i j : Nat), i < k → j < 4 → (cutC O N k)[4 * i + j]? = (pcell O N i)[j]? := by
  intro k
  induction k with
  | zero => intro i j h _; omega
  | succ k ih =>
    intro i j hi hj
    simp only [cutC]
    rcases Nat.lt_or_ge i k with h | h
    · rw [List.getElem?_append_left (by rw [cutC_len]; omega)]; exact ih i j h hj
    · obtain rfl : i = k := by omega
      rw [List.getElem?_append_right (by rw [cutC_len]; omega), cutC_len, show 4 * i + j - 4 * i = j by omega]
end Go.Proofs.Ytgmjpnampjkfeaa.Pie
