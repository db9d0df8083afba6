/- A node's form: the document's eight and Put (every input). -/
import Derived.Test.YtdekplalhfpooaaDoorNodG
set_option linter.unusedVariables false
set_option linter.unusedSimpArgs false
namespace Go.Proofs.YtdekplalhfpooaaDoor.Nod
open Go Go.RowKit Go.Proofs.YtdekplalhfpooaaDoorW.PrintWords Go.Proofs.YtdekplalhfpooaaDoorW.PrintLast Go.Proofs.YtdekplalhfpooaaDoorW.PrintMore Base Odr Hlp

theorem be_getElem (n : Int) (size i : Nat) (h : i < size) (h' : i < (be n size).length) : (be n size)[i] = n / (2 : Int) ^ (8 * (size - 1 - i)) % 256 := by simp [be]
theorem mid_set (m y : List Int) (i k : Nat) (hm : m.length = k) (hy : y.length = k) (hi : i < k) : (m.take (i + 1) ++ y.drop (i + 1)).set i (y[i]'(by omega)) = m.take i ++ y.drop i := by
  rw [List.take_succ_eq_append_getElem (by omega), List.append_assoc, List.set_append_right _ _ (by rw [List.length_take]; omega), List.length_take, show i - min i m.length = 0 by omega]
  rw [List.drop_eq_getElem_cons (show i < y.length by omega)]
  rfl
theorem pow8 (j : Nat) : (2 : Int) ^ (8 * (j + 1)) = 256 * (2 : Int) ^ (8 * j) := by
  rw [show 8 * (j + 1) = 8 * j + 8 by omega, Int.pow_add]; omega
theorem pow8_pos (j : Nat) : 0 < (2 : Int) ^ (8 * j) := Int.pow_pos (by decide)
theorem div_step (m : Int) (j : Nat) : m / (2 : Int) ^ (8 * (j + 1)) = m / (2 : Int) ^ (8 * j) / 256 := by
  rw [pow8, Int.mul_comm, ← Int.ediv_ediv_of_nonneg (Int.le_of_lt (pow8_pos j))]
theorem div_bound (m : Int) (j : Nat) (b : Int) (h0 : 0 ≤ m) (h1 : m < b) : 0 ≤ m / (2 : Int) ^ (8 * j) ∧ m / (2 : Int) ^ (8 * j) < b := by
  have hp := pow8_pos j
  refine ⟨Int.ediv_nonneg h0 (Int.le_of_lt hp), Int.lt_of_le_of_lt (Int.ediv_le_self _ h0) h1⟩
end Go.Proofs.YtdekplalhfpooaaDoor.Nod
