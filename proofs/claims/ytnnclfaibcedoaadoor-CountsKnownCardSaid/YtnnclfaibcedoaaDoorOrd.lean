/- bytes.Clone, order.Put and order.Get, by their contracts (every input). -/
import Derived.Test.YtnnclfaibcedoaaDoorBase
import Derived.Lib.SliceRun
set_option linter.unusedVariables false
set_option linter.unusedSimpArgs false
namespace Go.Proofs.YtnnclfaibcedoaaDoor.Odr
open Go Go.RowKit Go.Proofs.YtnnclfaibcedoaaDoorW.PrintWords Go.Proofs.YtnnclfaibcedoaaDoorW.PrintLast Go.Proofs.YtnnclfaibcedoaaDoorW.PrintMore Base

/-- A number's bytes, the highest first. -/
def be (n : Int) (size : Nat) : List Int := (List.range size).map fun i => n / (2 : Int) ^ (8 * (size - 1 - i)) % 256
theorem be_length (n : Int) (size : Nat) : (be n size).length = size := by simp [be]
theorem be_range (n : Int) (size : Nat) : ∀ x ∈ be n size, (Lit.int .u8 x).wf = true := by
  intro x hx
  simp only [be, List.mem_map] at hx
  obtain ⟨i, _, rfl⟩ := hx
  exact wf8 (by omega)
theorem be_take (n : Int) (size j : Nat) (h : j < size) : (be n size).take (j + 1) = (be n size).take j ++ [n / (2 : Int) ^ (8 * (size - 1 - j)) % 256] := by
  rw [List.take_succ_eq_append_getElem (by rw [be_length]; exact h)]
  simp [be]
/-- The number of bytes, the highest first. -/
def getN (xs : List Int) : Int := xs.foldl (fun a x => a * 256 + x) 0
theorem getN_snoc (xs : List Int) (x : Int) : getN (xs ++ [x]) = getN xs * 256 + x := by simp [getN, List.foldl_append]
theorem getN_bound : ∀ (k : Nat) (xs : List Int), xs.length = k → (∀ x ∈ xs, (Lit.int .u8 x).wf = true) → 0 ≤ getN xs ∧ getN xs < (256 : Int) ^ k := by
  intro k
  induction k with
  | zero => intro xs h _; rw [List.eq_nil_of_length_eq_zero h]; exact ⟨by decide, by decide⟩
  | succ k ih =>
    intro xs h hw
    rcases List.eq_nil_or_concat xs with h0 | ⟨ys, y, rfl⟩
    · subst h0; simp at h
    · rw [List.concat_eq_append] at h hw ⊢
      have h1 := ih ys (by simpa using h) (fun x hx => hw x (by simp [hx]))
      have h2 := le_of_wf8 (hw y (by simp))
      rw [getN_snoc, Int.pow_succ]
      omega

end Go.Proofs.YtnnclfaibcedoaaDoor.Odr
