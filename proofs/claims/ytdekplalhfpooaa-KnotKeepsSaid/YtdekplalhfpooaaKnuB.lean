/- Knots: where a key stands among rising keys; what is put in, changed, taken out again: plain laws. -/
import Derived.Test.YtdekplalhfpooaaKntY
set_option linter.unusedVariables false
set_option linter.unusedSimpArgs false
namespace Go.Proofs.Ytdekplalhfpooaa.Knt
open Go Go.RowKit

theorem pos_all {p : Int → Bool} : ∀ {K : List Int} {m j : Nat}, j < pos K m p → p (K.getD j 0) = true := by
  intro K
  induction K with
  | nil => intro m j h; unfold pos at h; simp at h
  | cons x xs ih =>
    intro m j h
    cases m with
    | zero => unfold pos at h; simp at h
    | succ m =>
      unfold pos at h
      rw [List.take_succ_cons, List.takeWhile_cons] at h
      split at h
      · rename_i hx
        cases j with
        | zero => simpa using hx
        | succ j => rw [List.getD_cons_succ]; exact ih (m := m) (by unfold pos; simpa using h)
      · simp at h
theorem pos_end {p : Int → Bool} : ∀ {K : List Int} {m : Nat}, pos K m p < m → m ≤ K.length → p (K.getD (pos K m p) 0) = false := by
  intro K
  induction K with
  | nil => intro m h h2; simp only [List.length_nil] at h2; omega
  | cons x xs ih =>
    intro m h h2
    cases m with
    | zero => omega
    | succ m =>
      have e : pos (x :: xs) (m + 1) p = if p x = true then pos xs m p + 1 else 0 := by
        unfold pos
        rw [List.take_succ_cons, List.takeWhile_cons]
        split <;> simp
      rw [e] at h ⊢
      split at h
      · rename_i hx
        rw [if_pos hx, List.getD_cons_succ]
        exact ih (by omega) (by simp only [List.length_cons] at h2; omega)
      · rename_i hx
        rw [if_neg hx, List.getD_cons_zero]
        simpa using hx
theorem up_le {K : List Int} (h : Up K) {i j : Nat} (hij : i ≤ j) (hj : j < K.length) : K.getD i 0 ≤ K.getD j 0 := by
  rcases Nat.lt_or_ge i j with h1 | h1
  · exact Int.le_of_lt (up_get h h1 hj)
  · obtain rfl : i = j := by omega
    exact Int.le_refl _
theorem at_lt {K : List Int} {q i j : Nat} {key : Int} (hi : pos K q (below key) = i) (hj : j < i) : K.getD j 0 < key := by
  subst hi
  have := pos_all hj
  simpa [below] using this
theorem at_ge {K : List Int} {q i j : Nat} {key : Int} (hup : Up K) (hl : K.length = q) (hi : pos K q (below key) = i) (hij : i ≤ j) (hj : j < q) : key ≤ K.getD j 0 := by
  subst hi
  have h1 := pos_end (p := below key) (K := K) (m := q) (by omega) (by omega)
  have h2 : key ≤ K.getD (pos K q (below key)) 0 := by simpa [below] using h1
  exact Int.le_trans h2 (up_le hup hij (by omega))
/-- Child's place: its key is not above (or it is the first); the next one's is. -/
theorem child_fit {K : List Int} {q c : Nat} {key : Int} (hup : Up K) (hl : K.length = q) (hc : pos K q (atmost key) - 1 = c) (hq : 0 < q) :
    c < q ∧ (key < K.getD c 0 → c = 0) ∧ (c + 1 < q → key < K.getD (c + 1) 0) := by
  have hle := pos_le K q (atmost key)
  have ha : ∀ j, j < pos K q (atmost key) → K.getD j 0 ≤ key := fun j hj => by
    have := pos_all hj
    simpa [atmost] using this
  have hb : pos K q (atmost key) < q → key < K.getD (pos K q (atmost key)) 0 := fun h => by
    have := pos_end h (by omega)
    simpa [atmost] using this
  generalize pos K q (atmost key) = p at *
  refine ⟨by omega, fun h => ?_, fun h => ?_⟩
  · by_cases h0 : p = 0
    · omega
    · have := ha c (by omega); omega
  · by_cases h0 : p = 0
    · subst h0
      have h1 := hb (by omega)
      have h2 := up_get hup (i := 0) (j := c + 1) (by omega) (by omega)
      omega
    · have e : c + 1 = p := by omega
      rw [e]; exact hb (by omega)
theorem set_get {K : List Int} {i : Nat} {x : Int} (hi : i < K.length) : (setL K (i : Int) x).getD i 0 = x := by
  unfold setL
  rw [if_pos (by omega), Int.toNat_natCast, List.getD_eq_getElem?_getD, List.getElem?_append_right (by rw [List.length_take]; omega), List.length_take, Nat.min_eq_left (by omega), Nat.sub_self]; rfl
theorem set_back {K : List Int} {i : Nat} {x y : Int} (hi : i < K.length) (hy : K.getD i 0 = y) : setL (setL K (i : Int) x) (i : Int) y = K := by
  have e : ∀ (M : List Int) (z : Int), i < M.length → setL M (i : Int) z = M.set i z := fun M z hM => by
    unfold setL
    rw [if_pos (by omega), Int.toNat_natCast, List.set_eq_take_append_cons_drop, if_pos hM]
  rw [e K x hi, e _ y (by rw [List.length_set]; exact hi), List.set_set]
  apply List.ext_getElem?
  intro j
  rw [List.getElem?_set]
  split
  · subst_vars
    rw [List.getD_eq_getElem?_getD, List.getElem?_eq_getElem hi]; rfl
  · rfl
theorem ins_form {K : List Int} {i : Nat} {x : Int} (hi : i ≤ K.length) : insL K (i : Int) x = K.take i ++ x :: K.drop i := by
  unfold insL
  rw [Int.toNat_natCast, Nat.min_eq_left hi]
theorem ins_get {K : List Int} {i : Nat} {x : Int} (hi : i ≤ K.length) : (insL K (i : Int) x).getD i 0 = x := by
  rw [ins_form hi, List.getD_eq_getElem?_getD, List.getElem?_append_right (by rw [List.length_take]; omega), List.length_take, Nat.min_eq_left hi, Nat.sub_self]; rfl
theorem ins_before {K : List Int} {i j : Nat} {x : Int} (hi : i ≤ K.length) (hj : j < i) : (insL K (i : Int) x).getD j 0 = K.getD j 0 := by
  rw [ins_form hi, List.getD_eq_getElem?_getD, List.getElem?_append_left (by rw [List.length_take]; omega), List.getElem?_take, if_pos hj, ← List.getD_eq_getElem?_getD]
theorem ins_rem {K : List Int} {i : Nat} {x : Int} (hi : i ≤ K.length) : remL (insL K (i : Int) x) (i : Int) = K := by
  unfold remL
  rw [insL_len, if_pos (by omega), ins_form hi, Int.toNat_natCast, List.take_append_of_le_length (by rw [List.length_take]; omega), List.take_take, Nat.min_self, List.drop_append, List.drop_eq_nil_of_le (by rw [List.length_take]; omega), List.length_take, Nat.min_eq_left hi, show i + 1 - i = 1 by omega]
  simp
theorem ins_up {K : List Int} {q i : Nat} {key : Int} (hup : Up K) (hl : K.length = q) (hi : pos K q (below key) = i) (hno : ¬ (i < q ∧ K.getD i 0 = key)) : Up (insL K (i : Int) key) ∧ pos (insL K (i : Int) key) (q + 1) (below key) = i := by
  have hiq : i ≤ q := by rw [← hi]; exact pos_le _ _ _
  refine ⟨?_, ?_⟩
  · rw [ins_form (by omega)]
    refine up_ins hup (fun j hj => at_lt hi hj) (fun h => ?_)
    have := at_ge hup hl hi (Nat.le_refl _) (by omega)
    by_cases he : K.getD i 0 = key
    · exact absurd ⟨by omega, he⟩ hno
    · omega
  · refine pos_at (by omega) (by rw [insL_len]; omega) (fun j hj => ?_) (fun _ => ?_)
    · rw [ins_before (by omega) hj]
      have := at_lt hi hj
      simpa [below] using this
    · rw [ins_get (by omega)]
      simp [below]
end Go.Proofs.Ytdekplalhfpooaa.Knt
