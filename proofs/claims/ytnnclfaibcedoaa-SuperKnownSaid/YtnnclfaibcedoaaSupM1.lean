/- Forms are taken as what they were put from: plain laws (no condition). -/
import Derived.Test.YtnnclfaibcedoaaSupL
set_option linter.unusedVariables false
set_option linter.unusedSimpArgs false
namespace Go.Proofs.Ytnnclfaibcedoaa.Sup
open Go Go.RowKit Base Odr

theorem be_snoc (m y : Int) (k : Nat) (h0 : 0 ≤ y) (h1 : y < 256) : be (m * 256 + y) (k + 1) = be m k ++ [y] := by
  unfold be
  rw [List.range_succ, List.map_append]
  congr 1
  · apply List.map_congr_left
    intro i hi
    have hi' : i < k := by simpa using hi
    have e : k + 1 - 1 - i = (k - 1 - i) + 1 := by omega
    rw [e, pow8, ← Int.ediv_ediv_of_nonneg (by decide), show (m * 256 + y) / 256 = m by omega]
  · simp; omega
theorem getN_be : ∀ (k : Nat) (m : Int), 0 ≤ m → m < (256 : Int) ^ k → getN (be m k) = m := by
  intro k
  induction k with
  | zero => intro m h0 h1; have : m = 0 := by simp at h1; omega
            subst this; rfl
  | succ k ih =>
    intro m h0 h1
    rw [Int.pow_succ] at h1
    have e : m = (m / 256) * 256 + m % 256 := by omega
    have h2 : be m (k + 1) = be (m / 256) k ++ [m % 256] := by
      conv => lhs; rw [e]
      exact be_snoc _ _ _ (by omega) (by omega)
    rw [h2, getN_snoc, ih (m / 256) (by omega) (by omega)]
    omega
theorem form_len (G B D N : Int) : (formL G B D N).length = 64 := by
  unfold formL; rw [List.length_append, List.length_append, front_length _ _ _ _ _ (by omega), be_length, List.length_replicate]
theorem form_piece (p q r : List Int) (n : Int) (at_ : Nat) (h : p.length = at_) (hq : q = p ++ be n 8 ++ r) (h0 : 0 ≤ n) (h1 : n < 18446744073709551616) : getN ((q.drop at_).take 8) = n := by
  subst hq
  rw [List.append_assoc, List.drop_append_of_le_length (by omega), List.drop_of_length_le (by omega), List.nil_append, List.take_append_of_le_length (by rw [be_length]; omega), List.take_of_length_le (by rw [be_length]; omega)]
  exact getN_be 8 n h0 (by omega)
theorem take_form (G B D N : Int) (hm : may G B D N = true) (hD : 0 ≤ D) : takeS (formL G B D N) 0 = G ∧ takeS (formL G B D N) 1 = B ∧ takeS (formL G B D N) 2 = D ∧ takeS (formL G B D N) 3 = N ∧ takeE (formL G B D N) = 0 := by
  obtain ⟨⟨a0, a1⟩, ⟨b0, b1⟩, d1, n0, n1⟩ := may_all hm
  have e0 : n4 (formL G B D N) 0 = G := by
    rw [← n4_at _ 0 4 rfl]; exact form_piece [99, 105, 115, 116] _ (be B 8 ++ be D 8 ++ be N 8 ++ List.replicate 20 0 ++ be G 8) G 4 rfl (by simp [formL, front]) (by omega) (by omega)
  have e1 : n4 (formL G B D N) 1 = B := by
    rw [← n4_at _ 1 12 rfl]; exact form_piece ([99, 105, 115, 116] ++ be G 8) _ (be D 8 ++ be N 8 ++ List.replicate 20 0 ++ be G 8) B 12 (by simp [be_length]) (by simp [formL, front]) (by omega) (by omega)
  have e2 : n4 (formL G B D N) 2 = D := by
    rw [← n4_at _ 2 20 rfl]; exact form_piece ([99, 105, 115, 116] ++ be G 8 ++ be B 8) _ (be N 8 ++ List.replicate 20 0 ++ be G 8) D 20 (by simp [be_length]) (by simp [formL, front]) (by omega) (by omega)
  have e3 : n4 (formL G B D N) 3 = N := by
    rw [← n4_at _ 3 28 rfl]; exact form_piece ([99, 105, 115, 116] ++ be G 8 ++ be B 8 ++ be D 8) _ (List.replicate 20 0 ++ be G 8) N 28 (by simp [be_length]) (by simp [formL, front]) (by omega) (by omega)
  have he : takeE (formL G B D N) = 0 := by
    unfold takeE
    rw [form_len, if_neg (by omega), if_neg (by omega), e0, e1, e2, e3, if_neg (by omega), if_pos ⟨hm, rfl⟩]
  refine ⟨?_, ?_, ?_, ?_, he⟩ <;> unfold takeS <;> rw [if_pos he] <;> assumption
theorem take_back (l : List Int) (h : takeE l = 0) : may (takeS l 0) (takeS l 1) (takeS l 2) (takeS l 3) = true ∧ formL (takeS l 0) (takeS l 1) (takeS l 2) (takeS l 3) = l := by
  have hs : ∀ i, takeS l i = n4 l i := fun i => if_pos h
  rw [hs, hs, hs, hs]
  unfold takeE at h
  by_cases h1 : l.length < 64
  · rw [if_pos h1] at h; omega
  rw [if_neg h1] at h
  by_cases h2 : 64 < l.length
  · rw [if_pos h2] at h; omega
  rw [if_neg h2] at h
  by_cases h3 : 1024 < n4 l 1
  · rw [if_pos h3] at h; omega
  rw [if_neg h3] at h
  by_cases h4 : may (n4 l 0) (n4 l 1) (n4 l 2) (n4 l 3) = true ∧ formL (n4 l 0) (n4 l 1) (n4 l 2) (n4 l 3) = l
  · exact h4
  · rw [if_neg h4] at h; omega
end Go.Proofs.Ytnnclfaibcedoaa.Sup
