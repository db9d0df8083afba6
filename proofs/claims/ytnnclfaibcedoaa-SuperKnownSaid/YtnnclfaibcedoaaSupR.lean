/- A form torn over another one is the one, the other, or none: plain law (no condition). -/
import Derived.Test.YtnnclfaibcedoaaSupM1
set_option linter.unusedVariables false
set_option linter.unusedSimpArgs false
namespace Go.Proofs.Ytnnclfaibcedoaa.Sup
open Go Go.RowKit Base Odr

theorem be_inj8 (m n : Int) (h0 : 0 ≤ m) (h1 : m < 18446744073709551616) (h2 : 0 ≤ n) (h3 : n < 18446744073709551616) (h : be m 8 = be n 8) : m = n := by
  rw [← getN_be 8 m h0 (by omega), ← getN_be 8 n h2 (by omega), h]
theorem form_gen (G B D N : Int) : ((formL G B D N).drop 4).take 8 = be G 8 := by
  have e : formL G B D N = [99, 105, 115, 116] ++ (be G 8 ++ (be B 8 ++ be D 8 ++ be N 8 ++ List.replicate 20 0 ++ be G 8)) := by simp [formL, front]
  rw [e]
  show List.take 8 (be G 8 ++ _) = _
  rw [List.take_append_of_le_length (by rw [be_length]; omega), List.take_of_length_le (by rw [be_length]; omega)]
theorem form_last (G B D N : Int) : (formL G B D N).drop 56 = be G 8 := by
  unfold formL
  rw [List.drop_append_of_le_length (by rw [List.length_append, front_length _ _ _ _ _ (by omega), List.length_replicate]; omega), List.drop_of_length_le (by rw [List.length_append, front_length _ _ _ _ _ (by omega), List.length_replicate]; omega), List.nil_append]
theorem form_magic (G B D N : Int) : (formL G B D N).take 4 = [99, 105, 115, 116] := by
  have e : formL G B D N = [99, 105, 115, 116] ++ (be G 8 ++ (be B 8 ++ be D 8 ++ be N 8 ++ List.replicate 20 0 ++ be G 8)) := by simp [formL, front]
  rw [e]; rfl
theorem parts3 (x : List Int) : x = x.take 4 ++ ((x.drop 4).take 8 ++ x.drop 12) := by
  have h1 : (x.drop 4).take 8 ++ x.drop 12 = x.drop 4 := by
    have : x.drop 12 = (x.drop 4).drop 8 := by rw [List.drop_drop]
    rw [this, List.take_append_drop]
  rw [h1, List.take_append_drop]
theorem torn_law (G B D N G' B' D' N' : Int) (n : Nat) (hn : n ≤ 64) (ha : may G B D N = true) (hb : may G' B' D' N' = true) (hne : G ≠ G')
    (ht : takeE ((formL G' B' D' N').take n ++ (formL G B D N).drop n) = 0) :
    (formL G' B' D' N').take n ++ (formL G B D N).drop n = formL G B D N ∨ (formL G' B' D' N').take n ++ (formL G B D N).drop n = formL G' B' D' N' := by
  obtain ⟨⟨a0, a1⟩, -⟩ := may_all ha
  obtain ⟨⟨b0, b1⟩, -⟩ := may_all hb
  obtain ⟨x, hx⟩ : ∃ x, (formL G' B' D' N').take n ++ (formL G B D N).drop n = x := ⟨_, rfl⟩
  obtain ⟨a, hA⟩ : ∃ a, formL G B D N = a := ⟨_, rfl⟩
  obtain ⟨b, hB⟩ : ∃ b, formL G' B' D' N' = b := ⟨_, rfl⟩
  have la : a.length = 64 := by rw [← hA]; exact form_len _ _ _ _
  have lb : b.length = 64 := by rw [← hB]; exact form_len _ _ _ _
  have ga : (a.drop 4).take 8 = be G 8 := by rw [← hA]; exact form_gen _ _ _ _
  have gb : (b.drop 4).take 8 = be G' 8 := by rw [← hB]; exact form_gen _ _ _ _
  have za : a.drop 56 = be G 8 := by rw [← hA]; exact form_last _ _ _ _
  have zb : b.drop 56 = be G' 8 := by rw [← hB]; exact form_last _ _ _ _
  have ma : a.take 4 = b.take 4 := by rw [← hA, ← hB, form_magic, form_magic]
  have mm : a.take 4 = [99, 105, 115, 116] := by rw [← hA, form_magic]
  rw [hx] at ht ⊢
  rw [hA, hB] at hx
  rw [hA, hB]
  obtain ⟨-, hform⟩ := take_back x ht
  have hgz : (x.drop 4).take 8 = x.drop 56 := by rw [← hform, form_gen, form_last]
  have mx : x.take 4 = a.take 4 := by rw [mm, ← hform, form_magic]
  have lx : x.length = 64 := by rw [← hform]; exact form_len _ _ _ _
  by_cases h56 : n ≤ 56
  · have zx : x.drop 56 = a.drop 56 := by
      rw [← hx, List.drop_append, List.drop_of_length_le (by rw [List.length_take]; omega), List.nil_append, List.drop_drop, List.length_take, lb]
      congr 1; omega
    by_cases h12 : n < 12
    · left
      have hx12 : x.drop 12 = a.drop 12 := by
        rw [← hx, List.drop_append, List.drop_of_length_le (by rw [List.length_take]; omega), List.nil_append, List.drop_drop, List.length_take, lb]
        congr 1; omega
      rw [parts3 x, parts3 a, mx, hgz, zx, za, ga, hx12]
    · exfalso
      have hg : (x.drop 4).take 8 = (b.drop 4).take 8 := by
        rw [← hx, List.drop_append_of_le_length (by rw [List.length_take]; omega), List.take_append_of_le_length (by rw [List.length_drop, List.length_take]; omega), List.drop_take, List.take_take]
        congr 1; omega
      rw [hgz, zx, za, gb] at hg
      exact hne (be_inj8 G G' (by omega) (by omega) (by omega) (by omega) hg)
  · right
    have hg : (x.drop 4).take 8 = (b.drop 4).take 8 := by
      rw [← hx, List.drop_append_of_le_length (by rw [List.length_take]; omega), List.take_append_of_le_length (by rw [List.length_drop, List.length_take]; omega), List.drop_take, List.take_take]
      congr 1; omega
    have hl : x.take 56 = b.take 56 := by
      rw [← hx, List.take_append_of_le_length (by rw [List.length_take]; omega), List.take_take]
      congr 1; omega
    rw [← List.take_append_drop 56 x, ← List.take_append_drop 56 b, hl, ← hgz, hg, gb, zb]
end Go.Proofs.Ytnnclfaibcedoaa.Sup
