/- Pieces: two ranges, one behind the other: plain facts. -/
import Derived.Test.YtgmjpnampjkfeaaPieM
set_option linter.unusedVariables false
set_option linter.unusedSimpArgs false
namespace Go.Proofs.Ytgmjpnampjkfeaa.Pie
open Go Go.RowKit Go.Proofs.YtgmjpnampjkfeaaW.PrintWords Go.Proofs.YtgmjpnampjkfeaaW.PrintLast Go.Proofs.YtgmjpnampjkfeaaW.PrintMore Base

/-- A piece is cut in two. -/
def jS (O N k : Nat) : Prop := 0 < k ∧ k < N ∧ (O + k) % 256 ≠ 0
instance (O N k : Nat) : Decidable (jS O N k) := by unfold jS; infer_instance
/-- How many pieces of the whole lie ahead of the second range's first. -/
def jD (O N k : Nat) : Nat := if jS O N k then cntP O k - 1 else cntP O k
theorem jD_cut {O N k : Nat} (h : jS O N k) : cntP O k = jD O N k + 1 ∧ jD O N k = (O + k) / 256 - O / 256 := by
  unfold jD
  rw [if_pos h]
  unfold jS at h
  unfold cntP
  rw [if_neg (by omega)]
  omega
theorem jD_whole {O N k : Nat} (h : ¬ jS O N k) : jD O N k = cntP O k := if_neg h
theorem join_next {O N k i : Nat} (hk : k < N) (hi : 0 < i ∨ ¬ jS O N k) : okN (O + k) (N - k) i = okN O N (jD O N k + i) := by
  by_cases hs : jS O N k
  · obtain ⟨h1, h2⟩ := jD_cut hs
    have hi0 : 0 < i := hi.resolve_right (fun h => h hs)
    rw [h2]
    unfold okN
    rw [if_neg (by omega), if_neg (by omega)]
    omega
  · rw [jD_whole hs]
    unfold jS at hs
    unfold okN cntP
    split <;> split <;> split <;> omega
theorem join_a {O N k j : Nat} (hk : k ≤ N) (h : j < cntP O k) : okN O k j = okN O N j := by
  rw [lt_cnt] at h
  unfold okN at h ⊢
  split <;> split at h <;> omega
theorem join_a1 {O N k j : Nat} (hk : k ≤ N) (h : j < cntP O k) (hs : j + 1 < cntP O k ∨ ¬ jS O N k) : okN O k (j + 1) = okN O N (j + 1) := by
  rcases hs with hs | hs
  · exact join_a hk hs
  · unfold jS at hs
    rw [lt_cnt] at h
    unfold okN at h ⊢
    rw [if_neg (by omega), if_neg (by omega)]
    split at h <;> omega
theorem pcell_eq {O N O' N' j j' : Nat} (h0 : okN O N j = okN O' N' j') (h1 : okN O N (j + 1) = okN O' N' (j' + 1)) (hO : O = O') : pcell O N j = pcell O' N' j' := by
  unfold pcell pB pF pT pA
  rw [h0, h1, hO]
theorem cutC_eq {O N k : Nat} (hk : k ≤ N) : ∀ n, n ≤ cntP O k → (n < cntP O k ∨ ¬ jS O N k) → cutC O k n = cutC O N n := by
  intro n
  induction n with
  | zero => intro _ _; rfl
  | succ n ih =>
    intro h hs
    simp only [cutC]
    rw [ih (by omega) (.inl (by omega)), pcell_eq (join_a hk (by omega)) (join_a1 hk (by omega) hs) rfl]
/-- The second range's piece is one of the whole's. -/
theorem join_piece {O N k i : Nat} (hk : k < N) (hi : 0 < i ∨ ¬ jS O N k) : pB (O + k) (N - k) i = pB O N (jD O N k + i) ∧ pF (O + k) (N - k) i = pF O N (jD O N k + i) ∧ pT (O + k) (N - k) i = pT O N (jD O N k + i) ∧ pA (O + k) (N - k) i + k = pA O N (jD O N k + i) := by
  have h0 := join_next hk hi
  have h1 := join_next (O := O) (i := i + 1) hk (.inl (by omega))
  have hr := ok_range (O + k) (N - k) i
  unfold pB pF pT pA
  rw [h1, show jD O N k + (i + 1) = jD O N k + i + 1 by omega, h0]
  rw [h0] at hr
  omega
/-- The piece that was cut in two. -/
theorem join_cut {O N k : Nat} (hs : jS O N k) : pB O k (jD O N k) = pB (O + k) (N - k) 0 ∧ pT O k (jD O N k) = pF (O + k) (N - k) 0 ∧
    pB O k (jD O N k) = pB O N (jD O N k) ∧ pF O k (jD O N k) = pF O N (jD O N k) ∧ pT (O + k) (N - k) 0 = pT O N (jD O N k) ∧ pA O k (jD O N k) = pA O N (jD O N k) := by
  obtain ⟨h1, h2⟩ := jD_cut hs
  have ha := join_a (N := N) (show k ≤ N by unfold jS at hs; omega) (show jD O N k < cntP O k by omega)
  have hn := join_next (O := O) (k := k) (N := N) (i := 1) hs.2.1 (.inl (by omega))
  have he := ok_end O k (jD O N k + 1) (by omega)
  unfold jS at hs
  have hlt := (lt_cnt O k (jD O N k)).1 (by omega)
  unfold pB pF pT pA
  rw [he, ha, Nat.zero_add, hn]
  rw [ha] at hlt
  have h0 : okN (O + k) (N - k) 0 = O + k := rfl
  rw [h0]
  have hf : okN O N (jD O N k) = if jD O N k = 0 then O else min (256 * (O / 256 + jD O N k)) (O + N) := rfl
  have hf1 : okN O N (jD O N k + 1) = min (256 * (O / 256 + (jD O N k + 1))) (O + N) := by unfold okN; rw [if_neg (by omega)]
  rw [hf1]
  split at hf <;> omega
theorem join_apart {O N k : Nat} (hk : k < N) (hs : ¬ jS O N k) (h : 0 < cntP O k) : pB O k (cntP O k - 1) ≠ pB (O + k) (N - k) 0 := by
  have h1 := pB_eq (O := O) (N := k) (j := cntP O k - 1) (by omega)
  have h2 : pB (O + k) (N - k) 0 = (O + k) / 256 := rfl
  rw [h1, h2]
  unfold jS at hs
  unfold cntP at h ⊢
  split at h
  · omega
  · rename_i h0
    rw [if_neg h0]
    omega
theorem join_end {O N k : Nat} (hk : k ≤ N) : jD O N k + cntP (O + k) (N - k) = cntP O N := by
  rcases Nat.eq_or_lt_of_le hk with rfl | hk
  · rw [jD_whole (by unfold jS; omega), Nat.sub_self]; rfl
  · by_cases hs : jS O N k
    · obtain ⟨h1, h2⟩ := jD_cut hs
      unfold jS at hs
      rw [h2, show cntP (O + k) (N - k) = (O + N - 1) / 256 - (O + k) / 256 + 1 by unfold cntP; rw [if_neg (by omega)]; omega]; unfold cntP; rw [if_neg (by omega)]; omega
    · rw [jD_whole hs]; unfold jS at hs; rw [show cntP (O + k) (N - k) = (O + N - 1) / 256 - (O + k) / 256 + 1 by unfold cntP; rw [if_neg (by omega)]; omega]; unfold cntP; split <;> split <;> omega
end Go.Proofs.Ytgmjpnampjkfeaa.Pie
