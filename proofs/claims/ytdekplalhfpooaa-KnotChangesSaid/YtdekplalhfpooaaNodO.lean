/- An argument that is a node, opened. -/
import Derived.Test.YtdekplalhfpooaaNodA
import Derived.Lib.SmallJoins
import Derived.ProofKit
import Derived.OpenShut
import Derived.WalkKit
import Derived.SizedLaws
import Derived.Test.YtdekplalhfpooaaWSized
set_option linter.unusedVariables false
set_option linter.unusedSimpArgs false
namespace Go.Proofs.Ytdekplalhfpooaa.OpenN
open Go Go.RowKit Go.ChangeShapes Go.WideShapes Go.Proofs.YtdekplalhfpooaaW.PrintWords
section
variable {H : Type} {enc : TypeId × Value → H} {W : World} {held : Bool}
theorem slice_cell {n : Nat} {v : Value} {y : DataW H × List MemPlace} (h : DataW.trod enc Try.prog W 0 (fun _ => true) held n 22 [v] = some y) :
    ∃ (a : Option Addr) (c : Nat) (l : List Int), v = .slice a l.length c ∧ ReadsInt W .u64 a l.length l ∧ (∀ x ∈ l, (Lit.int .u64 x).wf = true) ∧ l.length ≤ c := by
  rcases open_ints Try.underlying22 Try.underlying25 (by kernel_rfl) h with ⟨hcs, _⟩ | ⟨x, l, c, zs, hcs, _, hl, hm, hz, _, hcell, hwz⟩
  · simp at hcs
    subst hcs
    exact ⟨none, 0, [], rfl, ⟨rfl, by simp, fun h => absurd h (by simp)⟩, by simp, Nat.le_refl _⟩
  · simp at hcs
    subst hcs
    obtain ⟨l2, e, hr, hm2, hw, hc⟩ := ReadsInt.ofRowC (k := .u64) (w := W) (a := some x) (len := l) (cap := c) (zs := zs) (Or.inr ⟨x, rfl, hl, hm, by simpa using hz, hcell, hwz⟩)
    subst e
    exact ⟨some x, c, l2, rfl, hr, hw, hc⟩
theorem bool_cell {n : Nat} {v : Value} {y : DataW H × List MemPlace} (h : DataW.trod enc Try.prog W 0 (fun _ => true) held n 4 [v] = some y) : ∃ b, v = .bool b := by
  cases n with
  | zero => simp [DataW.trod] at h
  | succ n =>
    unfold DataW.trod at h
    simp only [Try.underlying4] at h
    split at h <;> first | (exact ⟨_, by simp_all⟩) | simp_all
/-- A node that came in. -/
theorem open_node {r : Reach} {b0 j : Nat} {v : Value} {d : DataW H} {p : List MemPlace} {ts : List TypeId} {ds : List (DataW H)} (hsz : (DataW.weightsEach Try.prog ts ds).all (· ≤ reachBytes) = true) (ht : ts[j]? = some 24) (hd : ds[j]? = some d)
    (hval : Value.okWide Try.prog W r b0 24 v) (h : DataW.Trod enc Try.prog W 0 (fun _ => true) held 24 v d p) :
    ∃ (L : Bool) (ak : Option Addr) (ck : Nat) (K : List Int) (av : Option Addr) (cv : Nat) (V : List Int), v = .agg #[.bool L, .slice ak K.length ck, .slice av V.length cv] ∧
      ReadsInt W .u64 ak K.length K ∧ K.length * 8 ≤ 140737488351232 ∧ (∀ x ∈ K, (Lit.int .u64 x).wf = true) ∧ K.length ≤ ck ∧
      ReadsInt W .u64 av V.length V ∧ V.length * 8 ≤ 140737488351232 ∧ (∀ x ∈ V, (Lit.int .u64 x).wf = true) ∧ V.length ≤ cv := by
  obtain ⟨v0, v1, v2, y0, y1, y2, n, rfl, rfl, -, h0, h1, h2⟩ := Joins.open_agg3 Try.underlying24 (by kernel_rfl) (by kernel_rfl) hval h
  obtain ⟨L, rfl⟩ := bool_cell h0
  obtain ⟨ak, ck, K, rfl, rk, wk, lk⟩ := slice_cell h1
  obtain ⟨av, cv, V, rfl, rv, wv, lv⟩ := slice_cell h2
  have hsz2 : (DataW.weightsEach Try.prog [4, 22, 22] [y0.1, y1.1, y2.1]).all (· ≤ reachBytes) = true := by
    rw [List.all_eq_true] at hsz ⊢
    intro m hm
    refine hsz m (DataW.weights_mem_each ht hd m ?_)
    simp only [DataW.weights, Try.underlying24]
    exact hm
  have sk : K.length * 8 ≤ 140737488351232 := sized_ints hsz2 (j := 1) (t := 22) rfl rfl Try.underlying22 Try.underlying25 (by kernel_rfl) (by kernel_rfl) (ps := y1.2) ⟨n, h1⟩
  have sv : V.length * 8 ≤ 140737488351232 := sized_ints hsz2 (j := 2) (t := 22) rfl rfl Try.underlying22 Try.underlying25 (by kernel_rfl) (by kernel_rfl) (ps := y2.2) ⟨n, h2⟩
  exact ⟨L, ak, ck, K, av, cv, V, rfl, rk, sk, wk, lk, rv, sv, wv, lv⟩
end
end Go.Proofs.Ytdekplalhfpooaa.OpenN
