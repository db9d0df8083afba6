/- An argument that is a superblock, opened. -/
import Derived.Test.YtnnclfaibcedoaaProg
import Derived.Lib.SmallJoins
import Derived.ProofKit
import Derived.OpenShut
import Derived.WalkKit
namespace Go.Proofs.Ytnnclfaibcedoaa.OpenS
open Go Go.RowKit Go.ChangeShapes Go.WideShapes
theorem open_super {H : Type} {enc : TypeId × Value → H} {w : World} {base : Nat} {sp : Nat → Bool} {held : Bool} {r : Reach} {b0 : Nat} {v : Value} {d : DataW H} {p : List MemPlace}
    (hval : Value.okWide Try.prog w r b0 25 v) (hd : DataW.Trod enc Try.prog w base sp held 25 v d p) :
    ∃ G B D N : Int, v = .agg #[.int .u64 G, .int .i64 B, .int .u64 D, .int .u64 N] ∧ (Lit.int .u64 G).wf = true ∧ (Lit.int .i64 B).wf = true ∧ (Lit.int .u64 D).wf = true ∧ (Lit.int .u64 N).wf = true := by
  obtain ⟨v0, v1, v2, v3, y0, y1, y2, y3, n, rfl, -, -, h0, h1, h2, h3⟩ := Joins.open_agg4 Try.underlying25 (by kernel_rfl) (by kernel_rfl) hval hd
  obtain ⟨G, e0, _, w0⟩ := DataW.trod_int Try.underlying23 h0
  obtain ⟨B, e1, _, w1⟩ := DataW.trod_int Try.underlying3 h1
  obtain ⟨D, e2, _, w2⟩ := DataW.trod_int Try.underlying23 h2
  obtain ⟨N, e3, _, w3⟩ := DataW.trod_int Try.underlying23 h3
  simp only [List.cons.injEq, and_true] at e0 e1 e2 e3
  subst e0; subst e1; subst e2; subst e3
  exact ⟨G, B, D, N, rfl, w0, w1, w2, w3⟩
end Go.Proofs.Ytnnclfaibcedoaa.OpenS
