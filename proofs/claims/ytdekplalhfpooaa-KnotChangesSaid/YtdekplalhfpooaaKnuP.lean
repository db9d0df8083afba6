/- An argument that is a pair and a place, opened. -/
import Derived.Test.YtdekplalhfpooaaProg
import Derived.Lib.SmallJoins
import Derived.ProofKit
import Derived.OpenShut
import Derived.WalkKit
namespace Go.Proofs.Ytdekplalhfpooaa.OpenP
open Go Go.RowKit Go.ChangeShapes Go.WideShapes
theorem open_pair {H : Type} {enc : TypeId × Value → H} {w : World} {base : Nat} {sp : Nat → Bool} {held : Bool} {r : Reach} {b0 : Nat} {v : Value} {d : DataW H} {p : List MemPlace}
    (hval : Value.okWide Try.prog w r b0 58 v) (hd : DataW.Trod enc Try.prog w base sp held 58 v d p) :
    ∃ A K V : Int, v = .agg #[.int .i64 A, .int .u64 K, .int .u64 V] ∧ (Lit.int .i64 A).wf = true ∧ (Lit.int .u64 K).wf = true ∧ (Lit.int .u64 V).wf = true := by
  obtain ⟨v0, v1, v2, y0, y1, y2, n, rfl, -, -, h0, h1, h2⟩ := Joins.open_agg3 Try.underlying58 (by kernel_rfl) (by kernel_rfl) hval hd
  obtain ⟨A, e0, _, w0⟩ := DataW.trod_int Try.underlying3 h0
  obtain ⟨K, e1, _, w1⟩ := DataW.trod_int Try.underlying25 h1
  obtain ⟨V, e2, _, w2⟩ := DataW.trod_int Try.underlying25 h2
  simp only [List.cons.injEq, and_true] at e0 e1 e2
  subst e0; subst e1; subst e2
  exact ⟨A, K, V, rfl, w0, w1, w2⟩
end Go.Proofs.Ytdekplalhfpooaa.OpenP
