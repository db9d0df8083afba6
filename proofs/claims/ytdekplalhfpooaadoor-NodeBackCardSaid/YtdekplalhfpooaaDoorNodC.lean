/- A node in new memory: the document's Own (every input). -/
import Derived.Test.YtdekplalhfpooaaDoorNodB
set_option linter.unusedVariables false
set_option linter.unusedSimpArgs false
namespace Go.Proofs.YtdekplalhfpooaaDoor.Nod
open Go Go.RowKit Go.Proofs.YtdekplalhfpooaaDoorW.PrintWords Go.Proofs.YtdekplalhfpooaaDoorW.PrintLast Go.Proofs.YtdekplalhfpooaaDoorW.PrintMore Base Odr Hlp

theorem info64 : (Tryd.prog.info? 37).map (fun i => (i.zero, i.size, i.bytes)) = some (some (.int .u64 0), 1, 8) := by kernel_rfl
theorem size3 (a b c : Value) : (Tryd.prog.info? 24).map (·.size) = some (#[a, b, c]).size := by kernel_rfl
theorem one3 (L : Bool) (A B : Option Addr) (n c m d : Nat) : (#[Value.bool L, .slice A n c, .slice B m d]).all (·.oneCell') = true := by simp [Value.oneCell']
theorem ret_one {f : Func} {R : Ending → World → Prop} {a : Act} {w : World} (hf : f.results = #[.cell 2 24]) (g : Nat) (cs : Array Value) (fr : Nat × Nat) (hp : a.tmps.getD 2 undef = .pointer (some ⟨g, 0, none⟩)) (hg : w.heap[g]? = some (.cells cs 24 fr)) (hcs : cs.size = 3)
    (hd : a.defers = []) (hR : R (.returned (.agg cs)) w) : bodyPost Tryd.prog f R .ret a w := by
  have h1 := run_loadVar_row (P := Tryd.prog) w g 24 24 cs fr _ hg Tryd.underlying24 rfl (by rw [hcs]; kernel_rfl)
  have hp' : a.tmps[2]?.getD undef = .pointer (some ⟨g, 0, none⟩) := by simpa using hp
  refine bodyPost_ret (v := .agg cs) ?_ hd hR
  simp [results, hf, hp', asAddr, h1]
theorem ret_two {f : Func} {R : Ending → World → Prop} {a : Act} {w : World} (hf : f.results = #[.cell 2 24, .tmp 3]) (g : Nat) (cs : Array Value) (fr : Nat × Nat) (hp : a.tmps.getD 2 undef = .pointer (some ⟨g, 0, none⟩)) (hg : w.heap[g]? = some (.cells cs 24 fr)) (hcs : cs.size = 3)
    (hd : a.defers = []) (hR : R (.returned (.tuple #[.agg cs, a.tmps.getD 3 undef])) w) : bodyPost Tryd.prog f R .ret a w := by
  have h1 := run_loadVar_row (P := Tryd.prog) w g 24 24 cs fr _ hg Tryd.underlying24 rfl (by rw [hcs]; kernel_rfl)
  have hp' : a.tmps[2]?.getD undef = .pointer (some ⟨g, 0, none⟩) := by simpa using hp
  refine bodyPost_ret (v := .tuple #[.agg cs, a.tmps.getD 3 undef]) ?_ hd hR
  simp [results, hf, hp', asAddr, h1]

end Go.Proofs.YtdekplalhfpooaaDoor.Nod
