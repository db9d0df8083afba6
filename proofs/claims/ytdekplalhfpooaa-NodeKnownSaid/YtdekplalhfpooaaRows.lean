/-
  No cell of these rows narrows 'for every input' (looked for: loops, veiled, ifaces, maps, wideKeys, modest, calm, conditions, laid).
  DERIVED. THE GIVEN ROWS OF THIS SEAT. 11 by the template 'for every input the law returns true; each argument reads behind the call as it read before'; 0 by the template 'total and deterministic' (their statements: YtdekplalhfpooaaTotals.lean).
  GIVEN WITH THE SEED: the statements are not yours to turn. If you find one false, say at which input.
  Laid BY PROGRAM, IN A SANDBOX (cutbox-rows.mjs): the forced cells as the released guide's own fill.sh prints them over the translation 83eaa64cbbfd7a94… (all of the seat's roots in one cut). By AI agents, Wed Nov 11 2026. No macro, syntax, notation, axiom, sorry.
-/
import Derived.Test.YtdekplalhfpooaaChecked
import GoSem.Claim
import GoSem.ClaimJoined
import GoSem.ClaimMapViews
import Derived.JoinedTies
import Derived.KernelRfl
namespace Go.Proofs.Ytdekplalhfpooaa
/- THE CELL 'sum', in the pinned program and in every row, IS THE sha256 OF THE DUMP (.gsa) THAT YtdekplalhfpooaaProg.lean LOADS. Nothing in Lean hashes anything: it is a label: what it is worth is what the hold of that sum in a sandbox is worth. -/
noncomputable def Try.pinned : Pinned := { name := "ytdekplalhfpooaa", sum := "83eaa64cbbfd7a94433eb17203ff0d8ed8bc1963d42403cfd6c3bd02b2922588", checked := Try.checked }
namespace Rows
def none {H : Type} : Left H := { results := [], args := [] }

/-- 'cisternlaw10.KnotFinds': WHATEVER THE INPUT: true; the input reads as it did. -/
def knotFindsSpec : ChangeSpec := { name := "knotFinds", fn := fun _ => fun
  | [d1, d2] => { results := [.lit (.bool true)], args := [d1, d2] }
  | _ => none }
def knotFindsRow : OpenClaim := { program := "ytdekplalhfpooaa", sum := "83eaa64cbbfd7a94433eb17203ff0d8ed8bc1963d42403cfd6c3bd02b2922588", func := "cistern/cisternlaw10.KnotFinds", spec := "knotFinds", unfollowed := true, recurses := true, apart := false }
def KnotFindsSaid : Prop := knotFindsRow.holds Try.pinned (OpenSpec.ofChange knotFindsSpec)

/-- ITS FALSE NEIGHBOUR: 'it returns false'. Refute it at one input. -/
def knotFindsWrong : ChangeSpec := { name := "knotFinds", fn := fun _ => fun
  | [d1, d2] => { results := [.lit (.bool false)], args := [d1, d2] }
  | _ => none }
def KnotFindsWrongFalsely : Prop := knotFindsRow.holds Try.pinned (OpenSpec.ofChange knotFindsWrong)

/-- 'cisternlaw10.KnotParts': WHATEVER THE INPUT: true; the input reads as it did. -/
def knotPartsSpec : ChangeSpec := { name := "knotParts", fn := fun _ => fun
  | [d1, d2] => { results := [.lit (.bool true)], args := [d1, d2] }
  | _ => none }
def knotPartsRow : OpenClaim := { program := "ytdekplalhfpooaa", sum := "83eaa64cbbfd7a94433eb17203ff0d8ed8bc1963d42403cfd6c3bd02b2922588", func := "cistern/cisternlaw10.KnotParts", spec := "knotParts", unfollowed := true, recurses := true, apart := false }
def KnotPartsSaid : Prop := knotPartsRow.holds Try.pinned (OpenSpec.ofChange knotPartsSpec)

/-- ITS FALSE NEIGHBOUR: 'it returns false'. Refute it at one input. -/
def knotPartsWrong : ChangeSpec := { name := "knotParts", fn := fun _ => fun
  | [d1, d2] => { results := [.lit (.bool false)], args := [d1, d2] }
  | _ => none }
def KnotPartsWrongFalsely : Prop := knotPartsRow.holds Try.pinned (OpenSpec.ofChange knotPartsWrong)

/-- 'cisternlaw10.KnotHalves': WHATEVER THE INPUT: true; the input reads as it did. -/
def knotHalvesSpec : ChangeSpec := { name := "knotHalves", fn := fun _ => fun
  | [d1, d2] => { results := [.lit (.bool true)], args := [d1, d2] }
  | _ => none }
def knotHalvesRow : OpenClaim := { program := "ytdekplalhfpooaa", sum := "83eaa64cbbfd7a94433eb17203ff0d8ed8bc1963d42403cfd6c3bd02b2922588", func := "cistern/cisternlaw10.KnotHalves", spec := "knotHalves", unfollowed := true, recurses := true, apart := false }
def KnotHalvesSaid : Prop := knotHalvesRow.holds Try.pinned (OpenSpec.ofChange knotHalvesSpec)

/-- ITS FALSE NEIGHBOUR: 'it returns false'. Refute it at one input. -/
def knotHalvesWrong : ChangeSpec := { name := "knotHalves", fn := fun _ => fun
  | [d1, d2] => { results := [.lit (.bool false)], args := [d1, d2] }
  | _ => none }
def KnotHalvesWrongFalsely : Prop := knotHalvesRow.holds Try.pinned (OpenSpec.ofChange knotHalvesWrong)

/-- 'cisternlaw09.NodePuts': WHATEVER THE INPUT: true; the input reads as it did. -/
def nodePutsSpec : ChangeSpec := { name := "nodePuts", fn := fun _ => fun
  | [d] => { results := [.lit (.bool true)], args := [d] }
  | _ => none }
def nodePutsRow : OpenClaim := { program := "ytdekplalhfpooaa", sum := "83eaa64cbbfd7a94433eb17203ff0d8ed8bc1963d42403cfd6c3bd02b2922588", func := "cistern/cisternlaw09.NodePuts", spec := "nodePuts", unfollowed := true, recurses := true, apart := false }
def NodePutsSaid : Prop := nodePutsRow.holds Try.pinned (OpenSpec.ofChange nodePutsSpec)

/-- ITS FALSE NEIGHBOUR: 'it returns false'. Refute it at one input. -/
def nodePutsWrong : ChangeSpec := { name := "nodePuts", fn := fun _ => fun
  | [d] => { results := [.lit (.bool false)], args := [d] }
  | _ => none }
def NodePutsWrongFalsely : Prop := nodePutsRow.holds Try.pinned (OpenSpec.ofChange nodePutsWrong)

/-- 'cisternlaw09.NodeTakes': WHATEVER THE INPUT: true; the input reads as it did. -/
def nodeTakesSpec : ChangeSpec := { name := "nodeTakes", fn := fun _ => fun
  | [d] => { results := [.lit (.bool true)], args := [d] }
  | _ => none }
def nodeTakesRow : OpenClaim := { program := "ytdekplalhfpooaa", sum := "83eaa64cbbfd7a94433eb17203ff0d8ed8bc1963d42403cfd6c3bd02b2922588", func := "cistern/cisternlaw09.NodeTakes", spec := "nodeTakes", unfollowed := true, recurses := true, apart := false }
def NodeTakesSaid : Prop := nodeTakesRow.holds Try.pinned (OpenSpec.ofChange nodeTakesSpec)

/-- ITS FALSE NEIGHBOUR: 'it returns false'. Refute it at one input. -/
def nodeTakesWrong : ChangeSpec := { name := "nodeTakes", fn := fun _ => fun
  | [d] => { results := [.lit (.bool false)], args := [d] }
  | _ => none }
def NodeTakesWrongFalsely : Prop := nodeTakesRow.holds Try.pinned (OpenSpec.ofChange nodeTakesWrong)

/-- 'cisternlaw09.NodeSame': WHATEVER THE INPUT: true; the input reads as it did. -/
def nodeSameSpec : ChangeSpec := { name := "nodeSame", fn := fun _ => fun
  | [d1, d2] => { results := [.lit (.bool true)], args := [d1, d2] }
  | _ => none }
def nodeSameRow : OpenClaim := { program := "ytdekplalhfpooaa", sum := "83eaa64cbbfd7a94433eb17203ff0d8ed8bc1963d42403cfd6c3bd02b2922588", func := "cistern/cisternlaw09.NodeSame", spec := "nodeSame", unfollowed := true, recurses := true, apart := false }
def NodeSameSaid : Prop := nodeSameRow.holds Try.pinned (OpenSpec.ofChange nodeSameSpec)

/-- ITS FALSE NEIGHBOUR: 'it returns false'. Refute it at one input. -/
def nodeSameWrong : ChangeSpec := { name := "nodeSame", fn := fun _ => fun
  | [d1, d2] => { results := [.lit (.bool false)], args := [d1, d2] }
  | _ => none }
def NodeSameWrongFalsely : Prop := nodeSameRow.holds Try.pinned (OpenSpec.ofChange nodeSameWrong)

/-- 'cisternlaw09.NodeCut': WHATEVER THE INPUT: true; the input reads as it did. -/
def nodeCutSpec : ChangeSpec := { name := "nodeCut", fn := fun _ => fun
  | [d1, d2, d3] => { results := [.lit (.bool true)], args := [d1, d2, d3] }
  | _ => none }
def nodeCutRow : OpenClaim := { program := "ytdekplalhfpooaa", sum := "83eaa64cbbfd7a94433eb17203ff0d8ed8bc1963d42403cfd6c3bd02b2922588", func := "cistern/cisternlaw09.NodeCut", spec := "nodeCut", unfollowed := true, recurses := true, apart := false }
def NodeCutSaid : Prop := nodeCutRow.holds Try.pinned (OpenSpec.ofChange nodeCutSpec)

/-- ITS FALSE NEIGHBOUR: 'it returns false'. Refute it at one input. -/
def nodeCutWrong : ChangeSpec := { name := "nodeCut", fn := fun _ => fun
  | [d1, d2, d3] => { results := [.lit (.bool false)], args := [d1, d2, d3] }
  | _ => none }
def NodeCutWrongFalsely : Prop := nodeCutRow.holds Try.pinned (OpenSpec.ofChange nodeCutWrong)

/-- 'cisternlaw09.NodeKnown': WHATEVER THE INPUT: true; the input reads as it did. -/
def nodeKnownSpec : ChangeSpec := { name := "nodeKnown", fn := fun _ => fun
  | [] => { results := [.lit (.bool true)], args := [] }
  | _ => none }
def nodeKnownRow : OpenClaim := { program := "ytdekplalhfpooaa", sum := "83eaa64cbbfd7a94433eb17203ff0d8ed8bc1963d42403cfd6c3bd02b2922588", func := "cistern/cisternlaw09.NodeKnown", spec := "nodeKnown", unfollowed := true, recurses := true, apart := false }
def NodeKnownSaid : Prop := nodeKnownRow.holds Try.pinned (OpenSpec.ofChange nodeKnownSpec)

/-- ITS FALSE NEIGHBOUR: 'it returns false'. Refute it at one input. -/
def nodeKnownWrong : ChangeSpec := { name := "nodeKnown", fn := fun _ => fun
  | [] => { results := [.lit (.bool false)], args := [] }
  | _ => none }
def NodeKnownWrongFalsely : Prop := nodeKnownRow.holds Try.pinned (OpenSpec.ofChange nodeKnownWrong)

/-- 'cisternlaw10.KnotChanges': WHATEVER THE INPUT: true; the input reads as it did. -/
def knotChangesSpec : ChangeSpec := { name := "knotChanges", fn := fun _ => fun
  | [d1, d2] => { results := [.lit (.bool true)], args := [d1, d2] }
  | _ => none }
def knotChangesRow : OpenClaim := { program := "ytdekplalhfpooaa", sum := "83eaa64cbbfd7a94433eb17203ff0d8ed8bc1963d42403cfd6c3bd02b2922588", func := "cistern/cisternlaw10.KnotChanges", spec := "knotChanges", inPlace := ["slices.overlaps[uint64]"], unfollowed := true, recurses := true, apart := false }
def KnotChangesSaid : Prop := knotChangesRow.holds Try.pinned (OpenSpec.ofChange knotChangesSpec)

/-- ITS FALSE NEIGHBOUR: 'it returns false'. Refute it at one input. -/
def knotChangesWrong : ChangeSpec := { name := "knotChanges", fn := fun _ => fun
  | [d1, d2] => { results := [.lit (.bool false)], args := [d1, d2] }
  | _ => none }
def KnotChangesWrongFalsely : Prop := knotChangesRow.holds Try.pinned (OpenSpec.ofChange knotChangesWrong)

/-- 'cisternlaw10.KnotKeeps': WHATEVER THE INPUT: true; the input reads as it did. -/
def knotKeepsSpec : ChangeSpec := { name := "knotKeeps", fn := fun _ => fun
  | [d1, d2] => { results := [.lit (.bool true)], args := [d1, d2] }
  | _ => none }
def knotKeepsRow : OpenClaim := { program := "ytdekplalhfpooaa", sum := "83eaa64cbbfd7a94433eb17203ff0d8ed8bc1963d42403cfd6c3bd02b2922588", func := "cistern/cisternlaw10.KnotKeeps", spec := "knotKeeps", inPlace := ["slices.overlaps[uint64]"], unfollowed := true, recurses := true, apart := false }
def KnotKeepsSaid : Prop := knotKeepsRow.holds Try.pinned (OpenSpec.ofChange knotKeepsSpec)

/-- ITS FALSE NEIGHBOUR: 'it returns false'. Refute it at one input. -/
def knotKeepsWrong : ChangeSpec := { name := "knotKeeps", fn := fun _ => fun
  | [d1, d2] => { results := [.lit (.bool false)], args := [d1, d2] }
  | _ => none }
def KnotKeepsWrongFalsely : Prop := knotKeepsRow.holds Try.pinned (OpenSpec.ofChange knotKeepsWrong)

/-- 'cisternlaw10.KnotKnown': WHATEVER THE INPUT: true; the input reads as it did. -/
def knotKnownSpec : ChangeSpec := { name := "knotKnown", fn := fun _ => fun
  | [] => { results := [.lit (.bool true)], args := [] }
  | _ => none }
def knotKnownRow : OpenClaim := { program := "ytdekplalhfpooaa", sum := "83eaa64cbbfd7a94433eb17203ff0d8ed8bc1963d42403cfd6c3bd02b2922588", func := "cistern/cisternlaw10.KnotKnown", spec := "knotKnown", inPlace := ["slices.overlaps[uint64]"], unfollowed := true, recurses := true, apart := false }
def KnotKnownSaid : Prop := knotKnownRow.holds Try.pinned (OpenSpec.ofChange knotKnownSpec)

/-- ITS FALSE NEIGHBOUR: 'it returns false'. Refute it at one input. -/
def knotKnownWrong : ChangeSpec := { name := "knotKnown", fn := fun _ => fun
  | [] => { results := [.lit (.bool false)], args := [] }
  | _ => none }
def KnotKnownWrongFalsely : Prop := knotKnownRow.holds Try.pinned (OpenSpec.ofChange knotKnownWrong)

/- THE SECOND FORM. 'bulk': how many values and letters a reading holds, each counted each time it is reached (what is shared counts as often as it is met; a slice's spare places count too). A statement '..UptoSaid' is the law's where the arguments, and the package variables that the reading takes, are together of bulk at most 1048576: NARROWER than '..Said'. Prove '..Said' where nothing that the law and all that it calls make is longer than what came in: it says more and counts as full. Else prove '..UptoSaid'. A law counts once. -/
mutual
def uptoBulk {H : Type} : DataW H → Nat
  | .lit (.string bytes) => bytes.length + 1
  | .lit _ => 1
  | .nil => 1
  | .ptr d => uptoBulk d + 1
  | .slice elems spare => uptoBulkAll elems + uptoBulkAll spare + 1
  | .agg parts => uptoBulkAll parts + 1
  | .iface _ d => uptoBulk d + 1
  | .map entries => uptoBulkEntries entries + 1
  | .held _ => 1
def uptoBulkAll {H : Type} : List (DataW H) → Nat
  | [] => 0
  | d :: r => uptoBulk d + uptoBulkAll r
def uptoBulkEntries {H : Type} : List (Lit × DataW H) → Nat
  | [] => 0
  | x :: r => uptoBulkEntry x + uptoBulkEntries r
def uptoBulkEntry {H : Type} : Lit × DataW H → Nat
  | (.string bytes, d) => bytes.length + uptoBulk d + 1
  | (_, d) => uptoBulk d + 1
 end
def uptoSmall : (H : Type) → List (DataW H) → Bool := fun _ ds => decide (uptoBulkAll ds ≤ 1048576)
def OpenSpec.upto (s : _root_.Go.ChangeSpec) : _root_.Go.OpenSpec := { _root_.Go.OpenSpec.ofChange s with cond := some uptoSmall }

/-- 'cisternlaw10.KnotFinds', WHERE WHAT IT READS IS OF BULK AT MOST 1048576: true; the input reads as it did. -/
def knotFindsUptoRow : OpenClaim := { program := "ytdekplalhfpooaa", sum := "83eaa64cbbfd7a94433eb17203ff0d8ed8bc1963d42403cfd6c3bd02b2922588", func := "cistern/cisternlaw10.KnotFinds", spec := "knotFinds", unfollowed := true, recurses := true, apart := false, narrowed := true }
def KnotFindsUptoSaid : Prop := knotFindsUptoRow.holds Try.pinned (OpenSpec.upto knotFindsSpec)

/-- 'cisternlaw10.KnotParts', WHERE WHAT IT READS IS OF BULK AT MOST 1048576: true; the input reads as it did. -/
def knotPartsUptoRow : OpenClaim := { program := "ytdekplalhfpooaa", sum := "83eaa64cbbfd7a94433eb17203ff0d8ed8bc1963d42403cfd6c3bd02b2922588", func := "cistern/cisternlaw10.KnotParts", spec := "knotParts", unfollowed := true, recurses := true, apart := false, narrowed := true }
def KnotPartsUptoSaid : Prop := knotPartsUptoRow.holds Try.pinned (OpenSpec.upto knotPartsSpec)

/-- 'cisternlaw10.KnotHalves', WHERE WHAT IT READS IS OF BULK AT MOST 1048576: true; the input reads as it did. -/
def knotHalvesUptoRow : OpenClaim := { program := "ytdekplalhfpooaa", sum := "83eaa64cbbfd7a94433eb17203ff0d8ed8bc1963d42403cfd6c3bd02b2922588", func := "cistern/cisternlaw10.KnotHalves", spec := "knotHalves", unfollowed := true, recurses := true, apart := false, narrowed := true }
def KnotHalvesUptoSaid : Prop := knotHalvesUptoRow.holds Try.pinned (OpenSpec.upto knotHalvesSpec)

/-- 'cisternlaw09.NodePuts', WHERE WHAT IT READS IS OF BULK AT MOST 1048576: true; the input reads as it did. -/
def nodePutsUptoRow : OpenClaim := { program := "ytdekplalhfpooaa", sum := "83eaa64cbbfd7a94433eb17203ff0d8ed8bc1963d42403cfd6c3bd02b2922588", func := "cistern/cisternlaw09.NodePuts", spec := "nodePuts", unfollowed := true, recurses := true, apart := false, narrowed := true }
def NodePutsUptoSaid : Prop := nodePutsUptoRow.holds Try.pinned (OpenSpec.upto nodePutsSpec)

/-- 'cisternlaw09.NodeTakes', WHERE WHAT IT READS IS OF BULK AT MOST 1048576: true; the input reads as it did. -/
def nodeTakesUptoRow : OpenClaim := { program := "ytdekplalhfpooaa", sum := "83eaa64cbbfd7a94433eb17203ff0d8ed8bc1963d42403cfd6c3bd02b2922588", func := "cistern/cisternlaw09.NodeTakes", spec := "nodeTakes", unfollowed := true, recurses := true, apart := false, narrowed := true }
def NodeTakesUptoSaid : Prop := nodeTakesUptoRow.holds Try.pinned (OpenSpec.upto nodeTakesSpec)

/-- 'cisternlaw09.NodeSame', WHERE WHAT IT READS IS OF BULK AT MOST 1048576: true; the input reads as it did. -/
def nodeSameUptoRow : OpenClaim := { program := "ytdekplalhfpooaa", sum := "83eaa64cbbfd7a94433eb17203ff0d8ed8bc1963d42403cfd6c3bd02b2922588", func := "cistern/cisternlaw09.NodeSame", spec := "nodeSame", unfollowed := true, recurses := true, apart := false, narrowed := true }
def NodeSameUptoSaid : Prop := nodeSameUptoRow.holds Try.pinned (OpenSpec.upto nodeSameSpec)

/-- 'cisternlaw09.NodeCut', WHERE WHAT IT READS IS OF BULK AT MOST 1048576: true; the input reads as it did. -/
def nodeCutUptoRow : OpenClaim := { program := "ytdekplalhfpooaa", sum := "83eaa64cbbfd7a94433eb17203ff0d8ed8bc1963d42403cfd6c3bd02b2922588", func := "cistern/cisternlaw09.NodeCut", spec := "nodeCut", unfollowed := true, recurses := true, apart := false, narrowed := true }
def NodeCutUptoSaid : Prop := nodeCutUptoRow.holds Try.pinned (OpenSpec.upto nodeCutSpec)

/-- 'cisternlaw09.NodeKnown', WHERE WHAT IT READS IS OF BULK AT MOST 1048576: true; the input reads as it did. -/
def nodeKnownUptoRow : OpenClaim := { program := "ytdekplalhfpooaa", sum := "83eaa64cbbfd7a94433eb17203ff0d8ed8bc1963d42403cfd6c3bd02b2922588", func := "cistern/cisternlaw09.NodeKnown", spec := "nodeKnown", unfollowed := true, recurses := true, apart := false, narrowed := true }
def NodeKnownUptoSaid : Prop := nodeKnownUptoRow.holds Try.pinned (OpenSpec.upto nodeKnownSpec)

/-- 'cisternlaw10.KnotChanges', WHERE WHAT IT READS IS OF BULK AT MOST 1048576: true; the input reads as it did. -/
def knotChangesUptoRow : OpenClaim := { program := "ytdekplalhfpooaa", sum := "83eaa64cbbfd7a94433eb17203ff0d8ed8bc1963d42403cfd6c3bd02b2922588", func := "cistern/cisternlaw10.KnotChanges", spec := "knotChanges", inPlace := ["slices.overlaps[uint64]"], unfollowed := true, recurses := true, apart := false, narrowed := true }
def KnotChangesUptoSaid : Prop := knotChangesUptoRow.holds Try.pinned (OpenSpec.upto knotChangesSpec)

/-- 'cisternlaw10.KnotKeeps', WHERE WHAT IT READS IS OF BULK AT MOST 1048576: true; the input reads as it did. -/
def knotKeepsUptoRow : OpenClaim := { program := "ytdekplalhfpooaa", sum := "83eaa64cbbfd7a94433eb17203ff0d8ed8bc1963d42403cfd6c3bd02b2922588", func := "cistern/cisternlaw10.KnotKeeps", spec := "knotKeeps", inPlace := ["slices.overlaps[uint64]"], unfollowed := true, recurses := true, apart := false, narrowed := true }
def KnotKeepsUptoSaid : Prop := knotKeepsUptoRow.holds Try.pinned (OpenSpec.upto knotKeepsSpec)

/-- 'cisternlaw10.KnotKnown', WHERE WHAT IT READS IS OF BULK AT MOST 1048576: true; the input reads as it did. -/
def knotKnownUptoRow : OpenClaim := { program := "ytdekplalhfpooaa", sum := "83eaa64cbbfd7a94433eb17203ff0d8ed8bc1963d42403cfd6c3bd02b2922588", func := "cistern/cisternlaw10.KnotKnown", spec := "knotKnown", inPlace := ["slices.overlaps[uint64]"], unfollowed := true, recurses := true, apart := false, narrowed := true }
def KnotKnownUptoSaid : Prop := knotKnownUptoRow.holds Try.pinned (OpenSpec.upto knotKnownSpec)

end Rows
end Go.Proofs.Ytdekplalhfpooaa
