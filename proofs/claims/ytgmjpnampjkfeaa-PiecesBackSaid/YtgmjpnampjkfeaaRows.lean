/-
  No cell of these rows narrows 'for every input' (looked for: loops, veiled, ifaces, maps, wideKeys, modest, calm, conditions, laid).
  DERIVED. THE GIVEN ROWS OF THIS SEAT. 8 by the template 'for every input the law returns true; each argument reads behind the call as it read before'; 0 by the template 'total and deterministic' (their statements: YtgmjpnampjkfeaaTotals.lean).
  GIVEN WITH THE SEED: the statements are not yours to turn. If you find one false, say at which input.
  Laid BY PROGRAM, IN A SANDBOX (cutbox-rows.mjs): the forced cells as the released guide's own fill.sh prints them over the translation e358bade864d18bd… (all of the seat's roots in one cut). By AI agents, Wed Nov 11 2026. No macro, syntax, notation, axiom, sorry.
-/
import Derived.Test.YtgmjpnampjkfeaaChecked
import GoSem.Claim
import GoSem.ClaimJoined
import GoSem.ClaimMapViews
import Derived.JoinedTies
import Derived.KernelRfl
namespace Go.Proofs.Ytgmjpnampjkfeaa
/- THE CELL 'sum', in the pinned program and in every row, IS THE sha256 OF THE DUMP (.gsa) THAT YtgmjpnampjkfeaaProg.lean LOADS. Nothing in Lean hashes anything: it is a label: what it is worth is what the hold of that sum in a sandbox is worth. -/
noncomputable def Try.pinned : Pinned := { name := "ytgmjpnampjkfeaa", sum := "e358bade864d18bd012ec97d70ae3acb6cd81d5c7b8837cc88521ac7bd8814a6", checked := Try.checked }
namespace Rows
def none {H : Type} : Left H := { results := [], args := [] }

/-- 'cisternlaw18.PiecesCuts': WHATEVER THE INPUT: true; the input reads as it did. -/
def piecesCutsSpec : ChangeSpec := { name := "piecesCuts", fn := fun _ => fun
  | [d1, d2, d3] => { results := [.lit (.bool true)], args := [d1, d2, d3] }
  | _ => none }
def piecesCutsRow : OpenClaim := { program := "ytgmjpnampjkfeaa", sum := "e358bade864d18bd012ec97d70ae3acb6cd81d5c7b8837cc88521ac7bd8814a6", func := "cistern/cisternlaw18.PiecesCuts", spec := "piecesCuts", unfollowed := true, recurses := true, apart := false }
def PiecesCutsSaid : Prop := piecesCutsRow.holds Try.pinned (OpenSpec.ofChange piecesCutsSpec)

/-- ITS FALSE NEIGHBOUR: 'it returns false'. Refute it at one input. -/
def piecesCutsWrong : ChangeSpec := { name := "piecesCuts", fn := fun _ => fun
  | [d1, d2, d3] => { results := [.lit (.bool false)], args := [d1, d2, d3] }
  | _ => none }
def PiecesCutsWrongFalsely : Prop := piecesCutsRow.holds Try.pinned (OpenSpec.ofChange piecesCutsWrong)

/-- 'cisternlaw18.PiecesWhole': WHATEVER THE INPUT: true; the input reads as it did. -/
def piecesWholeSpec : ChangeSpec := { name := "piecesWhole", fn := fun _ => fun
  | [d1, d2] => { results := [.lit (.bool true)], args := [d1, d2] }
  | _ => none }
def piecesWholeRow : OpenClaim := { program := "ytgmjpnampjkfeaa", sum := "e358bade864d18bd012ec97d70ae3acb6cd81d5c7b8837cc88521ac7bd8814a6", func := "cistern/cisternlaw18.PiecesWhole", spec := "piecesWhole", unfollowed := true, recurses := true, apart := false }
def PiecesWholeSaid : Prop := piecesWholeRow.holds Try.pinned (OpenSpec.ofChange piecesWholeSpec)

/-- ITS FALSE NEIGHBOUR: 'it returns false'. Refute it at one input. -/
def piecesWholeWrong : ChangeSpec := { name := "piecesWhole", fn := fun _ => fun
  | [d1, d2] => { results := [.lit (.bool false)], args := [d1, d2] }
  | _ => none }
def PiecesWholeWrongFalsely : Prop := piecesWholeRow.holds Try.pinned (OpenSpec.ofChange piecesWholeWrong)

/-- 'cisternlaw18.PiecesJoin': WHATEVER THE INPUT: true; the input reads as it did. -/
def piecesJoinSpec : ChangeSpec := { name := "piecesJoin", fn := fun _ => fun
  | [d1, d2, d3] => { results := [.lit (.bool true)], args := [d1, d2, d3] }
  | _ => none }
def piecesJoinRow : OpenClaim := { program := "ytgmjpnampjkfeaa", sum := "e358bade864d18bd012ec97d70ae3acb6cd81d5c7b8837cc88521ac7bd8814a6", func := "cistern/cisternlaw18.PiecesJoin", spec := "piecesJoin", unfollowed := true, recurses := true, apart := false }
def PiecesJoinSaid : Prop := piecesJoinRow.holds Try.pinned (OpenSpec.ofChange piecesJoinSpec)

/-- ITS FALSE NEIGHBOUR: 'it returns false'. Refute it at one input. -/
def piecesJoinWrong : ChangeSpec := { name := "piecesJoin", fn := fun _ => fun
  | [d1, d2, d3] => { results := [.lit (.bool false)], args := [d1, d2, d3] }
  | _ => none }
def PiecesJoinWrongFalsely : Prop := piecesJoinRow.holds Try.pinned (OpenSpec.ofChange piecesJoinWrong)

/-- 'cisternlaw18.PiecesInner': WHATEVER THE INPUT: true; the input reads as it did. -/
def piecesInnerSpec : ChangeSpec := { name := "piecesInner", fn := fun _ => fun
  | [d1, d2, d3] => { results := [.lit (.bool true)], args := [d1, d2, d3] }
  | _ => none }
def piecesInnerRow : OpenClaim := { program := "ytgmjpnampjkfeaa", sum := "e358bade864d18bd012ec97d70ae3acb6cd81d5c7b8837cc88521ac7bd8814a6", func := "cistern/cisternlaw18.PiecesInner", spec := "piecesInner", unfollowed := true, recurses := true, apart := false }
def PiecesInnerSaid : Prop := piecesInnerRow.holds Try.pinned (OpenSpec.ofChange piecesInnerSpec)

/-- ITS FALSE NEIGHBOUR: 'it returns false'. Refute it at one input. -/
def piecesInnerWrong : ChangeSpec := { name := "piecesInner", fn := fun _ => fun
  | [d1, d2, d3] => { results := [.lit (.bool false)], args := [d1, d2, d3] }
  | _ => none }
def PiecesInnerWrongFalsely : Prop := piecesInnerRow.holds Try.pinned (OpenSpec.ofChange piecesInnerWrong)

/-- 'cisternlaw18.PiecesKnown': WHATEVER THE INPUT: true; the input reads as it did. -/
def piecesKnownSpec : ChangeSpec := { name := "piecesKnown", fn := fun _ => fun
  | [] => { results := [.lit (.bool true)], args := [] }
  | _ => none }
def piecesKnownRow : OpenClaim := { program := "ytgmjpnampjkfeaa", sum := "e358bade864d18bd012ec97d70ae3acb6cd81d5c7b8837cc88521ac7bd8814a6", func := "cistern/cisternlaw18.PiecesKnown", spec := "piecesKnown", unfollowed := true, recurses := true, apart := false }
def PiecesKnownSaid : Prop := piecesKnownRow.holds Try.pinned (OpenSpec.ofChange piecesKnownSpec)

/-- ITS FALSE NEIGHBOUR: 'it returns false'. Refute it at one input. -/
def piecesKnownWrong : ChangeSpec := { name := "piecesKnown", fn := fun _ => fun
  | [] => { results := [.lit (.bool false)], args := [] }
  | _ => none }
def PiecesKnownWrongFalsely : Prop := piecesKnownRow.holds Try.pinned (OpenSpec.ofChange piecesKnownWrong)

/-- 'cisternlaw18.PiecesEach': WHATEVER THE INPUT: true; the input reads as it did. -/
def piecesEachSpec : ChangeSpec := { name := "piecesEach", fn := fun _ => fun
  | [d1, d2, d3] => { results := [.lit (.bool true)], args := [d1, d2, d3] }
  | _ => none }
def piecesEachRow : OpenClaim := { program := "ytgmjpnampjkfeaa", sum := "e358bade864d18bd012ec97d70ae3acb6cd81d5c7b8837cc88521ac7bd8814a6", func := "cistern/cisternlaw18.PiecesEach", spec := "piecesEach", unfollowed := true, recurses := true, apart := false }
def PiecesEachSaid : Prop := piecesEachRow.holds Try.pinned (OpenSpec.ofChange piecesEachSpec)

/-- ITS FALSE NEIGHBOUR: 'it returns false'. Refute it at one input. -/
def piecesEachWrong : ChangeSpec := { name := "piecesEach", fn := fun _ => fun
  | [d1, d2, d3] => { results := [.lit (.bool false)], args := [d1, d2, d3] }
  | _ => none }
def PiecesEachWrongFalsely : Prop := piecesEachRow.holds Try.pinned (OpenSpec.ofChange piecesEachWrong)

/-- 'cisternlaw18.PiecesLays': WHATEVER THE INPUT: true; the input reads as it did. -/
def piecesLaysSpec : ChangeSpec := { name := "piecesLays", fn := fun _ => fun
  | [d1, d2, d3] => { results := [.lit (.bool true)], args := [d1, d2, d3] }
  | _ => none }
def piecesLaysRow : OpenClaim := { program := "ytgmjpnampjkfeaa", sum := "e358bade864d18bd012ec97d70ae3acb6cd81d5c7b8837cc88521ac7bd8814a6", func := "cistern/cisternlaw18.PiecesLays", spec := "piecesLays", unfollowed := true, recurses := true, apart := false }
def PiecesLaysSaid : Prop := piecesLaysRow.holds Try.pinned (OpenSpec.ofChange piecesLaysSpec)

/-- ITS FALSE NEIGHBOUR: 'it returns false'. Refute it at one input. -/
def piecesLaysWrong : ChangeSpec := { name := "piecesLays", fn := fun _ => fun
  | [d1, d2, d3] => { results := [.lit (.bool false)], args := [d1, d2, d3] }
  | _ => none }
def PiecesLaysWrongFalsely : Prop := piecesLaysRow.holds Try.pinned (OpenSpec.ofChange piecesLaysWrong)

/-- 'cisternlaw18.PiecesBack': WHATEVER THE INPUT: true; the input reads as it did. -/
def piecesBackSpec : ChangeSpec := { name := "piecesBack", fn := fun _ => fun
  | [d1, d2, d3] => { results := [.lit (.bool true)], args := [d1, d2, d3] }
  | _ => none }
def piecesBackRow : OpenClaim := { program := "ytgmjpnampjkfeaa", sum := "e358bade864d18bd012ec97d70ae3acb6cd81d5c7b8837cc88521ac7bd8814a6", func := "cistern/cisternlaw18.PiecesBack", spec := "piecesBack", unfollowed := true, recurses := true, apart := false }
def PiecesBackSaid : Prop := piecesBackRow.holds Try.pinned (OpenSpec.ofChange piecesBackSpec)

/-- ITS FALSE NEIGHBOUR: 'it returns false'. Refute it at one input. -/
def piecesBackWrong : ChangeSpec := { name := "piecesBack", fn := fun _ => fun
  | [d1, d2, d3] => { results := [.lit (.bool false)], args := [d1, d2, d3] }
  | _ => none }
def PiecesBackWrongFalsely : Prop := piecesBackRow.holds Try.pinned (OpenSpec.ofChange piecesBackWrong)

/- THE SECOND FORM. 'bulk': how many values and letters a reading holds, each counted each time it is reached (what is shared counts as often as it is met; a slice's spare places count too). A statement '..UptoSaid' is the law's where the arguments, and the package variables that the reading takes, are together of bulk at most 1048576: NARROWER than '..Said'. Prove '..Said' where nothing that the law and all that it calls make is longer than what came in: it says more and counts as full. Else prove '..UptoSaid'. A law counts once. -/
mutual
def uptoBulk {H : Type} : DataW H → Nat
  | .lit (.string bytes) => bytes.length + 1
  | .lit _ => 1
  | .nil => 1
  | .ptr d => uptoBulk d + 1
  | .slice elems spare => uptoBulkAll elems + uptoBulkAll spare + 1
  | .agg parts => uptoBulkAll parts + 1
  | .iface _ d => uptoBulk d + 1
  | .map entries => uptoBulkEntries entries + 1
  | .held _ => 1
def uptoBulkAll {H : Type} : List (DataW H) → Nat
  | [] => 0
  | d :: r => uptoBulk d + uptoBulkAll r
def uptoBulkEntries {H : Type} : List (Lit × DataW H) → Nat
  | [] => 0
  | x :: r => uptoBulkEntry x + uptoBulkEntries r
def uptoBulkEntry {H : Type} : Lit × DataW H → Nat
  | (.string bytes, d) => bytes.length + uptoBulk d + 1
  | (_, d) => uptoBulk d + 1
 end
def uptoSmall : (H : Type) → List (DataW H) → Bool := fun _ ds => decide (uptoBulkAll ds ≤ 1048576)
def OpenSpec.upto (s : _root_.Go.ChangeSpec) : _root_.Go.OpenSpec := { _root_.Go.OpenSpec.ofChange s with cond := some uptoSmall }

/-- 'cisternlaw18.PiecesCuts', WHERE WHAT IT READS IS OF BULK AT MOST 1048576: true; the input reads as it did. -/
def piecesCutsUptoRow : OpenClaim := { program := "ytgmjpnampjkfeaa", sum := "e358bade864d18bd012ec97d70ae3acb6cd81d5c7b8837cc88521ac7bd8814a6", func := "cistern/cisternlaw18.PiecesCuts", spec := "piecesCuts", unfollowed := true, recurses := true, apart := false, narrowed := true }
def PiecesCutsUptoSaid : Prop := piecesCutsUptoRow.holds Try.pinned (OpenSpec.upto piecesCutsSpec)

/-- 'cisternlaw18.PiecesWhole', WHERE WHAT IT READS IS OF BULK AT MOST 1048576: true; the input reads as it did. -/
def piecesWholeUptoRow : OpenClaim := { program := "ytgmjpnampjkfeaa", sum := "e358bade864d18bd012ec97d70ae3acb6cd81d5c7b8837cc88521ac7bd8814a6", func := "cistern/cisternlaw18.PiecesWhole", spec := "piecesWhole", unfollowed := true, recurses := true, apart := false, narrowed := true }
def PiecesWholeUptoSaid : Prop := piecesWholeUptoRow.holds Try.pinned (OpenSpec.upto piecesWholeSpec)

/-- 'cisternlaw18.PiecesJoin', WHERE WHAT IT READS IS OF BULK AT MOST 1048576: true; the input reads as it did. -/
def piecesJoinUptoRow : OpenClaim := { program := "ytgmjpnampjkfeaa", sum := "e358bade864d18bd012ec97d70ae3acb6cd81d5c7b8837cc88521ac7bd8814a6", func := "cistern/cisternlaw18.PiecesJoin", spec := "piecesJoin", unfollowed := true, recurses := true, apart := false, narrowed := true }
def PiecesJoinUptoSaid : Prop := piecesJoinUptoRow.holds Try.pinned (OpenSpec.upto piecesJoinSpec)

/-- 'cisternlaw18.PiecesInner', WHERE WHAT IT READS IS OF BULK AT MOST 1048576: true; the input reads as it did. -/
def piecesInnerUptoRow : OpenClaim := { program := "ytgmjpnampjkfeaa", sum := "e358bade864d18bd012ec97d70ae3acb6cd81d5c7b8837cc88521ac7bd8814a6", func := "cistern/cisternlaw18.PiecesInner", spec := "piecesInner", unfollowed := true, recurses := true, apart := false, narrowed := true }
def PiecesInnerUptoSaid : Prop := piecesInnerUptoRow.holds Try.pinned (OpenSpec.upto piecesInnerSpec)

/-- 'cisternlaw18.PiecesKnown', WHERE WHAT IT READS IS OF BULK AT MOST 1048576: true; the input reads as it did. -/
def piecesKnownUptoRow : OpenClaim := { program := "ytgmjpnampjkfeaa", sum := "e358bade864d18bd012ec97d70ae3acb6cd81d5c7b8837cc88521ac7bd8814a6", func := "cistern/cisternlaw18.PiecesKnown", spec := "piecesKnown", unfollowed := true, recurses := true, apart := false, narrowed := true }
def PiecesKnownUptoSaid : Prop := piecesKnownUptoRow.holds Try.pinned (OpenSpec.upto piecesKnownSpec)

/-- 'cisternlaw18.PiecesEach', WHERE WHAT IT READS IS OF BULK AT MOST 1048576: true; the input reads as it did. -/
def piecesEachUptoRow : OpenClaim := { program := "ytgmjpnampjkfeaa", sum := "e358bade864d18bd012ec97d70ae3acb6cd81d5c7b8837cc88521ac7bd8814a6", func := "cistern/cisternlaw18.PiecesEach", spec := "piecesEach", unfollowed := true, recurses := true, apart := false, narrowed := true }
def PiecesEachUptoSaid : Prop := piecesEachUptoRow.holds Try.pinned (OpenSpec.upto piecesEachSpec)

/-- 'cisternlaw18.PiecesLays', WHERE WHAT IT READS IS OF BULK AT MOST 1048576: true; the input reads as it did. -/
def piecesLaysUptoRow : OpenClaim := { program := "ytgmjpnampjkfeaa", sum := "e358bade864d18bd012ec97d70ae3acb6cd81d5c7b8837cc88521ac7bd8814a6", func := "cistern/cisternlaw18.PiecesLays", spec := "piecesLays", unfollowed := true, recurses := true, apart := false, narrowed := true }
def PiecesLaysUptoSaid : Prop := piecesLaysUptoRow.holds Try.pinned (OpenSpec.upto piecesLaysSpec)

/-- 'cisternlaw18.PiecesBack', WHERE WHAT IT READS IS OF BULK AT MOST 1048576: true; the input reads as it did. -/
def piecesBackUptoRow : OpenClaim := { program := "ytgmjpnampjkfeaa", sum := "e358bade864d18bd012ec97d70ae3acb6cd81d5c7b8837cc88521ac7bd8814a6", func := "cistern/cisternlaw18.PiecesBack", spec := "piecesBack", unfollowed := true, recurses := true, apart := false, narrowed := true }
def PiecesBackUptoSaid : Prop := piecesBackUptoRow.holds Try.pinned (OpenSpec.upto piecesBackSpec)

end Rows
end Go.Proofs.Ytgmjpnampjkfeaa
