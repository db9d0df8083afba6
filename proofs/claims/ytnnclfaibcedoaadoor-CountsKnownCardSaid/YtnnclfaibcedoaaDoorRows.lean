/-
  NARROWER THAN 'FOR EVERY INPUT', by the rows' own cells (each row's printed sentence says how): CountsTakes: laid · CountsBack: laid · CountsPuts: laid · CountsKnown: laid.
  DERIVED. THE GIVEN ROWS OF THIS SEAT. 4 by the template 'for every input the law returns true; each argument reads behind the call as it read before'; 0 by the template 'total and deterministic' (their statements: YtnnclfaibcedoaaDoorTotals.lean).
  GIVEN WITH THE SEED: the statements are not yours to turn. If you find one false, say at which input.
  Laid BY PROGRAM, IN A SANDBOX (cutbox-rows.mjs): the forced cells as the released guide's own fill.sh prints them over the translation e57d7ca9d4c90def… (all of the seat's roots in one cut). By AI agents, Wed Nov 11 2026. No macro, syntax, notation, axiom, sorry.
-/
import Derived.Test.YtnnclfaibcedoaaDoorChecked
import GoSem.PinnedTables
import GoSem.Claim
import GoSem.ClaimJoined
import GoSem.ClaimMapViews
import Derived.JoinedTies
import Derived.KernelRfl
namespace Go.Proofs.YtnnclfaibcedoaaDoor
/- THE CELL 'sum', in the pinned program and in every row, IS THE sha256 OF THE DUMP (.gsa) THAT YtnnclfaibcedoaaDoorProg.lean LOADS. Nothing in Lean hashes anything: it is a label: what it is worth is what the hold of that sum in a sandbox is worth. -/
noncomputable def Tryd.pinned : Pinned := { name := "ytnnclfaibcedoaadoor", sum := "e57d7ca9d4c90defc32565826c38e91ab81defd7c5df95723d3c65103133e461", checked := Tryd.checked }
namespace Rows
def none {H : Type} : Left H := { results := [], args := [] }

/- WHAT THE LISTED PACKAGE-LEVEL VARIABLES READ AS WHEN THE CALL BEGINS. Each datum BY PROGRAM (the guide's laid-datum.mjs) off the statement by which the dump's own 'gosem.cut.vars' lays the variable. In a bare row this is a premise. The card (YtnnclfaibcedoaaDoorCards.lean) ties it to the program's text. -/
def laid_unicode_utf8_acceptRanges {H : Type} : DataW H := .agg [.agg [.lit (.int .u8 128), .lit (.int .u8 191)], .agg [.lit (.int .u8 160), .lit (.int .u8 191)], .agg [.lit (.int .u8 128), .lit (.int .u8 159)], .agg [.lit (.int .u8 144), .lit (.int .u8 191)], .agg [.lit (.int .u8 128), .lit (.int .u8 143)], .agg [.lit (.int .u8 0), .lit (.int .u8 0)], .agg [.lit (.int .u8 0), .lit (.int .u8 0)], .agg [.lit (.int .u8 0), .lit (.int .u8 0)], .agg [.lit (.int .u8 0), .lit (.int .u8 0)], .agg [.lit (.int .u8 0), .lit (.int .u8 0)], .agg [.lit (.int .u8 0), .lit (.int .u8 0)], .agg [.lit (.int .u8 0), .lit (.int .u8 0)], .agg [.lit (.int .u8 0), .lit (.int .u8 0)], .agg [.lit (.int .u8 0), .lit (.int .u8 0)], .agg [.lit (.int .u8 0), .lit (.int .u8 0)], .agg [.lit (.int .u8 0), .lit (.int .u8 0)]]
/-- One of Go's own tables, pinned by name: the form's constant. -/
def laid_unicode_utf8_first : DataW Unit := Go.Pinned.utf8First

/-- 'cisternlaw08.CountsTakes': WHATEVER THE INPUT: true; the input reads as it did. -/
def countsTakesSpec : ChangeSpec := { name := "countsTakes", fn := fun _ => fun
  | [d1, d2] => { results := [.lit (.bool true)], args := [d1, d2] }
  | _ => none }
def countsTakesRow : OpenClaim := { program := "ytnnclfaibcedoaadoor", sum := "e57d7ca9d4c90defc32565826c38e91ab81defd7c5df95723d3c65103133e461", func := "cistern/cisternlaw08.CountsTakes", spec := "countsTakes", unfollowed := true, recurses := true, named := ["unicode/utf8.first", "unicode/utf8.acceptRanges"], apart := false, laid := [("unicode/utf8.acceptRanges", laid_unicode_utf8_acceptRanges), ("unicode/utf8.first", laid_unicode_utf8_first)] }
def CountsTakesSaid : Prop := countsTakesRow.holds Tryd.pinned (OpenSpec.ofChange countsTakesSpec)

/-- ITS FALSE NEIGHBOUR: 'it returns false'. Refute it at one input. -/
def countsTakesWrong : ChangeSpec := { name := "countsTakes", fn := fun _ => fun
  | [d1, d2] => { results := [.lit (.bool false)], args := [d1, d2] }
  | _ => none }
def CountsTakesWrongFalsely : Prop := countsTakesRow.holds Tryd.pinned (OpenSpec.ofChange countsTakesWrong)

/-- 'cisternlaw08.CountsBack': WHATEVER THE INPUT: true; the input reads as it did. -/
def countsBackSpec : ChangeSpec := { name := "countsBack", fn := fun _ => fun
  | [d1, d2, d3] => { results := [.lit (.bool true)], args := [d1, d2, d3] }
  | _ => none }
def countsBackRow : OpenClaim := { program := "ytnnclfaibcedoaadoor", sum := "e57d7ca9d4c90defc32565826c38e91ab81defd7c5df95723d3c65103133e461", func := "cistern/cisternlaw08.CountsBack", spec := "countsBack", unfollowed := true, recurses := true, named := ["unicode/utf8.first", "unicode/utf8.acceptRanges"], apart := false, laid := [("unicode/utf8.acceptRanges", laid_unicode_utf8_acceptRanges), ("unicode/utf8.first", laid_unicode_utf8_first)] }
def CountsBackSaid : Prop := countsBackRow.holds Tryd.pinned (OpenSpec.ofChange countsBackSpec)

/-- ITS FALSE NEIGHBOUR: 'it returns false'. Refute it at one input. -/
def countsBackWrong : ChangeSpec := { name := "countsBack", fn := fun _ => fun
  | [d1, d2, d3] => { results := [.lit (.bool false)], args := [d1, d2, d3] }
  | _ => none }
def CountsBackWrongFalsely : Prop := countsBackRow.holds Tryd.pinned (OpenSpec.ofChange countsBackWrong)

/-- 'cisternlaw08.CountsPuts': WHATEVER THE INPUT: true; the input reads as it did. -/
def countsPutsSpec : ChangeSpec := { name := "countsPuts", fn := fun _ => fun
  | [d1, d2] => { results := [.lit (.bool true)], args := [d1, d2] }
  | _ => none }
def countsPutsRow : OpenClaim := { program := "ytnnclfaibcedoaadoor", sum := "e57d7ca9d4c90defc32565826c38e91ab81defd7c5df95723d3c65103133e461", func := "cistern/cisternlaw08.CountsPuts", spec := "countsPuts", unfollowed := true, recurses := true, named := ["unicode/utf8.first", "unicode/utf8.acceptRanges"], apart := false, laid := [("unicode/utf8.acceptRanges", laid_unicode_utf8_acceptRanges), ("unicode/utf8.first", laid_unicode_utf8_first)] }
def CountsPutsSaid : Prop := countsPutsRow.holds Tryd.pinned (OpenSpec.ofChange countsPutsSpec)

/-- ITS FALSE NEIGHBOUR: 'it returns false'. Refute it at one input. -/
def countsPutsWrong : ChangeSpec := { name := "countsPuts", fn := fun _ => fun
  | [d1, d2] => { results := [.lit (.bool false)], args := [d1, d2] }
  | _ => none }
def CountsPutsWrongFalsely : Prop := countsPutsRow.holds Tryd.pinned (OpenSpec.ofChange countsPutsWrong)

/-- 'cisternlaw08.CountsKnown': WHATEVER THE INPUT: true; the input reads as it did. -/
def countsKnownSpec : ChangeSpec := { name := "countsKnown", fn := fun _ => fun
  | [] => { results := [.lit (.bool true)], args := [] }
  | _ => none }
def countsKnownRow : OpenClaim := { program := "ytnnclfaibcedoaadoor", sum := "e57d7ca9d4c90defc32565826c38e91ab81defd7c5df95723d3c65103133e461", func := "cistern/cisternlaw08.CountsKnown", spec := "countsKnown", unfollowed := true, recurses := true, named := ["unicode/utf8.first", "unicode/utf8.acceptRanges"], apart := false, laid := [("unicode/utf8.acceptRanges", laid_unicode_utf8_acceptRanges), ("unicode/utf8.first", laid_unicode_utf8_first)] }
def CountsKnownSaid : Prop := countsKnownRow.holds Tryd.pinned (OpenSpec.ofChange countsKnownSpec)

/-- ITS FALSE NEIGHBOUR: 'it returns false'. Refute it at one input. -/
def countsKnownWrong : ChangeSpec := { name := "countsKnown", fn := fun _ => fun
  | [] => { results := [.lit (.bool false)], args := [] }
  | _ => none }
def CountsKnownWrongFalsely : Prop := countsKnownRow.holds Tryd.pinned (OpenSpec.ofChange countsKnownWrong)

/- THE SECOND FORM. 'bulk': how many values and letters a reading holds, each counted each time it is reached (what is shared counts as often as it is met; a slice's spare places count too). A statement '..UptoSaid' is the law's where the arguments, and the package variables that the reading takes, are together of bulk at most 1048576: NARROWER than '..Said'. Prove '..Said' where nothing that the law and all that it calls make is longer than what came in: it says more and counts as full. Else prove '..UptoSaid'. A law counts once. -/
mutual
def uptoBulk {H : Type} : DataW H → Nat
  | .lit (.string bytes) => bytes.length + 1
  | .lit _ => 1
  | .nil => 1
  | .ptr d => uptoBulk d + 1
  | .slice elems spare => uptoBulkAll elems + uptoBulkAll spare + 1
  | .agg parts => uptoBulkAll parts + 1
  | .iface _ d => uptoBulk d + 1
  | .map entries => uptoBulkEntries entries + 1
  | .held _ => 1
def uptoBulkAll {H : Type} : List (DataW H) → Nat
  | [] => 0
  | d :: r => uptoBulk d + uptoBulkAll r
def uptoBulkEntries {H : Type} : List (Lit × DataW H) → Nat
  | [] => 0
  | x :: r => uptoBulkEntry x + uptoBulkEntries r
def uptoBulkEntry {H : Type} : Lit × DataW H → Nat
  | (.string bytes, d) => bytes.length + uptoBulk d + 1
  | (_, d) => uptoBulk d + 1
 end
def uptoSmall : (H : Type) → List (DataW H) → Bool := fun _ ds => decide (uptoBulkAll ds ≤ 1048576)
def OpenSpec.upto (s : _root_.Go.ChangeSpec) : _root_.Go.OpenSpec := { _root_.Go.OpenSpec.ofChange s with cond := some uptoSmall }

/-- 'cisternlaw08.CountsTakes', WHERE WHAT IT READS IS OF BULK AT MOST 1048576: true; the input reads as it did. -/
def countsTakesUptoRow : OpenClaim := { program := "ytnnclfaibcedoaadoor", sum := "e57d7ca9d4c90defc32565826c38e91ab81defd7c5df95723d3c65103133e461", func := "cistern/cisternlaw08.CountsTakes", spec := "countsTakes", unfollowed := true, recurses := true, named := ["unicode/utf8.first", "unicode/utf8.acceptRanges"], apart := false, laid := [("unicode/utf8.acceptRanges", laid_unicode_utf8_acceptRanges), ("unicode/utf8.first", laid_unicode_utf8_first)], narrowed := true }
def CountsTakesUptoSaid : Prop := countsTakesUptoRow.holds Tryd.pinned (OpenSpec.upto countsTakesSpec)

/-- 'cisternlaw08.CountsBack', WHERE WHAT IT READS IS OF BULK AT MOST 1048576: true; the input reads as it did. -/
def countsBackUptoRow : OpenClaim := { program := "ytnnclfaibcedoaadoor", sum := "e57d7ca9d4c90defc32565826c38e91ab81defd7c5df95723d3c65103133e461", func := "cistern/cisternlaw08.CountsBack", spec := "countsBack", unfollowed := true, recurses := true, named := ["unicode/utf8.first", "unicode/utf8.acceptRanges"], apart := false, laid := [("unicode/utf8.acceptRanges", laid_unicode_utf8_acceptRanges), ("unicode/utf8.first", laid_unicode_utf8_first)], narrowed := true }
def CountsBackUptoSaid : Prop := countsBackUptoRow.holds Tryd.pinned (OpenSpec.upto countsBackSpec)

/-- 'cisternlaw08.CountsPuts', WHERE WHAT IT READS IS OF BULK AT MOST 1048576: true; the input reads as it did. -/
def countsPutsUptoRow : OpenClaim := { program := "ytnnclfaibcedoaadoor", sum := "e57d7ca9d4c90defc32565826c38e91ab81defd7c5df95723d3c65103133e461", func := "cistern/cisternlaw08.CountsPuts", spec := "countsPuts", unfollowed := true, recurses := true, named := ["unicode/utf8.first", "unicode/utf8.acceptRanges"], apart := false, laid := [("unicode/utf8.acceptRanges", laid_unicode_utf8_acceptRanges), ("unicode/utf8.first", laid_unicode_utf8_first)], narrowed := true }
def CountsPutsUptoSaid : Prop := countsPutsUptoRow.holds Tryd.pinned (OpenSpec.upto countsPutsSpec)

/-- 'cisternlaw08.CountsKnown', WHERE WHAT IT READS IS OF BULK AT MOST 1048576: true; the input reads as it did. -/
def countsKnownUptoRow : OpenClaim := { program := "ytnnclfaibcedoaadoor", sum := "e57d7ca9d4c90defc32565826c38e91ab81defd7c5df95723d3c65103133e461", func := "cistern/cisternlaw08.CountsKnown", spec := "countsKnown", unfollowed := true, recurses := true, named := ["unicode/utf8.first", "unicode/utf8.acceptRanges"], apart := false, laid := [("unicode/utf8.acceptRanges", laid_unicode_utf8_acceptRanges), ("unicode/utf8.first", laid_unicode_utf8_first)], narrowed := true }
def CountsKnownUptoSaid : Prop := countsKnownUptoRow.holds Tryd.pinned (OpenSpec.upto countsKnownSpec)

end Rows
end Go.Proofs.YtnnclfaibcedoaaDoor
