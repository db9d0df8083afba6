/-
  No cell of these rows narrows 'for every input' (looked for: loops, veiled, ifaces, maps, wideKeys, modest, calm, conditions, laid).
  DERIVED. THE GIVEN ROWS OF THIS SEAT. 12 by the template 'for every input the law returns true; each argument reads behind the call as it read before'; 0 by the template 'total and deterministic' (their statements: YtilmjclfgjigeaaTotals.lean).
  GIVEN WITH THE SEED: the statements are not yours to turn. If you find one false, say at which input.
  Laid BY PROGRAM, IN A SANDBOX (cutbox-rows.mjs): the forced cells as the released guide's own fill.sh prints them over the translation da5d1cd8cc30b64e… (all of the seat's roots in one cut). By AI agents, Wed Nov 11 2026. No macro, syntax, notation, axiom, sorry.
-/
import Derived.Test.YtilmjclfgjigeaaChecked
import GoSem.Claim
import GoSem.ClaimJoined
import GoSem.ClaimMapViews
import Derived.JoinedTies
import Derived.KernelRfl
namespace Go.Proofs.Ytilmjclfgjigeaa
/- THE CELL 'sum', in the pinned program and in every row, IS THE sha256 OF THE DUMP (.gsa) THAT YtilmjclfgjigeaaProg.lean LOADS. Nothing in Lean hashes anything: it is a label: what it is worth is what the hold of that sum in a sandbox is worth. -/
noncomputable def Try.pinned : Pinned := { name := "ytilmjclfgjigeaa", sum := "da5d1cd8cc30b64e36f29ff5c661ada58eef2d43925e0ce3ef569b8d94a2aad9", checked := Try.checked }
namespace Rows
def none {H : Type} : Left H := { results := [], args := [] }

/-- 'cisternlaw02.CrcSums': WHATEVER THE INPUT: true; the input reads as it did. -/
def crcSumsSpec : ChangeSpec := { name := "crcSums", fn := fun _ => fun
  | [d1, d2] => { results := [.lit (.bool true)], args := [d1, d2] }
  | _ => none }
def crcSumsRow : OpenClaim := { program := "ytilmjclfgjigeaa", sum := "da5d1cd8cc30b64e36f29ff5c661ada58eef2d43925e0ce3ef569b8d94a2aad9", func := "cistern/cisternlaw02.CrcSums", spec := "crcSums", unfollowed := true, recurses := true, apart := false }
def CrcSumsSaid : Prop := crcSumsRow.holds Try.pinned (OpenSpec.ofChange crcSumsSpec)

/-- ITS FALSE NEIGHBOUR: 'it returns false'. Refute it at one input. -/
def crcSumsWrong : ChangeSpec := { name := "crcSums", fn := fun _ => fun
  | [d1, d2] => { results := [.lit (.bool false)], args := [d1, d2] }
  | _ => none }
def CrcSumsWrongFalsely : Prop := crcSumsRow.holds Try.pinned (OpenSpec.ofChange crcSumsWrong)

/-- 'cisternlaw02.CrcJoins': WHATEVER THE INPUT: true; the input reads as it did. -/
def crcJoinsSpec : ChangeSpec := { name := "crcJoins", fn := fun _ => fun
  | [d1, d2, d3] => { results := [.lit (.bool true)], args := [d1, d2, d3] }
  | _ => none }
def crcJoinsRow : OpenClaim := { program := "ytilmjclfgjigeaa", sum := "da5d1cd8cc30b64e36f29ff5c661ada58eef2d43925e0ce3ef569b8d94a2aad9", func := "cistern/cisternlaw02.CrcJoins", spec := "crcJoins", unfollowed := true, recurses := true, apart := false }
def CrcJoinsSaid : Prop := crcJoinsRow.holds Try.pinned (OpenSpec.ofChange crcJoinsSpec)

/-- ITS FALSE NEIGHBOUR: 'it returns false'. Refute it at one input. -/
def crcJoinsWrong : ChangeSpec := { name := "crcJoins", fn := fun _ => fun
  | [d1, d2, d3] => { results := [.lit (.bool false)], args := [d1, d2, d3] }
  | _ => none }
def CrcJoinsWrongFalsely : Prop := crcJoinsRow.holds Try.pinned (OpenSpec.ofChange crcJoinsWrong)

/-- 'cisternlaw02.CrcTells': WHATEVER THE INPUT: true; the input reads as it did. -/
def crcTellsSpec : ChangeSpec := { name := "crcTells", fn := fun _ => fun
  | [d1, d2, d3] => { results := [.lit (.bool true)], args := [d1, d2, d3] }
  | _ => none }
def crcTellsRow : OpenClaim := { program := "ytilmjclfgjigeaa", sum := "da5d1cd8cc30b64e36f29ff5c661ada58eef2d43925e0ce3ef569b8d94a2aad9", func := "cistern/cisternlaw02.CrcTells", spec := "crcTells", unfollowed := true, recurses := true, apart := false }
def CrcTellsSaid : Prop := crcTellsRow.holds Try.pinned (OpenSpec.ofChange crcTellsSpec)

/-- ITS FALSE NEIGHBOUR: 'it returns false'. Refute it at one input. -/
def crcTellsWrong : ChangeSpec := { name := "crcTells", fn := fun _ => fun
  | [d1, d2, d3] => { results := [.lit (.bool false)], args := [d1, d2, d3] }
  | _ => none }
def CrcTellsWrongFalsely : Prop := crcTellsRow.holds Try.pinned (OpenSpec.ofChange crcTellsWrong)

/-- 'cisternlaw02.CrcParts': WHATEVER THE INPUT: true; the input reads as it did. -/
def crcPartsSpec : ChangeSpec := { name := "crcParts", fn := fun _ => fun
  | [d1, d2] => { results := [.lit (.bool true)], args := [d1, d2] }
  | _ => none }
def crcPartsRow : OpenClaim := { program := "ytilmjclfgjigeaa", sum := "da5d1cd8cc30b64e36f29ff5c661ada58eef2d43925e0ce3ef569b8d94a2aad9", func := "cistern/cisternlaw02.CrcParts", spec := "crcParts", unfollowed := true, recurses := true, apart := false }
def CrcPartsSaid : Prop := crcPartsRow.holds Try.pinned (OpenSpec.ofChange crcPartsSpec)

/-- ITS FALSE NEIGHBOUR: 'it returns false'. Refute it at one input. -/
def crcPartsWrong : ChangeSpec := { name := "crcParts", fn := fun _ => fun
  | [d1, d2] => { results := [.lit (.bool false)], args := [d1, d2] }
  | _ => none }
def CrcPartsWrongFalsely : Prop := crcPartsRow.holds Try.pinned (OpenSpec.ofChange crcPartsWrong)

/-- 'cisternlaw02.CrcBinds': WHATEVER THE INPUT: true; the input reads as it did. -/
def crcBindsSpec : ChangeSpec := { name := "crcBinds", fn := fun _ => fun
  | [d1, d2, d3] => { results := [.lit (.bool true)], args := [d1, d2, d3] }
  | _ => none }
def crcBindsRow : OpenClaim := { program := "ytilmjclfgjigeaa", sum := "da5d1cd8cc30b64e36f29ff5c661ada58eef2d43925e0ce3ef569b8d94a2aad9", func := "cistern/cisternlaw02.CrcBinds", spec := "crcBinds", unfollowed := true, recurses := true, apart := false }
def CrcBindsSaid : Prop := crcBindsRow.holds Try.pinned (OpenSpec.ofChange crcBindsSpec)

/-- ITS FALSE NEIGHBOUR: 'it returns false'. Refute it at one input. -/
def crcBindsWrong : ChangeSpec := { name := "crcBinds", fn := fun _ => fun
  | [d1, d2, d3] => { results := [.lit (.bool false)], args := [d1, d2, d3] }
  | _ => none }
def CrcBindsWrongFalsely : Prop := crcBindsRow.holds Try.pinned (OpenSpec.ofChange crcBindsWrong)

/-- 'cisternlaw02.CrcCombines': WHATEVER THE INPUT: true; the input reads as it did. -/
def crcCombinesSpec : ChangeSpec := { name := "crcCombines", fn := fun _ => fun
  | [d1, d2, d3] => { results := [.lit (.bool true)], args := [d1, d2, d3] }
  | _ => none }
def crcCombinesRow : OpenClaim := { program := "ytilmjclfgjigeaa", sum := "da5d1cd8cc30b64e36f29ff5c661ada58eef2d43925e0ce3ef569b8d94a2aad9", func := "cistern/cisternlaw02.CrcCombines", spec := "crcCombines", unfollowed := true, recurses := true, apart := false }
def CrcCombinesSaid : Prop := crcCombinesRow.holds Try.pinned (OpenSpec.ofChange crcCombinesSpec)

/-- ITS FALSE NEIGHBOUR: 'it returns false'. Refute it at one input. -/
def crcCombinesWrong : ChangeSpec := { name := "crcCombines", fn := fun _ => fun
  | [d1, d2, d3] => { results := [.lit (.bool false)], args := [d1, d2, d3] }
  | _ => none }
def CrcCombinesWrongFalsely : Prop := crcCombinesRow.holds Try.pinned (OpenSpec.ofChange crcCombinesWrong)

/-- 'cisternlaw02.CrcKnown': WHATEVER THE INPUT: true; the input reads as it did. -/
def crcKnownSpec : ChangeSpec := { name := "crcKnown", fn := fun _ => fun
  | [] => { results := [.lit (.bool true)], args := [] }
  | _ => none }
def crcKnownRow : OpenClaim := { program := "ytilmjclfgjigeaa", sum := "da5d1cd8cc30b64e36f29ff5c661ada58eef2d43925e0ce3ef569b8d94a2aad9", func := "cistern/cisternlaw02.CrcKnown", spec := "crcKnown", unfollowed := true, recurses := true, apart := false }
def CrcKnownSaid : Prop := crcKnownRow.holds Try.pinned (OpenSpec.ofChange crcKnownSpec)

/-- ITS FALSE NEIGHBOUR: 'it returns false'. Refute it at one input. -/
def crcKnownWrong : ChangeSpec := { name := "crcKnown", fn := fun _ => fun
  | [] => { results := [.lit (.bool false)], args := [] }
  | _ => none }
def CrcKnownWrongFalsely : Prop := crcKnownRow.holds Try.pinned (OpenSpec.ofChange crcKnownWrong)

/-- 'cisternlaw04.StampSeals': WHATEVER THE INPUT: true; the input reads as it did. -/
def stampSealsSpec : ChangeSpec := { name := "stampSeals", fn := fun _ => fun
  | [d1, d2, d3] => { results := [.lit (.bool true)], args := [d1, d2, d3] }
  | _ => none }
def stampSealsRow : OpenClaim := { program := "ytilmjclfgjigeaa", sum := "da5d1cd8cc30b64e36f29ff5c661ada58eef2d43925e0ce3ef569b8d94a2aad9", func := "cistern/cisternlaw04.StampSeals", spec := "stampSeals", apart := false }
def StampSealsSaid : Prop := stampSealsRow.holds Try.pinned (OpenSpec.ofChange stampSealsSpec)

/-- ITS FALSE NEIGHBOUR: 'it returns false'. Refute it at one input. -/
def stampSealsWrong : ChangeSpec := { name := "stampSeals", fn := fun _ => fun
  | [d1, d2, d3] => { results := [.lit (.bool false)], args := [d1, d2, d3] }
  | _ => none }
def StampSealsWrongFalsely : Prop := stampSealsRow.holds Try.pinned (OpenSpec.ofChange stampSealsWrong)

/-- 'cisternlaw04.StampOpens': WHATEVER THE INPUT: true; the input reads as it did. -/
def stampOpensSpec : ChangeSpec := { name := "stampOpens", fn := fun _ => fun
  | [d1, d2, d3] => { results := [.lit (.bool true)], args := [d1, d2, d3] }
  | _ => none }
def stampOpensRow : OpenClaim := { program := "ytilmjclfgjigeaa", sum := "da5d1cd8cc30b64e36f29ff5c661ada58eef2d43925e0ce3ef569b8d94a2aad9", func := "cistern/cisternlaw04.StampOpens", spec := "stampOpens", apart := false }
def StampOpensSaid : Prop := stampOpensRow.holds Try.pinned (OpenSpec.ofChange stampOpensSpec)

/-- ITS FALSE NEIGHBOUR: 'it returns false'. Refute it at one input. -/
def stampOpensWrong : ChangeSpec := { name := "stampOpens", fn := fun _ => fun
  | [d1, d2, d3] => { results := [.lit (.bool false)], args := [d1, d2, d3] }
  | _ => none }
def StampOpensWrongFalsely : Prop := stampOpensRow.holds Try.pinned (OpenSpec.ofChange stampOpensWrong)

/-- 'cisternlaw04.StampOwn': WHATEVER THE INPUT: true; the input reads as it did. -/
def stampOwnSpec : ChangeSpec := { name := "stampOwn", fn := fun _ => fun
  | [d1, d2, d3, d4, d5] => { results := [.lit (.bool true)], args := [d1, d2, d3, d4, d5] }
  | _ => none }
def stampOwnRow : OpenClaim := { program := "ytilmjclfgjigeaa", sum := "da5d1cd8cc30b64e36f29ff5c661ada58eef2d43925e0ce3ef569b8d94a2aad9", func := "cistern/cisternlaw04.StampOwn", spec := "stampOwn", apart := false }
def StampOwnSaid : Prop := stampOwnRow.holds Try.pinned (OpenSpec.ofChange stampOwnSpec)

/-- ITS FALSE NEIGHBOUR: 'it returns false'. Refute it at one input. -/
def stampOwnWrong : ChangeSpec := { name := "stampOwn", fn := fun _ => fun
  | [d1, d2, d3, d4, d5] => { results := [.lit (.bool false)], args := [d1, d2, d3, d4, d5] }
  | _ => none }
def StampOwnWrongFalsely : Prop := stampOwnRow.holds Try.pinned (OpenSpec.ofChange stampOwnWrong)

/-- 'cisternlaw04.StampBack': WHATEVER THE INPUT: true; the input reads as it did. -/
def stampBackSpec : ChangeSpec := { name := "stampBack", fn := fun _ => fun
  | [d1, d2, d3] => { results := [.lit (.bool true)], args := [d1, d2, d3] }
  | _ => none }
def stampBackRow : OpenClaim := { program := "ytilmjclfgjigeaa", sum := "da5d1cd8cc30b64e36f29ff5c661ada58eef2d43925e0ce3ef569b8d94a2aad9", func := "cistern/cisternlaw04.StampBack", spec := "stampBack", apart := false }
def StampBackSaid : Prop := stampBackRow.holds Try.pinned (OpenSpec.ofChange stampBackSpec)

/-- ITS FALSE NEIGHBOUR: 'it returns false'. Refute it at one input. -/
def stampBackWrong : ChangeSpec := { name := "stampBack", fn := fun _ => fun
  | [d1, d2, d3] => { results := [.lit (.bool false)], args := [d1, d2, d3] }
  | _ => none }
def StampBackWrongFalsely : Prop := stampBackRow.holds Try.pinned (OpenSpec.ofChange stampBackWrong)

/-- 'cisternlaw04.StampKnown': WHATEVER THE INPUT: true; the input reads as it did. -/
def stampKnownSpec : ChangeSpec := { name := "stampKnown", fn := fun _ => fun
  | [] => { results := [.lit (.bool true)], args := [] }
  | _ => none }
def stampKnownRow : OpenClaim := { program := "ytilmjclfgjigeaa", sum := "da5d1cd8cc30b64e36f29ff5c661ada58eef2d43925e0ce3ef569b8d94a2aad9", func := "cistern/cisternlaw04.StampKnown", spec := "stampKnown", apart := false }
def StampKnownSaid : Prop := stampKnownRow.holds Try.pinned (OpenSpec.ofChange stampKnownSpec)

/-- ITS FALSE NEIGHBOUR: 'it returns false'. Refute it at one input. -/
def stampKnownWrong : ChangeSpec := { name := "stampKnown", fn := fun _ => fun
  | [] => { results := [.lit (.bool false)], args := [] }
  | _ => none }
def StampKnownWrongFalsely : Prop := stampKnownRow.holds Try.pinned (OpenSpec.ofChange stampKnownWrong)

/- THE SECOND FORM. 'bulk': how many values and letters a reading holds, each counted each time it is reached (what is shared counts as often as it is met; a slice's spare places count too). A statement '..UptoSaid' is the law's where the arguments, and the package variables that the reading takes, are together of bulk at most 1048576: NARROWER than '..Said'. Prove '..Said' where nothing that the law and all that it calls make is longer than what came in: it says more and counts as full. Else prove '..UptoSaid'. A law counts once. -/
mutual
def uptoBulk {H : Type} : DataW H → Nat
  | .lit (.string bytes) => bytes.length + 1
  | .lit _ => 1
  | .nil => 1
  | .ptr d => uptoBulk d + 1
  | .slice elems spare => uptoBulkAll elems + uptoBulkAll spare + 1
  | .agg parts => uptoBulkAll parts + 1
  | .iface _ d => uptoBulk d + 1
  | .map entries => uptoBulkEntries entries + 1
  | .held _ => 1
def uptoBulkAll {H : Type} : List (DataW H) → Nat
  | [] => 0
  | d :: r => uptoBulk d + uptoBulkAll r
def uptoBulkEntries {H : Type} : List (Lit × DataW H) → Nat
  | [] => 0
  | x :: r => uptoBulkEntry x + uptoBulkEntries r
def uptoBulkEntry {H : Type} : Lit × DataW H → Nat
  | (.string bytes, d) => bytes.length + uptoBulk d + 1
  | (_, d) => uptoBulk d + 1
 end
def uptoSmall : (H : Type) → List (DataW H) → Bool := fun _ ds => decide (uptoBulkAll ds ≤ 1048576)
def OpenSpec.upto (s : _root_.Go.ChangeSpec) : _root_.Go.OpenSpec := { _root_.Go.OpenSpec.ofChange s with cond := some uptoSmall }

/-- 'cisternlaw02.CrcSums', WHERE WHAT IT READS IS OF BULK AT MOST 1048576: true; the input reads as it did. -/
def crcSumsUptoRow : OpenClaim := { program := "ytilmjclfgjigeaa", sum := "da5d1cd8cc30b64e36f29ff5c661ada58eef2d43925e0ce3ef569b8d94a2aad9", func := "cistern/cisternlaw02.CrcSums", spec := "crcSums", unfollowed := true, recurses := true, apart := false, narrowed := true }
def CrcSumsUptoSaid : Prop := crcSumsUptoRow.holds Try.pinned (OpenSpec.upto crcSumsSpec)

/-- 'cisternlaw02.CrcJoins', WHERE WHAT IT READS IS OF BULK AT MOST 1048576: true; the input reads as it did. -/
def crcJoinsUptoRow : OpenClaim := { program := "ytilmjclfgjigeaa", sum := "da5d1cd8cc30b64e36f29ff5c661ada58eef2d43925e0ce3ef569b8d94a2aad9", func := "cistern/cisternlaw02.CrcJoins", spec := "crcJoins", unfollowed := true, recurses := true, apart := false, narrowed := true }
def CrcJoinsUptoSaid : Prop := crcJoinsUptoRow.holds Try.pinned (OpenSpec.upto crcJoinsSpec)

/-- 'cisternlaw02.CrcTells', WHERE WHAT IT READS IS OF BULK AT MOST 1048576: true; the input reads as it did. -/
def crcTellsUptoRow : OpenClaim := { program := "ytilmjclfgjigeaa", sum := "da5d1cd8cc30b64e36f29ff5c661ada58eef2d43925e0ce3ef569b8d94a2aad9", func := "cistern/cisternlaw02.CrcTells", spec := "crcTells", unfollowed := true, recurses := true, apart := false, narrowed := true }
def CrcTellsUptoSaid : Prop := crcTellsUptoRow.holds Try.pinned (OpenSpec.upto crcTellsSpec)

/-- 'cisternlaw02.CrcParts', WHERE WHAT IT READS IS OF BULK AT MOST 1048576: true; the input reads as it did. -/
def crcPartsUptoRow : OpenClaim := { program := "ytilmjclfgjigeaa", sum := "da5d1cd8cc30b64e36f29ff5c661ada58eef2d43925e0ce3ef569b8d94a2aad9", func := "cistern/cisternlaw02.CrcParts", spec := "crcParts", unfollowed := true, recurses := true, apart := false, narrowed := true }
def CrcPartsUptoSaid : Prop := crcPartsUptoRow.holds Try.pinned (OpenSpec.upto crcPartsSpec)

/-- 'cisternlaw02.CrcBinds', WHERE WHAT IT READS IS OF BULK AT MOST 1048576: true; the input reads as it did. -/
def crcBindsUptoRow : OpenClaim := { program := "ytilmjclfgjigeaa", sum := "da5d1cd8cc30b64e36f29ff5c661ada58eef2d43925e0ce3ef569b8d94a2aad9", func := "cistern/cisternlaw02.CrcBinds", spec := "crcBinds", unfollowed := true, recurses := true, apart := false, narrowed := true }
def CrcBindsUptoSaid : Prop := crcBindsUptoRow.holds Try.pinned (OpenSpec.upto crcBindsSpec)

/-- 'cisternlaw02.CrcCombines', WHERE WHAT IT READS IS OF BULK AT MOST 1048576: true; the input reads as it did. -/
def crcCombinesUptoRow : OpenClaim := { program := "ytilmjclfgjigeaa", sum := "da5d1cd8cc30b64e36f29ff5c661ada58eef2d43925e0ce3ef569b8d94a2aad9", func := "cistern/cisternlaw02.CrcCombines", spec := "crcCombines", unfollowed := true, recurses := true, apart := false, narrowed := true }
def CrcCombinesUptoSaid : Prop := crcCombinesUptoRow.holds Try.pinned (OpenSpec.upto crcCombinesSpec)

/-- 'cisternlaw02.CrcKnown', WHERE WHAT IT READS IS OF BULK AT MOST 1048576: true; the input reads as it did. -/
def crcKnownUptoRow : OpenClaim := { program := "ytilmjclfgjigeaa", sum := "da5d1cd8cc30b64e36f29ff5c661ada58eef2d43925e0ce3ef569b8d94a2aad9", func := "cistern/cisternlaw02.CrcKnown", spec := "crcKnown", unfollowed := true, recurses := true, apart := false, narrowed := true }
def CrcKnownUptoSaid : Prop := crcKnownUptoRow.holds Try.pinned (OpenSpec.upto crcKnownSpec)

/-- 'cisternlaw04.StampSeals', WHERE WHAT IT READS IS OF BULK AT MOST 1048576: true; the input reads as it did. -/
def stampSealsUptoRow : OpenClaim := { program := "ytilmjclfgjigeaa", sum := "da5d1cd8cc30b64e36f29ff5c661ada58eef2d43925e0ce3ef569b8d94a2aad9", func := "cistern/cisternlaw04.StampSeals", spec := "stampSeals", apart := false, narrowed := true }
def StampSealsUptoSaid : Prop := stampSealsUptoRow.holds Try.pinned (OpenSpec.upto stampSealsSpec)

/-- 'cisternlaw04.StampOpens', WHERE WHAT IT READS IS OF BULK AT MOST 1048576: true; the input reads as it did. -/
def stampOpensUptoRow : OpenClaim := { program := "ytilmjclfgjigeaa", sum := "da5d1cd8cc30b64e36f29ff5c661ada58eef2d43925e0ce3ef569b8d94a2aad9", func := "cistern/cisternlaw04.StampOpens", spec := "stampOpens", apart := false, narrowed := true }
def StampOpensUptoSaid : Prop := stampOpensUptoRow.holds Try.pinned (OpenSpec.upto stampOpensSpec)

/-- 'cisternlaw04.StampOwn', WHERE WHAT IT READS IS OF BULK AT MOST 1048576: true; the input reads as it did. -/
def stampOwnUptoRow : OpenClaim := { program := "ytilmjclfgjigeaa", sum := "da5d1cd8cc30b64e36f29ff5c661ada58eef2d43925e0ce3ef569b8d94a2aad9", func := "cistern/cisternlaw04.StampOwn", spec := "stampOwn", apart := false, narrowed := true }
def StampOwnUptoSaid : Prop := stampOwnUptoRow.holds Try.pinned (OpenSpec.upto stampOwnSpec)

/-- 'cisternlaw04.StampBack', WHERE WHAT IT READS IS OF BULK AT MOST 1048576: true; the input reads as it did. -/
def stampBackUptoRow : OpenClaim := { program := "ytilmjclfgjigeaa", sum := "da5d1cd8cc30b64e36f29ff5c661ada58eef2d43925e0ce3ef569b8d94a2aad9", func := "cistern/cisternlaw04.StampBack", spec := "stampBack", apart := false, narrowed := true }
def StampBackUptoSaid : Prop := stampBackUptoRow.holds Try.pinned (OpenSpec.upto stampBackSpec)

/-- 'cisternlaw04.StampKnown', WHERE WHAT IT READS IS OF BULK AT MOST 1048576: true; the input reads as it did. -/
def stampKnownUptoRow : OpenClaim := { program := "ytilmjclfgjigeaa", sum := "da5d1cd8cc30b64e36f29ff5c661ada58eef2d43925e0ce3ef569b8d94a2aad9", func := "cistern/cisternlaw04.StampKnown", spec := "stampKnown", apart := false, narrowed := true }
def StampKnownUptoSaid : Prop := stampKnownUptoRow.holds Try.pinned (OpenSpec.upto stampKnownSpec)

end Rows
end Go.Proofs.Ytilmjclfgjigeaa
