/-
  DERIVED. GIVEN WITH THE SEED: THE CARDS: each row of YtnnclfaibcedoaaDoorRows.lean that lists a variable, with what it lists TIED to the program's text (the seventh form; the later family's looks); each row that meets fmt, with fmt's text TOLD by the authors' own Lean function (tested against real Go, not proved from fmt's source: count such statements apart). THE CARD IS WHAT COUNTS. Prove the row's statement (the work); the ties are given (YtnnclfaibcedoaaDoorTie.lean); close each card by the builder's one call (the guide's Derived/Test/ToyasCard.lean, 'card_holds'). Laid BY PROGRAM, IN A SANDBOX (cutbox-door.mjs). By AI agents, Wed Nov 11 2026. No macro, syntax, notation, axiom, sorry.
-/
import Derived.Test.YtnnclfaibcedoaaDoorRows
import GoSem.ClaimSeven
namespace Go.Proofs.YtnnclfaibcedoaaDoor
namespace Rows

/-- THE TIED CARD OF 'cisternlaw08.CountsTakes'. -/
def countsTakesCard : Claim7 := { stood := { row := countsTakesRow, standIns := [], harness := (true, "b9a28b990a91b6a28fcb399bde4f44e11f7aa0f73ba667c57cad5a673476ddac"), looks := false }, kinds := [], alts := [], laidByText := true, laidKinds := [.data, .pinned], laidTests := true, laidLooks := .later }
def CountsTakesCardSaid : Prop := Claim7.holds Tryd.pinned (.plain (OpenSpec.ofChange countsTakesSpec)) countsTakesCard

/-- THE TIED CARD OF 'cisternlaw08.CountsBack'. -/
def countsBackCard : Claim7 := { stood := { row := countsBackRow, standIns := [], harness := (true, "b9a28b990a91b6a28fcb399bde4f44e11f7aa0f73ba667c57cad5a673476ddac"), looks := false }, kinds := [], alts := [], laidByText := true, laidKinds := [.data, .pinned], laidTests := true, laidLooks := .later }
def CountsBackCardSaid : Prop := Claim7.holds Tryd.pinned (.plain (OpenSpec.ofChange countsBackSpec)) countsBackCard

/-- THE TIED CARD OF 'cisternlaw08.CountsPuts'. -/
def countsPutsCard : Claim7 := { stood := { row := countsPutsRow, standIns := [], harness := (true, "b9a28b990a91b6a28fcb399bde4f44e11f7aa0f73ba667c57cad5a673476ddac"), looks := false }, kinds := [], alts := [], laidByText := true, laidKinds := [.data, .pinned], laidTests := true, laidLooks := .later }
def CountsPutsCardSaid : Prop := Claim7.holds Tryd.pinned (.plain (OpenSpec.ofChange countsPutsSpec)) countsPutsCard

/-- THE TIED CARD OF 'cisternlaw08.CountsKnown'. -/
def countsKnownCard : Claim7 := { stood := { row := countsKnownRow, standIns := [], harness := (true, "b9a28b990a91b6a28fcb399bde4f44e11f7aa0f73ba667c57cad5a673476ddac"), looks := false }, kinds := [], alts := [], laidByText := true, laidKinds := [.data, .pinned], laidTests := true, laidLooks := .later }
def CountsKnownCardSaid : Prop := Claim7.holds Tryd.pinned (.plain (OpenSpec.ofChange countsKnownSpec)) countsKnownCard

/-- THE SECOND FORM's CARD OF 'cisternlaw08.CountsTakes'. -/
def countsTakesUptoCard : Claim7 := { stood := { row := countsTakesUptoRow, standIns := [], harness := (true, "b9a28b990a91b6a28fcb399bde4f44e11f7aa0f73ba667c57cad5a673476ddac"), looks := false }, kinds := [], alts := [], laidByText := true, laidKinds := [.data, .pinned], laidTests := true, laidLooks := .later }
def CountsTakesUptoCardSaid : Prop := Claim7.holds Tryd.pinned (.plain (OpenSpec.upto countsTakesSpec)) countsTakesUptoCard

/-- THE SECOND FORM's CARD OF 'cisternlaw08.CountsBack'. -/
def countsBackUptoCard : Claim7 := { stood := { row := countsBackUptoRow, standIns := [], harness := (true, "b9a28b990a91b6a28fcb399bde4f44e11f7aa0f73ba667c57cad5a673476ddac"), looks := false }, kinds := [], alts := [], laidByText := true, laidKinds := [.data, .pinned], laidTests := true, laidLooks := .later }
def CountsBackUptoCardSaid : Prop := Claim7.holds Tryd.pinned (.plain (OpenSpec.upto countsBackSpec)) countsBackUptoCard

/-- THE SECOND FORM's CARD OF 'cisternlaw08.CountsPuts'. -/
def countsPutsUptoCard : Claim7 := { stood := { row := countsPutsUptoRow, standIns := [], harness := (true, "b9a28b990a91b6a28fcb399bde4f44e11f7aa0f73ba667c57cad5a673476ddac"), looks := false }, kinds := [], alts := [], laidByText := true, laidKinds := [.data, .pinned], laidTests := true, laidLooks := .later }
def CountsPutsUptoCardSaid : Prop := Claim7.holds Tryd.pinned (.plain (OpenSpec.upto countsPutsSpec)) countsPutsUptoCard

/-- THE SECOND FORM's CARD OF 'cisternlaw08.CountsKnown'. -/
def countsKnownUptoCard : Claim7 := { stood := { row := countsKnownUptoRow, standIns := [], harness := (true, "b9a28b990a91b6a28fcb399bde4f44e11f7aa0f73ba667c57cad5a673476ddac"), looks := false }, kinds := [], alts := [], laidByText := true, laidKinds := [.data, .pinned], laidTests := true, laidLooks := .later }
def CountsKnownUptoCardSaid : Prop := Claim7.holds Tryd.pinned (.plain (OpenSpec.upto countsKnownSpec)) countsKnownUptoCard
end Rows
end Go.Proofs.YtnnclfaibcedoaaDoor
