/-
  DERIVED. GIVEN WITH THE SEED: THE CARDS: each row of YtmlofdgamdlcgaaDoorRows.lean that lists a variable, with what it lists TIED to the program's text (the seventh form; the later family's looks); each row that meets fmt, with fmt's text TOLD by the authors' own Lean function (tested against real Go, not proved from fmt's source: count such statements apart). THE CARD IS WHAT COUNTS. Prove the row's statement (the work); the ties are given (YtmlofdgamdlcgaaDoorTie.lean); close each card by the builder's one call (the guide's Derived/Test/ToyasCard.lean, 'card_holds'). Laid BY PROGRAM, IN A SANDBOX (cutbox-door.mjs). By AI agents, Wed Nov 11 2026. No macro, syntax, notation, axiom, sorry.
-/
import Derived.Test.YtmlofdgamdlcgaaDoorRows
import GoSem.ClaimSeven
namespace Go.Proofs.YtmlofdgamdlcgaaDoor
namespace Rows

/-- THE TIED CARD OF 'basculelaw06.ProofRoots'. -/
def proofRootsCard : Claim7 := { stood := { row := proofRootsRow, standIns := [], harness := (true, "d2fec8ed6b7989ac45653ed74a480be8a1c2e8eaa01aa4cb47a44be19ae35c58"), looks := false }, kinds := [], alts := [], laidByText := true, laidKinds := [.data, .data], laidTests := true, laidLooks := .later }
def ProofRootsCardSaid : Prop := Claim7.holds Tryd.pinned (.plain (OpenSpec.ofChange proofRootsSpec)) proofRootsCard

/-- THE TIED CARD OF 'basculelaw06.ProofOthers'. -/
def proofOthersCard : Claim7 := { stood := { row := proofOthersRow, standIns := [], harness := (true, "d2fec8ed6b7989ac45653ed74a480be8a1c2e8eaa01aa4cb47a44be19ae35c58"), looks := false }, kinds := [], alts := [], laidByText := true, laidKinds := [.data, .data], laidTests := true, laidLooks := .later }
def ProofOthersCardSaid : Prop := Claim7.holds Tryd.pinned (.plain (OpenSpec.ofChange proofOthersSpec)) proofOthersCard

/-- THE TIED CARD OF 'basculelaw06.ProofWalks'. -/
def proofWalksCard : Claim7 := { stood := { row := proofWalksRow, standIns := [], harness := (true, "d2fec8ed6b7989ac45653ed74a480be8a1c2e8eaa01aa4cb47a44be19ae35c58"), looks := false }, kinds := [], alts := [], laidByText := true, laidKinds := [.data, .data], laidTests := true, laidLooks := .later }
def ProofWalksCardSaid : Prop := Claim7.holds Tryd.pinned (.plain (OpenSpec.ofChange proofWalksSpec)) proofWalksCard

/-- THE TIED CARD OF 'basculelaw06.ProofTrail'. -/
def proofTrailCard : Claim7 := { stood := { row := proofTrailRow, standIns := [], harness := (true, "d2fec8ed6b7989ac45653ed74a480be8a1c2e8eaa01aa4cb47a44be19ae35c58"), looks := false }, kinds := [], alts := [], laidByText := true, laidKinds := [.data, .data], laidTests := true, laidLooks := .later }
def ProofTrailCardSaid : Prop := Claim7.holds Tryd.pinned (.plain (OpenSpec.ofChange proofTrailSpec)) proofTrailCard

/-- THE SECOND FORM's CARD OF 'basculelaw06.ProofRoots'. -/
def proofRootsUptoCard : Claim7 := { stood := { row := proofRootsUptoRow, standIns := [], harness := (true, "d2fec8ed6b7989ac45653ed74a480be8a1c2e8eaa01aa4cb47a44be19ae35c58"), looks := false }, kinds := [], alts := [], laidByText := true, laidKinds := [.data, .data], laidTests := true, laidLooks := .later }
def ProofRootsUptoCardSaid : Prop := Claim7.holds Tryd.pinned (.plain (OpenSpec.upto proofRootsSpec)) proofRootsUptoCard

/-- THE SECOND FORM's CARD OF 'basculelaw06.ProofOthers'. -/
def proofOthersUptoCard : Claim7 := { stood := { row := proofOthersUptoRow, standIns := [], harness := (true, "d2fec8ed6b7989ac45653ed74a480be8a1c2e8eaa01aa4cb47a44be19ae35c58"), looks := false }, kinds := [], alts := [], laidByText := true, laidKinds := [.data, .data], laidTests := true, laidLooks := .later }
def ProofOthersUptoCardSaid : Prop := Claim7.holds Tryd.pinned (.plain (OpenSpec.upto proofOthersSpec)) proofOthersUptoCard

/-- THE SECOND FORM's CARD OF 'basculelaw06.ProofWalks'. -/
def proofWalksUptoCard : Claim7 := { stood := { row := proofWalksUptoRow, standIns := [], harness := (true, "d2fec8ed6b7989ac45653ed74a480be8a1c2e8eaa01aa4cb47a44be19ae35c58"), looks := false }, kinds := [], alts := [], laidByText := true, laidKinds := [.data, .data], laidTests := true, laidLooks := .later }
def ProofWalksUptoCardSaid : Prop := Claim7.holds Tryd.pinned (.plain (OpenSpec.upto proofWalksSpec)) proofWalksUptoCard

/-- THE SECOND FORM's CARD OF 'basculelaw06.ProofTrail'. -/
def proofTrailUptoCard : Claim7 := { stood := { row := proofTrailUptoRow, standIns := [], harness := (true, "d2fec8ed6b7989ac45653ed74a480be8a1c2e8eaa01aa4cb47a44be19ae35c58"), looks := false }, kinds := [], alts := [], laidByText := true, laidKinds := [.data, .data], laidTests := true, laidLooks := .later }
def ProofTrailUptoCardSaid : Prop := Claim7.holds Tryd.pinned (.plain (OpenSpec.upto proofTrailSpec)) proofTrailUptoCard
end Rows
end Go.Proofs.YtmlofdgamdlcgaaDoor
