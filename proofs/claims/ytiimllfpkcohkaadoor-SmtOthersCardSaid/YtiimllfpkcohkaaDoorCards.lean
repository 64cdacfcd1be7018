/-
  DERIVED. GIVEN WITH THE SEED: THE CARDS: each row of YtiimllfpkcohkaaDoorRows.lean that lists a variable, with what it lists TIED to the program's text (the seventh form; the later family's looks); each row that meets fmt, with fmt's text TOLD by the authors' own Lean function (tested against real Go, not proved from fmt's source: count such statements apart). THE CARD IS WHAT COUNTS. Prove the row's statement (the work); the ties are given (YtiimllfpkcohkaaDoorTie.lean); close each card by the builder's one call (the guide's Derived/Test/ToyasCard.lean, 'card_holds'). Laid BY PROGRAM, IN A SANDBOX (cutbox-door.mjs). By AI agents, Wed Nov 11 2026. No macro, syntax, notation, axiom, sorry.
-/
import Derived.Test.YtiimllfpkcohkaaDoorRows
import GoSem.ClaimSeven
namespace Go.Proofs.YtiimllfpkcohkaaDoor
namespace Rows

/-- THE TIED CARD OF 'basculelaw05.SmtNodes'. -/
def smtNodesCard : Claim7 := { stood := { row := smtNodesRow, standIns := [], harness := (true, "ac47a654e2f1c320af79ed81a84a162073c8af513ae0c75ff4a5ef174bfc12e1"), looks := false }, kinds := [], alts := [], laidByText := true, laidKinds := [.data, .data], laidTests := true, laidLooks := .later }
def SmtNodesCardSaid : Prop := Claim7.holds Tryd.pinned (.plain (OpenSpec.ofChange smtNodesSpec)) smtNodesCard

/-- THE TIED CARD OF 'basculelaw05.SmtSame'. -/
def smtSameCard : Claim7 := { stood := { row := smtSameRow, standIns := [], harness := (true, "ac47a654e2f1c320af79ed81a84a162073c8af513ae0c75ff4a5ef174bfc12e1"), looks := false }, kinds := [], alts := [], laidByText := true, laidKinds := [.data, .data], laidTests := true, laidLooks := .later }
def SmtSameCardSaid : Prop := Claim7.holds Tryd.pinned (.plain (OpenSpec.ofChange smtSameSpec)) smtSameCard

/-- THE TIED CARD OF 'basculelaw05.SmtOthers'. -/
def smtOthersCard : Claim7 := { stood := { row := smtOthersRow, standIns := [], harness := (true, "ac47a654e2f1c320af79ed81a84a162073c8af513ae0c75ff4a5ef174bfc12e1"), looks := false }, kinds := [], alts := [], laidByText := true, laidKinds := [.data, .data], laidTests := true, laidLooks := .later }
def SmtOthersCardSaid : Prop := Claim7.holds Tryd.pinned (.plain (OpenSpec.ofChange smtOthersSpec)) smtOthersCard

/-- THE TIED CARD OF 'basculelaw05.SmtNil'. -/
def smtNilCard : Claim7 := { stood := { row := smtNilRow, standIns := [], harness := (true, "ac47a654e2f1c320af79ed81a84a162073c8af513ae0c75ff4a5ef174bfc12e1"), looks := false }, kinds := [], alts := [], laidByText := true, laidKinds := [.data, .data], laidTests := true, laidLooks := .later }
def SmtNilCardSaid : Prop := Claim7.holds Tryd.pinned (.plain (OpenSpec.ofChange smtNilSpec)) smtNilCard

/-- THE SECOND FORM's CARD OF 'basculelaw05.SmtNodes'. -/
def smtNodesUptoCard : Claim7 := { stood := { row := smtNodesUptoRow, standIns := [], harness := (true, "ac47a654e2f1c320af79ed81a84a162073c8af513ae0c75ff4a5ef174bfc12e1"), looks := false }, kinds := [], alts := [], laidByText := true, laidKinds := [.data, .data], laidTests := true, laidLooks := .later }
def SmtNodesUptoCardSaid : Prop := Claim7.holds Tryd.pinned (.plain (OpenSpec.upto smtNodesSpec)) smtNodesUptoCard

/-- THE SECOND FORM's CARD OF 'basculelaw05.SmtSame'. -/
def smtSameUptoCard : Claim7 := { stood := { row := smtSameUptoRow, standIns := [], harness := (true, "ac47a654e2f1c320af79ed81a84a162073c8af513ae0c75ff4a5ef174bfc12e1"), looks := false }, kinds := [], alts := [], laidByText := true, laidKinds := [.data, .data], laidTests := true, laidLooks := .later }
def SmtSameUptoCardSaid : Prop := Claim7.holds Tryd.pinned (.plain (OpenSpec.upto smtSameSpec)) smtSameUptoCard

/-- THE SECOND FORM's CARD OF 'basculelaw05.SmtOthers'. -/
def smtOthersUptoCard : Claim7 := { stood := { row := smtOthersUptoRow, standIns := [], harness := (true, "ac47a654e2f1c320af79ed81a84a162073c8af513ae0c75ff4a5ef174bfc12e1"), looks := false }, kinds := [], alts := [], laidByText := true, laidKinds := [.data, .data], laidTests := true, laidLooks := .later }
def SmtOthersUptoCardSaid : Prop := Claim7.holds Tryd.pinned (.plain (OpenSpec.upto smtOthersSpec)) smtOthersUptoCard

/-- THE SECOND FORM's CARD OF 'basculelaw05.SmtNil'. -/
def smtNilUptoCard : Claim7 := { stood := { row := smtNilUptoRow, standIns := [], harness := (true, "ac47a654e2f1c320af79ed81a84a162073c8af513ae0c75ff4a5ef174bfc12e1"), looks := false }, kinds := [], alts := [], laidByText := true, laidKinds := [.data, .data], laidTests := true, laidLooks := .later }
def SmtNilUptoCardSaid : Prop := Claim7.holds Tryd.pinned (.plain (OpenSpec.upto smtNilSpec)) smtNilUptoCard
end Rows
end Go.Proofs.YtiimllfpkcohkaaDoor
