/-
  DERIVED. GIVEN WITH THE SEED: THE CARDS: each row of YtjimjolfnimimaaDoorRows.lean that lists a variable, with what it lists TIED to the program's text (the seventh form; the later family's looks); each row that meets fmt, with fmt's text TOLD by the authors' own Lean function (tested against real Go, not proved from fmt's source: count such statements apart). THE CARD IS WHAT COUNTS. Prove the row's statement (the work); the ties are given (YtjimjolfnimimaaDoorTie.lean); close each card by the builder's one call (the guide's Derived/Test/ToyasCard.lean, 'card_holds'). Laid BY PROGRAM, IN A SANDBOX (cutbox-door.mjs). By AI agents, Wed Nov 11 2026. No macro, syntax, notation, axiom, sorry.
-/
import Derived.Test.YtjimjolfnimimaaDoorRows
import GoSem.ClaimSeven
namespace Go.Proofs.YtjimjolfnimimaaDoor
namespace Rows

/-- THE TIED CARD OF 'basculelaw09.MessageBytes'. -/
def messageBytesCard : Claim7 := { stood := { row := messageBytesRow, standIns := [], harness := (true, "bdf93d382adb93ab913e418a0e0f9cb9bcdfe8364f4a4f1432748e356cb3ffb2"), looks := false }, kinds := [], alts := [], laidByText := true, laidKinds := [.data, .data], laidTests := true, laidLooks := .later }
def MessageBytesCardSaid : Prop := Claim7.holds Tryd.pinned (.plain (OpenSpec.ofChange messageBytesSpec)) messageBytesCard

/-- THE TIED CARD OF 'basculelaw06.ProofBytes'. -/
def proofBytesCard : Claim7 := { stood := { row := proofBytesRow, standIns := [], harness := (true, "bdf93d382adb93ab913e418a0e0f9cb9bcdfe8364f4a4f1432748e356cb3ffb2"), looks := false }, kinds := [], alts := [], laidByText := true, laidKinds := [.data, .data], laidTests := true, laidLooks := .later }
def ProofBytesCardSaid : Prop := Claim7.holds Tryd.pinned (.plain (OpenSpec.ofChange proofBytesSpec)) proofBytesCard

/-- THE TIED CARD OF 'basculelaw06.ProofBack'. -/
def proofBackCard : Claim7 := { stood := { row := proofBackRow, standIns := [], harness := (true, "bdf93d382adb93ab913e418a0e0f9cb9bcdfe8364f4a4f1432748e356cb3ffb2"), looks := false }, kinds := [], alts := [], laidByText := true, laidKinds := [.data, .data], laidTests := true, laidLooks := .later }
def ProofBackCardSaid : Prop := Claim7.holds Tryd.pinned (.plain (OpenSpec.ofChange proofBackSpec)) proofBackCard

/-- THE TIED CARD OF 'basculelaw09.MessageBatches'. -/
def messageBatchesCard : Claim7 := { stood := { row := messageBatchesRow, standIns := [], harness := (true, "bdf93d382adb93ab913e418a0e0f9cb9bcdfe8364f4a4f1432748e356cb3ffb2"), looks := false }, kinds := [], alts := [], laidByText := true, laidKinds := [.data, .data], laidTests := true, laidLooks := .later }
def MessageBatchesCardSaid : Prop := Claim7.holds Tryd.pinned (.plain (OpenSpec.ofChange messageBatchesSpec)) messageBatchesCard

/-- THE TIED CARD OF 'basculelaw09.MessageCut'. -/
def messageCutCard : Claim7 := { stood := { row := messageCutRow, standIns := [], harness := (true, "bdf93d382adb93ab913e418a0e0f9cb9bcdfe8364f4a4f1432748e356cb3ffb2"), looks := false }, kinds := [], alts := [], laidByText := true, laidKinds := [.data, .data], laidTests := true, laidLooks := .later }
def MessageCutCardSaid : Prop := Claim7.holds Tryd.pinned (.plain (OpenSpec.ofChange messageCutSpec)) messageCutCard

/-- THE TIED CARD OF 'basculelaw09.MessageBack'. -/
def messageBackCard : Claim7 := { stood := { row := messageBackRow, standIns := [], harness := (true, "bdf93d382adb93ab913e418a0e0f9cb9bcdfe8364f4a4f1432748e356cb3ffb2"), looks := false }, kinds := [], alts := [], laidByText := true, laidKinds := [.data, .data], laidTests := true, laidLooks := .later }
def MessageBackCardSaid : Prop := Claim7.holds Tryd.pinned (.plain (OpenSpec.ofChange messageBackSpec)) messageBackCard

/-- THE SECOND FORM's CARD OF 'basculelaw09.MessageBytes'. -/
def messageBytesUptoCard : Claim7 := { stood := { row := messageBytesUptoRow, standIns := [], harness := (true, "bdf93d382adb93ab913e418a0e0f9cb9bcdfe8364f4a4f1432748e356cb3ffb2"), looks := false }, kinds := [], alts := [], laidByText := true, laidKinds := [.data, .data], laidTests := true, laidLooks := .later }
def MessageBytesUptoCardSaid : Prop := Claim7.holds Tryd.pinned (.plain (OpenSpec.upto messageBytesSpec)) messageBytesUptoCard

/-- THE SECOND FORM's CARD OF 'basculelaw06.ProofBytes'. -/
def proofBytesUptoCard : Claim7 := { stood := { row := proofBytesUptoRow, standIns := [], harness := (true, "bdf93d382adb93ab913e418a0e0f9cb9bcdfe8364f4a4f1432748e356cb3ffb2"), looks := false }, kinds := [], alts := [], laidByText := true, laidKinds := [.data, .data], laidTests := true, laidLooks := .later }
def ProofBytesUptoCardSaid : Prop := Claim7.holds Tryd.pinned (.plain (OpenSpec.upto proofBytesSpec)) proofBytesUptoCard

/-- THE SECOND FORM's CARD OF 'basculelaw06.ProofBack'. -/
def proofBackUptoCard : Claim7 := { stood := { row := proofBackUptoRow, standIns := [], harness := (true, "bdf93d382adb93ab913e418a0e0f9cb9bcdfe8364f4a4f1432748e356cb3ffb2"), looks := false }, kinds := [], alts := [], laidByText := true, laidKinds := [.data, .data], laidTests := true, laidLooks := .later }
def ProofBackUptoCardSaid : Prop := Claim7.holds Tryd.pinned (.plain (OpenSpec.upto proofBackSpec)) proofBackUptoCard

/-- THE SECOND FORM's CARD OF 'basculelaw09.MessageBatches'. -/
def messageBatchesUptoCard : Claim7 := { stood := { row := messageBatchesUptoRow, standIns := [], harness := (true, "bdf93d382adb93ab913e418a0e0f9cb9bcdfe8364f4a4f1432748e356cb3ffb2"), looks := false }, kinds := [], alts := [], laidByText := true, laidKinds := [.data, .data], laidTests := true, laidLooks := .later }
def MessageBatchesUptoCardSaid : Prop := Claim7.holds Tryd.pinned (.plain (OpenSpec.upto messageBatchesSpec)) messageBatchesUptoCard

/-- THE SECOND FORM's CARD OF 'basculelaw09.MessageCut'. -/
def messageCutUptoCard : Claim7 := { stood := { row := messageCutUptoRow, standIns := [], harness := (true, "bdf93d382adb93ab913e418a0e0f9cb9bcdfe8364f4a4f1432748e356cb3ffb2"), looks := false }, kinds := [], alts := [], laidByText := true, laidKinds := [.data, .data], laidTests := true, laidLooks := .later }
def MessageCutUptoCardSaid : Prop := Claim7.holds Tryd.pinned (.plain (OpenSpec.upto messageCutSpec)) messageCutUptoCard

/-- THE SECOND FORM's CARD OF 'basculelaw09.MessageBack'. -/
def messageBackUptoCard : Claim7 := { stood := { row := messageBackUptoRow, standIns := [], harness := (true, "bdf93d382adb93ab913e418a0e0f9cb9bcdfe8364f4a4f1432748e356cb3ffb2"), looks := false }, kinds := [], alts := [], laidByText := true, laidKinds := [.data, .data], laidTests := true, laidLooks := .later }
def MessageBackUptoCardSaid : Prop := Claim7.holds Tryd.pinned (.plain (OpenSpec.upto messageBackSpec)) messageBackUptoCard
end Rows
end Go.Proofs.YtjimjolfnimimaaDoor
