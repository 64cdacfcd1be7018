/-
  No cell of these rows narrows 'for every input' (looked for: loops, veiled, ifaces, maps, wideKeys, modest, calm, conditions, laid).
  DERIVED. THE GIVEN ROWS OF THIS SEAT. 5 by the template 'for every input the law returns true; each argument reads behind the call as it read before'; 0 by the template 'total and deterministic' (their statements: YtcaafoibabijgaaTotals.lean).
  GIVEN WITH THE SEED: the statements are not yours to turn. If you find one false, say at which input.
  Laid BY PROGRAM, IN A SANDBOX (cutbox-rows.mjs): the forced cells as the released guide's own fill.sh prints them over the translation d32abd05110bdb33… (all of the seat's roots in one cut). By AI agents, Wed Nov 11 2026. No macro, syntax, notation, axiom, sorry.
-/
import Derived.Test.YtcaafoibabijgaaChecked
import GoSem.Claim
import GoSem.ClaimJoined
import GoSem.ClaimMapViews
import Derived.JoinedTies
import Derived.KernelRfl
namespace Go.Proofs.Ytcaafoibabijgaa
/- THE CELL 'sum', in the pinned program and in every row, IS THE sha256 OF THE DUMP (.gsa) THAT YtcaafoibabijgaaProg.lean LOADS. Nothing in Lean hashes anything: it is a label: what it is worth is what the hold of that sum in a sandbox is worth. -/
noncomputable def Try.pinned : Pinned := { name := "ytcaafoibabijgaa", sum := "d32abd05110bdb33a79a5a136926a016feb8f8422298b7c9c21ac8d279ad7093", checked := Try.checked }
namespace Rows
def none {H : Type} : Left H := { results := [], args := [] }

/-- 'basculelaw14.DeriveFirst': WHATEVER THE INPUT: true; the input reads as it did. -/
def deriveFirstSpec : ChangeSpec := { name := "deriveFirst", fn := fun _ => fun
  | [d1, d2, d3, d4] => { results := [.lit (.bool true)], args := [d1, d2, d3, d4] }
  | _ => none }
def deriveFirstRow : OpenClaim := { program := "ytcaafoibabijgaa", sum := "d32abd05110bdb33a79a5a136926a016feb8f8422298b7c9c21ac8d279ad7093", func := "bascule/basculelaw14.DeriveFirst", spec := "deriveFirst", unfollowed := true, recurses := true, apart := false }
def DeriveFirstSaid : Prop := deriveFirstRow.holds Try.pinned (OpenSpec.ofChange deriveFirstSpec)

/-- ITS FALSE NEIGHBOUR: 'it returns false'. Refute it at one input. -/
def deriveFirstWrong : ChangeSpec := { name := "deriveFirst", fn := fun _ => fun
  | [d1, d2, d3, d4] => { results := [.lit (.bool false)], args := [d1, d2, d3, d4] }
  | _ => none }
def DeriveFirstWrongFalsely : Prop := deriveFirstRow.holds Try.pinned (OpenSpec.ofChange deriveFirstWrong)

/-- 'basculelaw14.DerivePlays': WHATEVER THE INPUT: true; the input reads as it did. -/
def derivePlaysSpec : ChangeSpec := { name := "derivePlays", fn := fun _ => fun
  | [d1, d2, d3, d4] => { results := [.lit (.bool true)], args := [d1, d2, d3, d4] }
  | _ => none }
def derivePlaysRow : OpenClaim := { program := "ytcaafoibabijgaa", sum := "d32abd05110bdb33a79a5a136926a016feb8f8422298b7c9c21ac8d279ad7093", func := "bascule/basculelaw14.DerivePlays", spec := "derivePlays", unfollowed := true, recurses := true, apart := false }
def DerivePlaysSaid : Prop := derivePlaysRow.holds Try.pinned (OpenSpec.ofChange derivePlaysSpec)

/-- ITS FALSE NEIGHBOUR: 'it returns false'. Refute it at one input. -/
def derivePlaysWrong : ChangeSpec := { name := "derivePlays", fn := fun _ => fun
  | [d1, d2, d3, d4] => { results := [.lit (.bool false)], args := [d1, d2, d3, d4] }
  | _ => none }
def DerivePlaysWrongFalsely : Prop := derivePlaysRow.holds Try.pinned (OpenSpec.ofChange derivePlaysWrong)

/-- 'basculelaw14.DerivePrefix': WHATEVER THE INPUT: true; the input reads as it did. -/
def derivePrefixSpec : ChangeSpec := { name := "derivePrefix", fn := fun _ => fun
  | [d1, d2, d3] => { results := [.lit (.bool true)], args := [d1, d2, d3] }
  | _ => none }
def derivePrefixRow : OpenClaim := { program := "ytcaafoibabijgaa", sum := "d32abd05110bdb33a79a5a136926a016feb8f8422298b7c9c21ac8d279ad7093", func := "bascule/basculelaw14.DerivePrefix", spec := "derivePrefix", unfollowed := true, recurses := true, apart := false }
def DerivePrefixSaid : Prop := derivePrefixRow.holds Try.pinned (OpenSpec.ofChange derivePrefixSpec)

/-- ITS FALSE NEIGHBOUR: 'it returns false'. Refute it at one input. -/
def derivePrefixWrong : ChangeSpec := { name := "derivePrefix", fn := fun _ => fun
  | [d1, d2, d3] => { results := [.lit (.bool false)], args := [d1, d2, d3] }
  | _ => none }
def DerivePrefixWrongFalsely : Prop := derivePrefixRow.holds Try.pinned (OpenSpec.ofChange derivePrefixWrong)

/-- 'basculelaw14.DeriveDeposits': WHATEVER THE INPUT: true; the input reads as it did. -/
def deriveDepositsSpec : ChangeSpec := { name := "deriveDeposits", fn := fun _ => fun
  | [d1, d2] => { results := [.lit (.bool true)], args := [d1, d2] }
  | _ => none }
def deriveDepositsRow : OpenClaim := { program := "ytcaafoibabijgaa", sum := "d32abd05110bdb33a79a5a136926a016feb8f8422298b7c9c21ac8d279ad7093", func := "bascule/basculelaw14.DeriveDeposits", spec := "deriveDeposits", unfollowed := true, recurses := true, apart := false }
def DeriveDepositsSaid : Prop := deriveDepositsRow.holds Try.pinned (OpenSpec.ofChange deriveDepositsSpec)

/-- ITS FALSE NEIGHBOUR: 'it returns false'. Refute it at one input. -/
def deriveDepositsWrong : ChangeSpec := { name := "deriveDeposits", fn := fun _ => fun
  | [d1, d2] => { results := [.lit (.bool false)], args := [d1, d2] }
  | _ => none }
def DeriveDepositsWrongFalsely : Prop := deriveDepositsRow.holds Try.pinned (OpenSpec.ofChange deriveDepositsWrong)

/-- 'basculelaw14.DeriveDropped': WHATEVER THE INPUT: true; the input reads as it did. -/
def deriveDroppedSpec : ChangeSpec := { name := "deriveDropped", fn := fun _ => fun
  | [d1, d2] => { results := [.lit (.bool true)], args := [d1, d2] }
  | _ => none }
def deriveDroppedRow : OpenClaim := { program := "ytcaafoibabijgaa", sum := "d32abd05110bdb33a79a5a136926a016feb8f8422298b7c9c21ac8d279ad7093", func := "bascule/basculelaw14.DeriveDropped", spec := "deriveDropped", unfollowed := true, recurses := true, apart := false }
def DeriveDroppedSaid : Prop := deriveDroppedRow.holds Try.pinned (OpenSpec.ofChange deriveDroppedSpec)

/-- ITS FALSE NEIGHBOUR: 'it returns false'. Refute it at one input. -/
def deriveDroppedWrong : ChangeSpec := { name := "deriveDropped", fn := fun _ => fun
  | [d1, d2] => { results := [.lit (.bool false)], args := [d1, d2] }
  | _ => none }
def DeriveDroppedWrongFalsely : Prop := deriveDroppedRow.holds Try.pinned (OpenSpec.ofChange deriveDroppedWrong)

/- THE SECOND FORM. 'bulk': how many values and letters a reading holds, each counted each time it is reached (what is shared counts as often as it is met; a slice's spare places count too). A statement '..UptoSaid' is the law's where the arguments, and the package variables that the reading takes, are together of bulk at most 1048576: NARROWER than '..Said'. Prove '..Said' where nothing that the law and all that it calls make is longer than what came in: it says more and counts as full. Else prove '..UptoSaid'. A law counts once. -/
mutual
def uptoBulk {H : Type} : DataW H → Nat
  | .lit (.string bytes) => bytes.length + 1
  | .lit _ => 1
  | .nil => 1
  | .ptr d => uptoBulk d + 1
  | .slice elems spare => uptoBulkAll elems + uptoBulkAll spare + 1
  | .agg parts => uptoBulkAll parts + 1
  | .iface _ d => uptoBulk d + 1
  | .map entries => uptoBulkEntries entries + 1
  | .held _ => 1
def uptoBulkAll {H : Type} : List (DataW H) → Nat
  | [] => 0
  | d :: r => uptoBulk d + uptoBulkAll r
def uptoBulkEntries {H : Type} : List (Lit × DataW H) → Nat
  | [] => 0
  | x :: r => uptoBulkEntry x + uptoBulkEntries r
def uptoBulkEntry {H : Type} : Lit × DataW H → Nat
  | (.string bytes, d) => bytes.length + uptoBulk d + 1
  | (_, d) => uptoBulk d + 1
 end
def uptoSmall : (H : Type) → List (DataW H) → Bool := fun _ ds => decide (uptoBulkAll ds ≤ 1048576)
def OpenSpec.upto (s : _root_.Go.ChangeSpec) : _root_.Go.OpenSpec := { _root_.Go.OpenSpec.ofChange s with cond := some uptoSmall }

/-- 'basculelaw14.DeriveFirst', WHERE WHAT IT READS IS OF BULK AT MOST 1048576: true; the input reads as it did. -/
def deriveFirstUptoRow : OpenClaim := { program := "ytcaafoibabijgaa", sum := "d32abd05110bdb33a79a5a136926a016feb8f8422298b7c9c21ac8d279ad7093", func := "bascule/basculelaw14.DeriveFirst", spec := "deriveFirst", unfollowed := true, recurses := true, apart := false, narrowed := true }
def DeriveFirstUptoSaid : Prop := deriveFirstUptoRow.holds Try.pinned (OpenSpec.upto deriveFirstSpec)

/-- 'basculelaw14.DerivePlays', WHERE WHAT IT READS IS OF BULK AT MOST 1048576: true; the input reads as it did. -/
def derivePlaysUptoRow : OpenClaim := { program := "ytcaafoibabijgaa", sum := "d32abd05110bdb33a79a5a136926a016feb8f8422298b7c9c21ac8d279ad7093", func := "bascule/basculelaw14.DerivePlays", spec := "derivePlays", unfollowed := true, recurses := true, apart := false, narrowed := true }
def DerivePlaysUptoSaid : Prop := derivePlaysUptoRow.holds Try.pinned (OpenSpec.upto derivePlaysSpec)

/-- 'basculelaw14.DerivePrefix', WHERE WHAT IT READS IS OF BULK AT MOST 1048576: true; the input reads as it did. -/
def derivePrefixUptoRow : OpenClaim := { program := "ytcaafoibabijgaa", sum := "d32abd05110bdb33a79a5a136926a016feb8f8422298b7c9c21ac8d279ad7093", func := "bascule/basculelaw14.DerivePrefix", spec := "derivePrefix", unfollowed := true, recurses := true, apart := false, narrowed := true }
def DerivePrefixUptoSaid : Prop := derivePrefixUptoRow.holds Try.pinned (OpenSpec.upto derivePrefixSpec)

/-- 'basculelaw14.DeriveDeposits', WHERE WHAT IT READS IS OF BULK AT MOST 1048576: true; the input reads as it did. -/
def deriveDepositsUptoRow : OpenClaim := { program := "ytcaafoibabijgaa", sum := "d32abd05110bdb33a79a5a136926a016feb8f8422298b7c9c21ac8d279ad7093", func := "bascule/basculelaw14.DeriveDeposits", spec := "deriveDeposits", unfollowed := true, recurses := true, apart := false, narrowed := true }
def DeriveDepositsUptoSaid : Prop := deriveDepositsUptoRow.holds Try.pinned (OpenSpec.upto deriveDepositsSpec)

/-- 'basculelaw14.DeriveDropped', WHERE WHAT IT READS IS OF BULK AT MOST 1048576: true; the input reads as it did. -/
def deriveDroppedUptoRow : OpenClaim := { program := "ytcaafoibabijgaa", sum := "d32abd05110bdb33a79a5a136926a016feb8f8422298b7c9c21ac8d279ad7093", func := "bascule/basculelaw14.DeriveDropped", spec := "deriveDropped", unfollowed := true, recurses := true, apart := false, narrowed := true }
def DeriveDroppedUptoSaid : Prop := deriveDroppedUptoRow.holds Try.pinned (OpenSpec.upto deriveDroppedSpec)

end Rows
end Go.Proofs.Ytcaafoibabijgaa
