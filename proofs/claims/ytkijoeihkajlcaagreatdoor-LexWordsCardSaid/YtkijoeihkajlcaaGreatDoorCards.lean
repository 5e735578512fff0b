/-
  DERIVED. GIVEN WITH THE SEED: THE CARDS: each row of YtkijoeihkajlcaaGreatDoorRows.lean that lists a variable, with what it lists TIED to the program's text (the seventh form; the later family's looks); each row that meets fmt, with fmt's text TOLD by the authors' own Lean function (tested against real Go, not proved from fmt's source: count such statements apart). THE CARD IS WHAT COUNTS. Prove the row's statement (the work); the ties are given (YtkijoeihkajlcaaGreatDoorTie.lean); close each card by the builder's one call (the guide's Derived/Test/ToyasCard.lean, 'card_holds'). Laid BY PROGRAM, IN A SANDBOX (cutbox-door.mjs). By AI agents, Wed Nov 11 2026. No macro, syntax, notation, axiom, sorry.
-/
import Derived.Test.YtkijoeihkajlcaaGreatDoorRows
import GoSem.ClaimSeven
namespace Go.Proofs.YtkijoeihkajlcaaGreatDoor
namespace Rows

/-- THE TIED CARD OF 'swardlaw02.LexTokens'. -/
def lexTokensCard : Claim7 := { stood := { row := lexTokensRow, standIns := [], harness := (true, "d79bfd299f331c135d09f50339ebf57002e8bc4b35c5cfb4f6adfd85170b8b9a"), looks := true }, kinds := [], alts := [], laidByText := true, laidKinds := [.data, .data, .data, .listed, .data], laidTests := true, laidLooks := .later }
def LexTokensCardSaid : Prop := Claim7.holds Tryz.pinned (.plain (OpenSpec.ofChange lexTokensSpec)) lexTokensCard

/-- THE TIED CARD OF 'swardlaw02.LexStrips'. -/
def lexStripsCard : Claim7 := { stood := { row := lexStripsRow, standIns := [], harness := (true, "d79bfd299f331c135d09f50339ebf57002e8bc4b35c5cfb4f6adfd85170b8b9a"), looks := true }, kinds := [], alts := [], laidByText := true, laidKinds := [.data, .data, .data, .listed, .data], laidTests := true, laidLooks := .later }
def LexStripsCardSaid : Prop := Claim7.holds Tryz.pinned (.plain (OpenSpec.ofChange lexStripsSpec)) lexStripsCard

/-- THE TIED CARD OF 'swardlaw02.LexWords'. -/
def lexWordsCard : Claim7 := { stood := { row := lexWordsRow, standIns := [], harness := (true, "d79bfd299f331c135d09f50339ebf57002e8bc4b35c5cfb4f6adfd85170b8b9a"), looks := true }, kinds := [], alts := [], laidByText := true, laidKinds := [.data, .data, .data, .listed, .data], laidTests := true, laidLooks := .later }
def LexWordsCardSaid : Prop := Claim7.holds Tryz.pinned (.plain (OpenSpec.ofChange lexWordsSpec)) lexWordsCard

/-- THE SECOND FORM's CARD OF 'swardlaw02.LexTokens'. -/
def lexTokensUptoCard : Claim7 := { stood := { row := lexTokensUptoRow, standIns := [], harness := (true, "d79bfd299f331c135d09f50339ebf57002e8bc4b35c5cfb4f6adfd85170b8b9a"), looks := true }, kinds := [], alts := [], laidByText := true, laidKinds := [.data, .data, .data, .listed, .data], laidTests := true, laidLooks := .later }
def LexTokensUptoCardSaid : Prop := Claim7.holds Tryz.pinned (.plain (OpenSpec.upto lexTokensSpec)) lexTokensUptoCard

/-- THE SECOND FORM's CARD OF 'swardlaw02.LexStrips'. -/
def lexStripsUptoCard : Claim7 := { stood := { row := lexStripsUptoRow, standIns := [], harness := (true, "d79bfd299f331c135d09f50339ebf57002e8bc4b35c5cfb4f6adfd85170b8b9a"), looks := true }, kinds := [], alts := [], laidByText := true, laidKinds := [.data, .data, .data, .listed, .data], laidTests := true, laidLooks := .later }
def LexStripsUptoCardSaid : Prop := Claim7.holds Tryz.pinned (.plain (OpenSpec.upto lexStripsSpec)) lexStripsUptoCard

/-- THE SECOND FORM's CARD OF 'swardlaw02.LexWords'. -/
def lexWordsUptoCard : Claim7 := { stood := { row := lexWordsUptoRow, standIns := [], harness := (true, "d79bfd299f331c135d09f50339ebf57002e8bc4b35c5cfb4f6adfd85170b8b9a"), looks := true }, kinds := [], alts := [], laidByText := true, laidKinds := [.data, .data, .data, .listed, .data], laidTests := true, laidLooks := .later }
def LexWordsUptoCardSaid : Prop := Claim7.holds Tryz.pinned (.plain (OpenSpec.upto lexWordsSpec)) lexWordsUptoCard
end Rows
end Go.Proofs.YtkijoeihkajlcaaGreatDoor
