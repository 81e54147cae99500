/-
  DERIVED. GIVEN WITH THE SEED: THE CARDS: each row of YtkdmplfldfagnaaGreatDoorRows.lean that lists a variable, with what it lists TIED to the program's text (the seventh form; the later family's looks); each row that meets fmt, with fmt's text TOLD by the authors' own Lean function (tested against real Go, not proved from fmt's source: count such statements apart). THE CARD IS WHAT COUNTS. Prove the row's statement (the work); the ties are given (YtkdmplfldfagnaaGreatDoorTie.lean); close each card by the builder's one call (the guide's Derived/Test/ToyasCard.lean, 'card_holds'). Laid BY PROGRAM, IN A SANDBOX (cutbox-door.mjs). By AI agents, Wed Nov 11 2026. No macro, syntax, notation, axiom, sorry.
-/
import Derived.Test.YtkdmplfldfagnaaGreatDoorRows
import GoSem.ClaimSeven
namespace Go.Proofs.YtkdmplfldfagnaaGreatDoor
namespace Rows

/-- THE TIED CARD OF 'laws.FnSignsTogether'. -/
def fnSignsTogetherCard : Claim7 := { stood := { row := fnSignsTogetherRow, standIns := [], harness := (true, "be741ce2b0ee7de984ca69c5b9f6b89b9b85a9e53b4e082e1f0fddb4e700b253"), looks := false }, kinds := [], alts := [], laidByText := true, laidKinds := [.data, .data], laidTests := true, laidLooks := .later }
def FnSignsTogetherCardSaid : Prop := Claim7.holds Tryz.pinned (.plain (OpenSpec.ofChange fnSignsTogetherSpec)) fnSignsTogetherCard

/-- THE TIED CARD OF 'laws.FnSigns'. -/
def fnSignsCard : Claim7 := { stood := { row := fnSignsRow, standIns := [], harness := (true, "be741ce2b0ee7de984ca69c5b9f6b89b9b85a9e53b4e082e1f0fddb4e700b253"), looks := false }, kinds := [], alts := [], laidByText := true, laidKinds := [.data, .data], laidTests := true, laidLooks := .later }
def FnSignsCardSaid : Prop := Claim7.holds Tryz.pinned (.plain (OpenSpec.ofChange fnSignsSpec)) fnSignsCard

/-- THE TIED CARD OF 'laws.FnCommitteesTold'. -/
def fnCommitteesToldCard : Claim7 := { stood := { row := fnCommitteesToldRow, standIns := [], harness := (true, "be741ce2b0ee7de984ca69c5b9f6b89b9b85a9e53b4e082e1f0fddb4e700b253"), looks := false }, kinds := [], alts := [], laidByText := true, laidKinds := [.data, .data], laidTests := true, laidLooks := .later }
def FnCommitteesToldCardSaid : Prop := Claim7.holds Tryz.pinned (.plain (OpenSpec.ofChange fnCommitteesToldSpec)) fnCommitteesToldCard

/-- THE SECOND FORM's CARD OF 'laws.FnSignsTogether'. -/
def fnSignsTogetherUptoCard : Claim7 := { stood := { row := fnSignsTogetherUptoRow, standIns := [], harness := (true, "be741ce2b0ee7de984ca69c5b9f6b89b9b85a9e53b4e082e1f0fddb4e700b253"), looks := false }, kinds := [], alts := [], laidByText := true, laidKinds := [.data, .data], laidTests := true, laidLooks := .later }
def FnSignsTogetherUptoCardSaid : Prop := Claim7.holds Tryz.pinned (.plain (OpenSpec.upto fnSignsTogetherSpec)) fnSignsTogetherUptoCard

/-- THE SECOND FORM's CARD OF 'laws.FnSigns'. -/
def fnSignsUptoCard : Claim7 := { stood := { row := fnSignsUptoRow, standIns := [], harness := (true, "be741ce2b0ee7de984ca69c5b9f6b89b9b85a9e53b4e082e1f0fddb4e700b253"), looks := false }, kinds := [], alts := [], laidByText := true, laidKinds := [.data, .data], laidTests := true, laidLooks := .later }
def FnSignsUptoCardSaid : Prop := Claim7.holds Tryz.pinned (.plain (OpenSpec.upto fnSignsSpec)) fnSignsUptoCard

/-- THE SECOND FORM's CARD OF 'laws.FnCommitteesTold'. -/
def fnCommitteesToldUptoCard : Claim7 := { stood := { row := fnCommitteesToldUptoRow, standIns := [], harness := (true, "be741ce2b0ee7de984ca69c5b9f6b89b9b85a9e53b4e082e1f0fddb4e700b253"), looks := false }, kinds := [], alts := [], laidByText := true, laidKinds := [.data, .data], laidTests := true, laidLooks := .later }
def FnCommitteesToldUptoCardSaid : Prop := Claim7.holds Tryz.pinned (.plain (OpenSpec.upto fnCommitteesToldSpec)) fnCommitteesToldUptoCard
end Rows
end Go.Proofs.YtkdmplfldfagnaaGreatDoor
