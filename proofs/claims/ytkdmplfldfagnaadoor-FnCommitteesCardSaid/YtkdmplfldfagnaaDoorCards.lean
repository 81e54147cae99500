/-
  DERIVED. GIVEN WITH THE SEED: THE CARDS: each row of YtkdmplfldfagnaaDoorRows.lean that lists a variable, with what it lists TIED to the program's text (the seventh form; the later family's looks); each row that meets fmt, with fmt's text TOLD by the authors' own Lean function (tested against real Go, not proved from fmt's source: count such statements apart). THE CARD IS WHAT COUNTS. Prove the row's statement (the work); the ties are given (YtkdmplfldfagnaaDoorTie.lean); close each card by the builder's one call (the guide's Derived/Test/ToyasCard.lean, 'card_holds'). Laid BY PROGRAM, IN A SANDBOX (cutbox-door.mjs). By AI agents, Wed Nov 11 2026. No macro, syntax, notation, axiom, sorry.
-/
import Derived.Test.YtkdmplfldfagnaaDoorRows
import GoSem.ClaimSeven
namespace Go.Proofs.YtkdmplfldfagnaaDoor
namespace Rows

/-- THE TIED CARD OF 'laws.FnExactHashPoint'. -/
def fnExactHashPointCard : Claim7 := { stood := { row := fnExactHashPointRow, standIns := [], harness := (true, "78db0a5578644ad6e4d7857560735192eebfd685c977ce1785b74e22dff30b79"), looks := false }, kinds := [], alts := [], laidByText := true, laidKinds := [.data, .data], laidTests := true, laidLooks := .later }
def FnExactHashPointCardSaid : Prop := Claim7.holds Tryd.pinned (.plain (OpenSpec.ofChange fnExactHashPointSpec)) fnExactHashPointCard

/-- THE TIED CARD OF 'laws.FnExactSignWith'. -/
def fnExactSignWithCard : Claim7 := { stood := { row := fnExactSignWithRow, standIns := [], harness := (true, "78db0a5578644ad6e4d7857560735192eebfd685c977ce1785b74e22dff30b79"), looks := false }, kinds := [], alts := [], laidByText := true, laidKinds := [.data, .data], laidTests := true, laidLooks := .later }
def FnExactSignWithCardSaid : Prop := Claim7.holds Tryd.pinned (.plain (OpenSpec.ofChange fnExactSignWithSpec)) fnExactSignWithCard

/-- THE TIED CARD OF 'laws.FnExactSignBits'. -/
def fnExactSignBitsCard : Claim7 := { stood := { row := fnExactSignBitsRow, standIns := [], harness := (true, "78db0a5578644ad6e4d7857560735192eebfd685c977ce1785b74e22dff30b79"), looks := false }, kinds := [], alts := [], laidByText := true, laidKinds := [.data, .data], laidTests := true, laidLooks := .later }
def FnExactSignBitsCardSaid : Prop := Claim7.holds Tryd.pinned (.plain (OpenSpec.ofChange fnExactSignBitsSpec)) fnExactSignBitsCard

/-- THE TIED CARD OF 'laws.FnExactCommitteeRoot'. -/
def fnExactCommitteeRootCard : Claim7 := { stood := { row := fnExactCommitteeRootRow, standIns := [], harness := (true, "78db0a5578644ad6e4d7857560735192eebfd685c977ce1785b74e22dff30b79"), looks := false }, kinds := [], alts := [], laidByText := true, laidKinds := [.data, .data], laidTests := true, laidLooks := .later }
def FnExactCommitteeRootCardSaid : Prop := Claim7.holds Tryd.pinned (.plain (OpenSpec.ofChange fnExactCommitteeRootSpec)) fnExactCommitteeRootCard

/-- THE TIED CARD OF 'laws.FnExactSigOk'. -/
def fnExactSigOkCard : Claim7 := { stood := { row := fnExactSigOkRow, standIns := [], harness := (true, "78db0a5578644ad6e4d7857560735192eebfd685c977ce1785b74e22dff30b79"), looks := false }, kinds := [], alts := [], laidByText := true, laidKinds := [.data, .data], laidTests := true, laidLooks := .later }
def FnExactSigOkCardSaid : Prop := Claim7.holds Tryd.pinned (.plain (OpenSpec.ofChange fnExactSigOkSpec)) fnExactSigOkCard

/-- THE TIED CARD OF 'laws.FnCommittees'. -/
def fnCommitteesCard : Claim7 := { stood := { row := fnCommitteesRow, standIns := [], harness := (true, "78db0a5578644ad6e4d7857560735192eebfd685c977ce1785b74e22dff30b79"), looks := false }, kinds := [], alts := [], laidByText := true, laidKinds := [.data, .data], laidTests := true, laidLooks := .later }
def FnCommitteesCardSaid : Prop := Claim7.holds Tryd.pinned (.plain (OpenSpec.ofChange fnCommitteesSpec)) fnCommitteesCard

/-- THE TIED CARD OF 'laws.FnExactAllSigOk'. -/
def fnExactAllSigOkCard : Claim7 := { stood := { row := fnExactAllSigOkRow, standIns := [], harness := (true, "78db0a5578644ad6e4d7857560735192eebfd685c977ce1785b74e22dff30b79"), looks := false }, kinds := [], alts := [], laidByText := true, laidKinds := [.data, .data], laidTests := true, laidLooks := .later }
def FnExactAllSigOkCardSaid : Prop := Claim7.holds Tryd.pinned (.plain (OpenSpec.ofChange fnExactAllSigOkSpec)) fnExactAllSigOkCard

/-- THE SECOND FORM's CARD OF 'laws.FnExactHashPoint'. -/
def fnExactHashPointUptoCard : Claim7 := { stood := { row := fnExactHashPointUptoRow, standIns := [], harness := (true, "78db0a5578644ad6e4d7857560735192eebfd685c977ce1785b74e22dff30b79"), looks := false }, kinds := [], alts := [], laidByText := true, laidKinds := [.data, .data], laidTests := true, laidLooks := .later }
def FnExactHashPointUptoCardSaid : Prop := Claim7.holds Tryd.pinned (.plain (OpenSpec.upto fnExactHashPointSpec)) fnExactHashPointUptoCard

/-- THE SECOND FORM's CARD OF 'laws.FnExactSignWith'. -/
def fnExactSignWithUptoCard : Claim7 := { stood := { row := fnExactSignWithUptoRow, standIns := [], harness := (true, "78db0a5578644ad6e4d7857560735192eebfd685c977ce1785b74e22dff30b79"), looks := false }, kinds := [], alts := [], laidByText := true, laidKinds := [.data, .data], laidTests := true, laidLooks := .later }
def FnExactSignWithUptoCardSaid : Prop := Claim7.holds Tryd.pinned (.plain (OpenSpec.upto fnExactSignWithSpec)) fnExactSignWithUptoCard

/-- THE SECOND FORM's CARD OF 'laws.FnExactSignBits'. -/
def fnExactSignBitsUptoCard : Claim7 := { stood := { row := fnExactSignBitsUptoRow, standIns := [], harness := (true, "78db0a5578644ad6e4d7857560735192eebfd685c977ce1785b74e22dff30b79"), looks := false }, kinds := [], alts := [], laidByText := true, laidKinds := [.data, .data], laidTests := true, laidLooks := .later }
def FnExactSignBitsUptoCardSaid : Prop := Claim7.holds Tryd.pinned (.plain (OpenSpec.upto fnExactSignBitsSpec)) fnExactSignBitsUptoCard

/-- THE SECOND FORM's CARD OF 'laws.FnExactCommitteeRoot'. -/
def fnExactCommitteeRootUptoCard : Claim7 := { stood := { row := fnExactCommitteeRootUptoRow, standIns := [], harness := (true, "78db0a5578644ad6e4d7857560735192eebfd685c977ce1785b74e22dff30b79"), looks := false }, kinds := [], alts := [], laidByText := true, laidKinds := [.data, .data], laidTests := true, laidLooks := .later }
def FnExactCommitteeRootUptoCardSaid : Prop := Claim7.holds Tryd.pinned (.plain (OpenSpec.upto fnExactCommitteeRootSpec)) fnExactCommitteeRootUptoCard

/-- THE SECOND FORM's CARD OF 'laws.FnExactSigOk'. -/
def fnExactSigOkUptoCard : Claim7 := { stood := { row := fnExactSigOkUptoRow, standIns := [], harness := (true, "78db0a5578644ad6e4d7857560735192eebfd685c977ce1785b74e22dff30b79"), looks := false }, kinds := [], alts := [], laidByText := true, laidKinds := [.data, .data], laidTests := true, laidLooks := .later }
def FnExactSigOkUptoCardSaid : Prop := Claim7.holds Tryd.pinned (.plain (OpenSpec.upto fnExactSigOkSpec)) fnExactSigOkUptoCard

/-- THE SECOND FORM's CARD OF 'laws.FnCommittees'. -/
def fnCommitteesUptoCard : Claim7 := { stood := { row := fnCommitteesUptoRow, standIns := [], harness := (true, "78db0a5578644ad6e4d7857560735192eebfd685c977ce1785b74e22dff30b79"), looks := false }, kinds := [], alts := [], laidByText := true, laidKinds := [.data, .data], laidTests := true, laidLooks := .later }
def FnCommitteesUptoCardSaid : Prop := Claim7.holds Tryd.pinned (.plain (OpenSpec.upto fnCommitteesSpec)) fnCommitteesUptoCard

/-- THE SECOND FORM's CARD OF 'laws.FnExactAllSigOk'. -/
def fnExactAllSigOkUptoCard : Claim7 := { stood := { row := fnExactAllSigOkUptoRow, standIns := [], harness := (true, "78db0a5578644ad6e4d7857560735192eebfd685c977ce1785b74e22dff30b79"), looks := false }, kinds := [], alts := [], laidByText := true, laidKinds := [.data, .data], laidTests := true, laidLooks := .later }
def FnExactAllSigOkUptoCardSaid : Prop := Claim7.holds Tryd.pinned (.plain (OpenSpec.upto fnExactAllSigOkSpec)) fnExactAllSigOkUptoCard
end Rows
end Go.Proofs.YtkdmplfldfagnaaDoor
