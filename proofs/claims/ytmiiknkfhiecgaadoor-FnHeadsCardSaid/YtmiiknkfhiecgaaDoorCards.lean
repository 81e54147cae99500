/-
  DERIVED. GIVEN WITH THE SEED: THE CARDS: each row of YtmiiknkfhiecgaaDoorRows.lean that lists a variable, with what it lists TIED to the program's text (the seventh form; the later family's looks); each row that meets fmt, with fmt's text TOLD by the authors' own Lean function (tested against real Go, not proved from fmt's source: count such statements apart). THE CARD IS WHAT COUNTS. Prove the row's statement (the work); the ties are given (YtmiiknkfhiecgaaDoorTie.lean); close each card by the builder's one call (the guide's Derived/Test/ToyasCard.lean, 'card_holds'). Laid BY PROGRAM, IN A SANDBOX (cutbox-door.mjs). By AI agents, Wed Nov 11 2026. No macro, syntax, notation, axiom, sorry.
-/
import Derived.Test.YtmiiknkfhiecgaaDoorRows
import GoSem.ClaimSeven
namespace Go.Proofs.YtmiiknkfhiecgaaDoor
namespace Rows

/-- THE TIED CARD OF 'laws.FnExactFoldBranch'. -/
def fnExactFoldBranchCard : Claim7 := { stood := { row := fnExactFoldBranchRow, standIns := [], harness := (true, "e4c3bb3ba08b206a7ab2894f9061ace4b1bc15c35e02d35ce178dd72da8f1b3e"), looks := false }, kinds := [], alts := [], laidByText := true, laidKinds := [.data, .data], laidTests := true, laidLooks := .later }
def FnExactFoldBranchCardSaid : Prop := Claim7.holds Tryd.pinned (.plain (OpenSpec.ofChange fnExactFoldBranchSpec)) fnExactFoldBranchCard

/-- THE TIED CARD OF 'laws.FnExactRootOf'. -/
def fnExactRootOfCard : Claim7 := { stood := { row := fnExactRootOfRow, standIns := [], harness := (true, "e4c3bb3ba08b206a7ab2894f9061ace4b1bc15c35e02d35ce178dd72da8f1b3e"), looks := false }, kinds := [], alts := [], laidByText := true, laidKinds := [.data, .data], laidTests := true, laidLooks := .later }
def FnExactRootOfCardSaid : Prop := Claim7.holds Tryd.pinned (.plain (OpenSpec.ofChange fnExactRootOfSpec)) fnExactRootOfCard

/-- THE TIED CARD OF 'laws.FnExactHeadRoot'. -/
def fnExactHeadRootCard : Claim7 := { stood := { row := fnExactHeadRootRow, standIns := [], harness := (true, "e4c3bb3ba08b206a7ab2894f9061ace4b1bc15c35e02d35ce178dd72da8f1b3e"), looks := false }, kinds := [], alts := [], laidByText := true, laidKinds := [.data, .data], laidTests := true, laidLooks := .later }
def FnExactHeadRootCardSaid : Prop := Claim7.holds Tryd.pinned (.plain (OpenSpec.ofChange fnExactHeadRootSpec)) fnExactHeadRootCard

/-- THE TIED CARD OF 'laws.FnExactBranchOf'. -/
def fnExactBranchOfCard : Claim7 := { stood := { row := fnExactBranchOfRow, standIns := [], harness := (true, "e4c3bb3ba08b206a7ab2894f9061ace4b1bc15c35e02d35ce178dd72da8f1b3e"), looks := false }, kinds := [], alts := [], laidByText := true, laidKinds := [.data, .data], laidTests := true, laidLooks := .later }
def FnExactBranchOfCardSaid : Prop := Claim7.holds Tryd.pinned (.plain (OpenSpec.ofChange fnExactBranchOfSpec)) fnExactBranchOfCard

/-- THE TIED CARD OF 'laws.FnOneLeaf'. -/
def fnOneLeafCard : Claim7 := { stood := { row := fnOneLeafRow, standIns := [], harness := (true, "e4c3bb3ba08b206a7ab2894f9061ace4b1bc15c35e02d35ce178dd72da8f1b3e"), looks := false }, kinds := [], alts := [], laidByText := true, laidKinds := [.data, .data], laidTests := true, laidLooks := .later }
def FnOneLeafCardSaid : Prop := Claim7.holds Tryd.pinned (.plain (OpenSpec.ofChange fnOneLeafSpec)) fnOneLeafCard

/-- THE TIED CARD OF 'laws.FnExactSigText'. -/
def fnExactSigTextCard : Claim7 := { stood := { row := fnExactSigTextRow, standIns := [], harness := (true, "e4c3bb3ba08b206a7ab2894f9061ace4b1bc15c35e02d35ce178dd72da8f1b3e"), looks := false }, kinds := [], alts := [], laidByText := true, laidKinds := [.data, .data], laidTests := true, laidLooks := .later }
def FnExactSigTextCardSaid : Prop := Claim7.holds Tryd.pinned (.plain (OpenSpec.ofChange fnExactSigTextSpec)) fnExactSigTextCard

/-- THE TIED CARD OF 'laws.FnBranches'. -/
def fnBranchesCard : Claim7 := { stood := { row := fnBranchesRow, standIns := [], harness := (true, "e4c3bb3ba08b206a7ab2894f9061ace4b1bc15c35e02d35ce178dd72da8f1b3e"), looks := false }, kinds := [], alts := [], laidByText := true, laidKinds := [.data, .data], laidTests := true, laidLooks := .later }
def FnBranchesCardSaid : Prop := Claim7.holds Tryd.pinned (.plain (OpenSpec.ofChange fnBranchesSpec)) fnBranchesCard

/-- THE TIED CARD OF 'laws.FnHeads'. -/
def fnHeadsCard : Claim7 := { stood := { row := fnHeadsRow, standIns := [], harness := (true, "e4c3bb3ba08b206a7ab2894f9061ace4b1bc15c35e02d35ce178dd72da8f1b3e"), looks := false }, kinds := [], alts := [], laidByText := true, laidKinds := [.data, .data], laidTests := true, laidLooks := .later }
def FnHeadsCardSaid : Prop := Claim7.holds Tryd.pinned (.plain (OpenSpec.ofChange fnHeadsSpec)) fnHeadsCard

/-- THE SECOND FORM's CARD OF 'laws.FnExactFoldBranch'. -/
def fnExactFoldBranchUptoCard : Claim7 := { stood := { row := fnExactFoldBranchUptoRow, standIns := [], harness := (true, "e4c3bb3ba08b206a7ab2894f9061ace4b1bc15c35e02d35ce178dd72da8f1b3e"), looks := false }, kinds := [], alts := [], laidByText := true, laidKinds := [.data, .data], laidTests := true, laidLooks := .later }
def FnExactFoldBranchUptoCardSaid : Prop := Claim7.holds Tryd.pinned (.plain (OpenSpec.upto fnExactFoldBranchSpec)) fnExactFoldBranchUptoCard

/-- THE SECOND FORM's CARD OF 'laws.FnExactRootOf'. -/
def fnExactRootOfUptoCard : Claim7 := { stood := { row := fnExactRootOfUptoRow, standIns := [], harness := (true, "e4c3bb3ba08b206a7ab2894f9061ace4b1bc15c35e02d35ce178dd72da8f1b3e"), looks := false }, kinds := [], alts := [], laidByText := true, laidKinds := [.data, .data], laidTests := true, laidLooks := .later }
def FnExactRootOfUptoCardSaid : Prop := Claim7.holds Tryd.pinned (.plain (OpenSpec.upto fnExactRootOfSpec)) fnExactRootOfUptoCard

/-- THE SECOND FORM's CARD OF 'laws.FnExactHeadRoot'. -/
def fnExactHeadRootUptoCard : Claim7 := { stood := { row := fnExactHeadRootUptoRow, standIns := [], harness := (true, "e4c3bb3ba08b206a7ab2894f9061ace4b1bc15c35e02d35ce178dd72da8f1b3e"), looks := false }, kinds := [], alts := [], laidByText := true, laidKinds := [.data, .data], laidTests := true, laidLooks := .later }
def FnExactHeadRootUptoCardSaid : Prop := Claim7.holds Tryd.pinned (.plain (OpenSpec.upto fnExactHeadRootSpec)) fnExactHeadRootUptoCard

/-- THE SECOND FORM's CARD OF 'laws.FnExactBranchOf'. -/
def fnExactBranchOfUptoCard : Claim7 := { stood := { row := fnExactBranchOfUptoRow, standIns := [], harness := (true, "e4c3bb3ba08b206a7ab2894f9061ace4b1bc15c35e02d35ce178dd72da8f1b3e"), looks := false }, kinds := [], alts := [], laidByText := true, laidKinds := [.data, .data], laidTests := true, laidLooks := .later }
def FnExactBranchOfUptoCardSaid : Prop := Claim7.holds Tryd.pinned (.plain (OpenSpec.upto fnExactBranchOfSpec)) fnExactBranchOfUptoCard

/-- THE SECOND FORM's CARD OF 'laws.FnOneLeaf'. -/
def fnOneLeafUptoCard : Claim7 := { stood := { row := fnOneLeafUptoRow, standIns := [], harness := (true, "e4c3bb3ba08b206a7ab2894f9061ace4b1bc15c35e02d35ce178dd72da8f1b3e"), looks := false }, kinds := [], alts := [], laidByText := true, laidKinds := [.data, .data], laidTests := true, laidLooks := .later }
def FnOneLeafUptoCardSaid : Prop := Claim7.holds Tryd.pinned (.plain (OpenSpec.upto fnOneLeafSpec)) fnOneLeafUptoCard

/-- THE SECOND FORM's CARD OF 'laws.FnExactSigText'. -/
def fnExactSigTextUptoCard : Claim7 := { stood := { row := fnExactSigTextUptoRow, standIns := [], harness := (true, "e4c3bb3ba08b206a7ab2894f9061ace4b1bc15c35e02d35ce178dd72da8f1b3e"), looks := false }, kinds := [], alts := [], laidByText := true, laidKinds := [.data, .data], laidTests := true, laidLooks := .later }
def FnExactSigTextUptoCardSaid : Prop := Claim7.holds Tryd.pinned (.plain (OpenSpec.upto fnExactSigTextSpec)) fnExactSigTextUptoCard

/-- THE SECOND FORM's CARD OF 'laws.FnBranches'. -/
def fnBranchesUptoCard : Claim7 := { stood := { row := fnBranchesUptoRow, standIns := [], harness := (true, "e4c3bb3ba08b206a7ab2894f9061ace4b1bc15c35e02d35ce178dd72da8f1b3e"), looks := false }, kinds := [], alts := [], laidByText := true, laidKinds := [.data, .data], laidTests := true, laidLooks := .later }
def FnBranchesUptoCardSaid : Prop := Claim7.holds Tryd.pinned (.plain (OpenSpec.upto fnBranchesSpec)) fnBranchesUptoCard

/-- THE SECOND FORM's CARD OF 'laws.FnHeads'. -/
def fnHeadsUptoCard : Claim7 := { stood := { row := fnHeadsUptoRow, standIns := [], harness := (true, "e4c3bb3ba08b206a7ab2894f9061ace4b1bc15c35e02d35ce178dd72da8f1b3e"), looks := false }, kinds := [], alts := [], laidByText := true, laidKinds := [.data, .data], laidTests := true, laidLooks := .later }
def FnHeadsUptoCardSaid : Prop := Claim7.holds Tryd.pinned (.plain (OpenSpec.upto fnHeadsSpec)) fnHeadsUptoCard
end Rows
end Go.Proofs.YtmiiknkfhiecgaaDoor
