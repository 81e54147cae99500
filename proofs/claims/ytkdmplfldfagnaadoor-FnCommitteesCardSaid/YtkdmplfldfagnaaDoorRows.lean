/-
  NARROWER THAN 'FOR EVERY INPUT', by the rows' own cells (each row's printed sentence says how): FnExactHashPoint: laid · FnExactSignWith: laid · FnExactSignBits: laid · FnExactCommitteeRoot: laid · FnExactSigOk: laid · FnCommittees: laid · FnExactAllSigOk: laid.
  DERIVED. THE GIVEN ROWS OF THIS SEAT. 7 by the template 'for every input the law returns true; each argument reads behind the call as it read before'; 0 by the template 'total and deterministic' (their statements: YtkdmplfldfagnaaDoorTotals.lean).
  GIVEN WITH THE SEED: the statements are not yours to turn. If you find one false, say at which input.
  Laid BY PROGRAM, IN A SANDBOX (cutbox-rows.mjs): the forced cells as the released guide's own fill.sh prints them over the translation 971fbc9fe9c6d769… (all of the seat's roots in one cut). By AI agents, Wed Nov 11 2026. No macro, syntax, notation, axiom, sorry.
-/
import Derived.Test.YtkdmplfldfagnaaDoorChecked
import GoSem.Claim
import GoSem.ClaimJoined
import GoSem.ClaimMapViews
import Derived.JoinedTies
import Derived.KernelRfl
namespace Go.Proofs.YtkdmplfldfagnaaDoor
/- THE CELL 'sum', in the pinned program and in every row, IS THE sha256 OF THE DUMP (.gsa) THAT YtkdmplfldfagnaaDoorProg.lean LOADS. Nothing in Lean hashes anything: it is a label: what it is worth is what the hold of that sum in a sandbox is worth. -/
noncomputable def Tryd.pinned : Pinned := { name := "ytkdmplfldfagnaadoor", sum := "971fbc9fe9c6d7691d913d65fecd2c80750b4d16107ff8638c6146cb93f57a41", checked := Tryd.checked }
namespace Rows
def none {H : Type} : Left H := { results := [], args := [] }

/- WHAT THE LISTED PACKAGE-LEVEL VARIABLES READ AS WHEN THE CALL BEGINS. Each datum BY PROGRAM (the guide's laid-datum.mjs) off the statement by which the dump's own 'gosem.cut.vars' lays the variable. In a bare row this is a premise. The card (YtkdmplfldfagnaaDoorCards.lean) ties it to the program's text. -/
def laid_loop_example_g00321_impl_roundConstants {H : Type} : DataW H := .agg [.lit (.int .u64 1), .lit (.int .u64 32898), .lit (.int .u64 9223372036854808714), .lit (.int .u64 9223372039002292224), .lit (.int .u64 32907), .lit (.int .u64 2147483649), .lit (.int .u64 9223372039002292353), .lit (.int .u64 9223372036854808585), .lit (.int .u64 138), .lit (.int .u64 136), .lit (.int .u64 2147516425), .lit (.int .u64 2147483658), .lit (.int .u64 2147516555), .lit (.int .u64 9223372036854775947), .lit (.int .u64 9223372036854808713), .lit (.int .u64 9223372036854808579), .lit (.int .u64 9223372036854808578), .lit (.int .u64 9223372036854775936), .lit (.int .u64 32778), .lit (.int .u64 9223372039002259466), .lit (.int .u64 9223372039002292353), .lit (.int .u64 9223372036854808704), .lit (.int .u64 2147483649), .lit (.int .u64 9223372039002292232)]
def laid_loop_example_g00321_impl_turns {H : Type} : DataW H := .agg [.lit (.int .i64 0), .lit (.int .i64 1), .lit (.int .i64 62), .lit (.int .i64 28), .lit (.int .i64 27), .lit (.int .i64 36), .lit (.int .i64 44), .lit (.int .i64 6), .lit (.int .i64 55), .lit (.int .i64 20), .lit (.int .i64 3), .lit (.int .i64 10), .lit (.int .i64 43), .lit (.int .i64 25), .lit (.int .i64 39), .lit (.int .i64 41), .lit (.int .i64 45), .lit (.int .i64 15), .lit (.int .i64 21), .lit (.int .i64 8), .lit (.int .i64 18), .lit (.int .i64 2), .lit (.int .i64 61), .lit (.int .i64 56), .lit (.int .i64 14)]

/-- 'laws.FnExactHashPoint': WHATEVER THE INPUT: true; the input reads as it did. -/
def fnExactHashPointSpec : ChangeSpec := { name := "fnExactHashPoint", vars := ["loop.example/g00321/impl.turns", "loop.example/g00321/impl.roundConstants"], fn := fun _ => fun
  | [d, g1, g2] => { results := [.lit (.bool true)], args := [d], vars := [g1, g2] }
  | _ => none }
def fnExactHashPointRow : OpenClaim := { program := "ytkdmplfldfagnaadoor", sum := "971fbc9fe9c6d7691d913d65fecd2c80750b4d16107ff8638c6146cb93f57a41", func := "loop.example/g00321/laws.FnExactHashPoint", spec := "fnExactHashPoint", inPlace := ["internal/abi.NoEscape", "internal/bytealg.MakeNoZero"], named := ["loop.example/g00321/impl.turns", "loop.example/g00321/impl.roundConstants"], apart := false, laid := [("loop.example/g00321/impl.roundConstants", laid_loop_example_g00321_impl_roundConstants), ("loop.example/g00321/impl.turns", laid_loop_example_g00321_impl_turns)] }
def FnExactHashPointSaid : Prop := fnExactHashPointRow.holds Tryd.pinned (OpenSpec.ofChange fnExactHashPointSpec)

/-- ITS FALSE NEIGHBOUR: 'it returns false'. Refute it at one input. -/
def fnExactHashPointWrong : ChangeSpec := { name := "fnExactHashPoint", vars := ["loop.example/g00321/impl.turns", "loop.example/g00321/impl.roundConstants"], fn := fun _ => fun
  | [d, g1, g2] => { results := [.lit (.bool false)], args := [d], vars := [g1, g2] }
  | _ => none }
def FnExactHashPointWrongFalsely : Prop := fnExactHashPointRow.holds Tryd.pinned (OpenSpec.ofChange fnExactHashPointWrong)

/-- 'laws.FnExactSignWith': WHATEVER THE INPUT: true; the input reads as it did. -/
def fnExactSignWithSpec : ChangeSpec := { name := "fnExactSignWith", vars := ["loop.example/g00321/impl.turns", "loop.example/g00321/impl.roundConstants"], fn := fun _ => fun
  | [d1, d2, g1, g2] => { results := [.lit (.bool true)], args := [d1, d2], vars := [g1, g2] }
  | _ => none }
def fnExactSignWithRow : OpenClaim := { program := "ytkdmplfldfagnaadoor", sum := "971fbc9fe9c6d7691d913d65fecd2c80750b4d16107ff8638c6146cb93f57a41", func := "loop.example/g00321/laws.FnExactSignWith", spec := "fnExactSignWith", inPlace := ["internal/abi.NoEscape", "internal/bytealg.MakeNoZero"], named := ["loop.example/g00321/impl.turns", "loop.example/g00321/impl.roundConstants"], apart := false, laid := [("loop.example/g00321/impl.roundConstants", laid_loop_example_g00321_impl_roundConstants), ("loop.example/g00321/impl.turns", laid_loop_example_g00321_impl_turns)] }
def FnExactSignWithSaid : Prop := fnExactSignWithRow.holds Tryd.pinned (OpenSpec.ofChange fnExactSignWithSpec)

/-- ITS FALSE NEIGHBOUR: 'it returns false'. Refute it at one input. -/
def fnExactSignWithWrong : ChangeSpec := { name := "fnExactSignWith", vars := ["loop.example/g00321/impl.turns", "loop.example/g00321/impl.roundConstants"], fn := fun _ => fun
  | [d1, d2, g1, g2] => { results := [.lit (.bool false)], args := [d1, d2], vars := [g1, g2] }
  | _ => none }
def FnExactSignWithWrongFalsely : Prop := fnExactSignWithRow.holds Tryd.pinned (OpenSpec.ofChange fnExactSignWithWrong)

/-- 'laws.FnExactSignBits': WHATEVER THE INPUT: true; the input reads as it did. -/
def fnExactSignBitsSpec : ChangeSpec := { name := "fnExactSignBits", vars := ["loop.example/g00321/impl.turns", "loop.example/g00321/impl.roundConstants"], fn := fun _ => fun
  | [d1, d2, d3, g1, g2] => { results := [.lit (.bool true)], args := [d1, d2, d3], vars := [g1, g2] }
  | _ => none }
def fnExactSignBitsRow : OpenClaim := { program := "ytkdmplfldfagnaadoor", sum := "971fbc9fe9c6d7691d913d65fecd2c80750b4d16107ff8638c6146cb93f57a41", func := "loop.example/g00321/laws.FnExactSignBits", spec := "fnExactSignBits", inPlace := ["internal/abi.NoEscape", "internal/bytealg.MakeNoZero"], named := ["loop.example/g00321/impl.turns", "loop.example/g00321/impl.roundConstants"], apart := false, laid := [("loop.example/g00321/impl.roundConstants", laid_loop_example_g00321_impl_roundConstants), ("loop.example/g00321/impl.turns", laid_loop_example_g00321_impl_turns)] }
def FnExactSignBitsSaid : Prop := fnExactSignBitsRow.holds Tryd.pinned (OpenSpec.ofChange fnExactSignBitsSpec)

/-- ITS FALSE NEIGHBOUR: 'it returns false'. Refute it at one input. -/
def fnExactSignBitsWrong : ChangeSpec := { name := "fnExactSignBits", vars := ["loop.example/g00321/impl.turns", "loop.example/g00321/impl.roundConstants"], fn := fun _ => fun
  | [d1, d2, d3, g1, g2] => { results := [.lit (.bool false)], args := [d1, d2, d3], vars := [g1, g2] }
  | _ => none }
def FnExactSignBitsWrongFalsely : Prop := fnExactSignBitsRow.holds Tryd.pinned (OpenSpec.ofChange fnExactSignBitsWrong)

/-- 'laws.FnExactCommitteeRoot': WHATEVER THE INPUT: true; the input reads as it did. -/
def fnExactCommitteeRootSpec : ChangeSpec := { name := "fnExactCommitteeRoot", vars := ["loop.example/g00321/impl.turns", "loop.example/g00321/impl.roundConstants"], fn := fun _ => fun
  | [d, g1, g2] => { results := [.lit (.bool true)], args := [d], vars := [g1, g2] }
  | _ => none }
def fnExactCommitteeRootRow : OpenClaim := { program := "ytkdmplfldfagnaadoor", sum := "971fbc9fe9c6d7691d913d65fecd2c80750b4d16107ff8638c6146cb93f57a41", func := "loop.example/g00321/laws.FnExactCommitteeRoot", spec := "fnExactCommitteeRoot", inPlace := ["internal/abi.NoEscape", "internal/bytealg.MakeNoZero"], named := ["loop.example/g00321/impl.turns", "loop.example/g00321/impl.roundConstants"], apart := false, laid := [("loop.example/g00321/impl.roundConstants", laid_loop_example_g00321_impl_roundConstants), ("loop.example/g00321/impl.turns", laid_loop_example_g00321_impl_turns)] }
def FnExactCommitteeRootSaid : Prop := fnExactCommitteeRootRow.holds Tryd.pinned (OpenSpec.ofChange fnExactCommitteeRootSpec)

/-- ITS FALSE NEIGHBOUR: 'it returns false'. Refute it at one input. -/
def fnExactCommitteeRootWrong : ChangeSpec := { name := "fnExactCommitteeRoot", vars := ["loop.example/g00321/impl.turns", "loop.example/g00321/impl.roundConstants"], fn := fun _ => fun
  | [d, g1, g2] => { results := [.lit (.bool false)], args := [d], vars := [g1, g2] }
  | _ => none }
def FnExactCommitteeRootWrongFalsely : Prop := fnExactCommitteeRootRow.holds Tryd.pinned (OpenSpec.ofChange fnExactCommitteeRootWrong)

/-- 'laws.FnExactSigOk': WHATEVER THE INPUT: true; the input reads as it did. -/
def fnExactSigOkSpec : ChangeSpec := { name := "fnExactSigOk", vars := ["loop.example/g00321/impl.turns", "loop.example/g00321/impl.roundConstants"], fn := fun _ => fun
  | [d1, d2, d3, g1, g2] => { results := [.lit (.bool true)], args := [d1, d2, d3], vars := [g1, g2] }
  | _ => none }
def fnExactSigOkRow : OpenClaim := { program := "ytkdmplfldfagnaadoor", sum := "971fbc9fe9c6d7691d913d65fecd2c80750b4d16107ff8638c6146cb93f57a41", func := "loop.example/g00321/laws.FnExactSigOk", spec := "fnExactSigOk", inPlace := ["internal/abi.NoEscape", "internal/bytealg.MakeNoZero"], named := ["loop.example/g00321/impl.turns", "loop.example/g00321/impl.roundConstants"], apart := false, laid := [("loop.example/g00321/impl.roundConstants", laid_loop_example_g00321_impl_roundConstants), ("loop.example/g00321/impl.turns", laid_loop_example_g00321_impl_turns)] }
def FnExactSigOkSaid : Prop := fnExactSigOkRow.holds Tryd.pinned (OpenSpec.ofChange fnExactSigOkSpec)

/-- ITS FALSE NEIGHBOUR: 'it returns false'. Refute it at one input. -/
def fnExactSigOkWrong : ChangeSpec := { name := "fnExactSigOk", vars := ["loop.example/g00321/impl.turns", "loop.example/g00321/impl.roundConstants"], fn := fun _ => fun
  | [d1, d2, d3, g1, g2] => { results := [.lit (.bool false)], args := [d1, d2, d3], vars := [g1, g2] }
  | _ => none }
def FnExactSigOkWrongFalsely : Prop := fnExactSigOkRow.holds Tryd.pinned (OpenSpec.ofChange fnExactSigOkWrong)

/-- 'laws.FnCommittees': WHATEVER THE INPUT: true; the input reads as it did. -/
def fnCommitteesSpec : ChangeSpec := { name := "fnCommittees", vars := ["loop.example/g00321/impl.turns", "loop.example/g00321/impl.roundConstants"], fn := fun _ => fun
  | [d, g1, g2] => { results := [.lit (.bool true)], args := [d], vars := [g1, g2] }
  | _ => none }
def fnCommitteesRow : OpenClaim := { program := "ytkdmplfldfagnaadoor", sum := "971fbc9fe9c6d7691d913d65fecd2c80750b4d16107ff8638c6146cb93f57a41", func := "loop.example/g00321/laws.FnCommittees", spec := "fnCommittees", inPlace := ["internal/abi.NoEscape", "internal/bytealg.MakeNoZero"], named := ["loop.example/g00321/impl.turns", "loop.example/g00321/impl.roundConstants"], apart := false, laid := [("loop.example/g00321/impl.roundConstants", laid_loop_example_g00321_impl_roundConstants), ("loop.example/g00321/impl.turns", laid_loop_example_g00321_impl_turns)] }
def FnCommitteesSaid : Prop := fnCommitteesRow.holds Tryd.pinned (OpenSpec.ofChange fnCommitteesSpec)

/-- ITS FALSE NEIGHBOUR: 'it returns false'. Refute it at one input. -/
def fnCommitteesWrong : ChangeSpec := { name := "fnCommittees", vars := ["loop.example/g00321/impl.turns", "loop.example/g00321/impl.roundConstants"], fn := fun _ => fun
  | [d, g1, g2] => { results := [.lit (.bool false)], args := [d], vars := [g1, g2] }
  | _ => none }
def FnCommitteesWrongFalsely : Prop := fnCommitteesRow.holds Tryd.pinned (OpenSpec.ofChange fnCommitteesWrong)

/-- 'laws.FnExactAllSigOk': WHATEVER THE INPUT: true; the input reads as it did. -/
def fnExactAllSigOkSpec : ChangeSpec := { name := "fnExactAllSigOk", vars := ["loop.example/g00321/impl.turns", "loop.example/g00321/impl.roundConstants"], fn := fun _ => fun
  | [d1, d2, d3, g1, g2] => { results := [.lit (.bool true)], args := [d1, d2, d3], vars := [g1, g2] }
  | _ => none }
def fnExactAllSigOkRow : OpenClaim := { program := "ytkdmplfldfagnaadoor", sum := "971fbc9fe9c6d7691d913d65fecd2c80750b4d16107ff8638c6146cb93f57a41", func := "loop.example/g00321/laws.FnExactAllSigOk", spec := "fnExactAllSigOk", inPlace := ["internal/abi.NoEscape", "internal/bytealg.MakeNoZero"], named := ["loop.example/g00321/impl.turns", "loop.example/g00321/impl.roundConstants"], apart := false, laid := [("loop.example/g00321/impl.roundConstants", laid_loop_example_g00321_impl_roundConstants), ("loop.example/g00321/impl.turns", laid_loop_example_g00321_impl_turns)] }
def FnExactAllSigOkSaid : Prop := fnExactAllSigOkRow.holds Tryd.pinned (OpenSpec.ofChange fnExactAllSigOkSpec)

/-- ITS FALSE NEIGHBOUR: 'it returns false'. Refute it at one input. -/
def fnExactAllSigOkWrong : ChangeSpec := { name := "fnExactAllSigOk", vars := ["loop.example/g00321/impl.turns", "loop.example/g00321/impl.roundConstants"], fn := fun _ => fun
  | [d1, d2, d3, g1, g2] => { results := [.lit (.bool false)], args := [d1, d2, d3], vars := [g1, g2] }
  | _ => none }
def FnExactAllSigOkWrongFalsely : Prop := fnExactAllSigOkRow.holds Tryd.pinned (OpenSpec.ofChange fnExactAllSigOkWrong)

/- THE SECOND FORM. 'bulk': how many values and letters a reading holds, each counted each time it is reached (what is shared counts as often as it is met; a slice's spare places count too). A statement '..UptoSaid' is the law's where the arguments, and the package variables that the reading takes, are together of bulk at most 1048576: NARROWER than '..Said'. Prove '..Said' where nothing that the law and all that it calls make is longer than what came in: it says more and counts as full. Else prove '..UptoSaid'. A law counts once. -/
mutual
def uptoBulk {H : Type} : DataW H → Nat
  | .lit (.string bytes) => bytes.length + 1
  | .lit _ => 1
  | .nil => 1
  | .ptr d => uptoBulk d + 1
  | .slice elems spare => uptoBulkAll elems + uptoBulkAll spare + 1
  | .agg parts => uptoBulkAll parts + 1
  | .iface _ d => uptoBulk d + 1
  | .map entries => uptoBulkEntries entries + 1
  | .held _ => 1
def uptoBulkAll {H : Type} : List (DataW H) → Nat
  | [] => 0
  | d :: r => uptoBulk d + uptoBulkAll r
def uptoBulkEntries {H : Type} : List (Lit × DataW H) → Nat
  | [] => 0
  | x :: r => uptoBulkEntry x + uptoBulkEntries r
def uptoBulkEntry {H : Type} : Lit × DataW H → Nat
  | (.string bytes, d) => bytes.length + uptoBulk d + 1
  | (_, d) => uptoBulk d + 1
 end
def uptoSmall : (H : Type) → List (DataW H) → Bool := fun _ ds => decide (uptoBulkAll ds ≤ 1048576)
def OpenSpec.upto (s : _root_.Go.ChangeSpec) : _root_.Go.OpenSpec := { _root_.Go.OpenSpec.ofChange s with cond := some uptoSmall }

/-- 'laws.FnExactHashPoint', WHERE WHAT IT READS IS OF BULK AT MOST 1048576: true; the input reads as it did. -/
def fnExactHashPointUptoRow : OpenClaim := { program := "ytkdmplfldfagnaadoor", sum := "971fbc9fe9c6d7691d913d65fecd2c80750b4d16107ff8638c6146cb93f57a41", func := "loop.example/g00321/laws.FnExactHashPoint", spec := "fnExactHashPoint", inPlace := ["internal/abi.NoEscape", "internal/bytealg.MakeNoZero"], named := ["loop.example/g00321/impl.turns", "loop.example/g00321/impl.roundConstants"], apart := false, laid := [("loop.example/g00321/impl.roundConstants", laid_loop_example_g00321_impl_roundConstants), ("loop.example/g00321/impl.turns", laid_loop_example_g00321_impl_turns)], narrowed := true }
def FnExactHashPointUptoSaid : Prop := fnExactHashPointUptoRow.holds Tryd.pinned (OpenSpec.upto fnExactHashPointSpec)

/-- 'laws.FnExactSignWith', WHERE WHAT IT READS IS OF BULK AT MOST 1048576: true; the input reads as it did. -/
def fnExactSignWithUptoRow : OpenClaim := { program := "ytkdmplfldfagnaadoor", sum := "971fbc9fe9c6d7691d913d65fecd2c80750b4d16107ff8638c6146cb93f57a41", func := "loop.example/g00321/laws.FnExactSignWith", spec := "fnExactSignWith", inPlace := ["internal/abi.NoEscape", "internal/bytealg.MakeNoZero"], named := ["loop.example/g00321/impl.turns", "loop.example/g00321/impl.roundConstants"], apart := false, laid := [("loop.example/g00321/impl.roundConstants", laid_loop_example_g00321_impl_roundConstants), ("loop.example/g00321/impl.turns", laid_loop_example_g00321_impl_turns)], narrowed := true }
def FnExactSignWithUptoSaid : Prop := fnExactSignWithUptoRow.holds Tryd.pinned (OpenSpec.upto fnExactSignWithSpec)

/-- 'laws.FnExactSignBits', WHERE WHAT IT READS IS OF BULK AT MOST 1048576: true; the input reads as it did. -/
def fnExactSignBitsUptoRow : OpenClaim := { program := "ytkdmplfldfagnaadoor", sum := "971fbc9fe9c6d7691d913d65fecd2c80750b4d16107ff8638c6146cb93f57a41", func := "loop.example/g00321/laws.FnExactSignBits", spec := "fnExactSignBits", inPlace := ["internal/abi.NoEscape", "internal/bytealg.MakeNoZero"], named := ["loop.example/g00321/impl.turns", "loop.example/g00321/impl.roundConstants"], apart := false, laid := [("loop.example/g00321/impl.roundConstants", laid_loop_example_g00321_impl_roundConstants), ("loop.example/g00321/impl.turns", laid_loop_example_g00321_impl_turns)], narrowed := true }
def FnExactSignBitsUptoSaid : Prop := fnExactSignBitsUptoRow.holds Tryd.pinned (OpenSpec.upto fnExactSignBitsSpec)

/-- 'laws.FnExactCommitteeRoot', WHERE WHAT IT READS IS OF BULK AT MOST 1048576: true; the input reads as it did. -/
def fnExactCommitteeRootUptoRow : OpenClaim := { program := "ytkdmplfldfagnaadoor", sum := "971fbc9fe9c6d7691d913d65fecd2c80750b4d16107ff8638c6146cb93f57a41", func := "loop.example/g00321/laws.FnExactCommitteeRoot", spec := "fnExactCommitteeRoot", inPlace := ["internal/abi.NoEscape", "internal/bytealg.MakeNoZero"], named := ["loop.example/g00321/impl.turns", "loop.example/g00321/impl.roundConstants"], apart := false, laid := [("loop.example/g00321/impl.roundConstants", laid_loop_example_g00321_impl_roundConstants), ("loop.example/g00321/impl.turns", laid_loop_example_g00321_impl_turns)], narrowed := true }
def FnExactCommitteeRootUptoSaid : Prop := fnExactCommitteeRootUptoRow.holds Tryd.pinned (OpenSpec.upto fnExactCommitteeRootSpec)

/-- 'laws.FnExactSigOk', WHERE WHAT IT READS IS OF BULK AT MOST 1048576: true; the input reads as it did. -/
def fnExactSigOkUptoRow : OpenClaim := { program := "ytkdmplfldfagnaadoor", sum := "971fbc9fe9c6d7691d913d65fecd2c80750b4d16107ff8638c6146cb93f57a41", func := "loop.example/g00321/laws.FnExactSigOk", spec := "fnExactSigOk", inPlace := ["internal/abi.NoEscape", "internal/bytealg.MakeNoZero"], named := ["loop.example/g00321/impl.turns", "loop.example/g00321/impl.roundConstants"], apart := false, laid := [("loop.example/g00321/impl.roundConstants", laid_loop_example_g00321_impl_roundConstants), ("loop.example/g00321/impl.turns", laid_loop_example_g00321_impl_turns)], narrowed := true }
def FnExactSigOkUptoSaid : Prop := fnExactSigOkUptoRow.holds Tryd.pinned (OpenSpec.upto fnExactSigOkSpec)

/-- 'laws.FnCommittees', WHERE WHAT IT READS IS OF BULK AT MOST 1048576: true; the input reads as it did. -/
def fnCommitteesUptoRow : OpenClaim := { program := "ytkdmplfldfagnaadoor", sum := "971fbc9fe9c6d7691d913d65fecd2c80750b4d16107ff8638c6146cb93f57a41", func := "loop.example/g00321/laws.FnCommittees", spec := "fnCommittees", inPlace := ["internal/abi.NoEscape", "internal/bytealg.MakeNoZero"], named := ["loop.example/g00321/impl.turns", "loop.example/g00321/impl.roundConstants"], apart := false, laid := [("loop.example/g00321/impl.roundConstants", laid_loop_example_g00321_impl_roundConstants), ("loop.example/g00321/impl.turns", laid_loop_example_g00321_impl_turns)], narrowed := true }
def FnCommitteesUptoSaid : Prop := fnCommitteesUptoRow.holds Tryd.pinned (OpenSpec.upto fnCommitteesSpec)

/-- 'laws.FnExactAllSigOk', WHERE WHAT IT READS IS OF BULK AT MOST 1048576: true; the input reads as it did. -/
def fnExactAllSigOkUptoRow : OpenClaim := { program := "ytkdmplfldfagnaadoor", sum := "971fbc9fe9c6d7691d913d65fecd2c80750b4d16107ff8638c6146cb93f57a41", func := "loop.example/g00321/laws.FnExactAllSigOk", spec := "fnExactAllSigOk", inPlace := ["internal/abi.NoEscape", "internal/bytealg.MakeNoZero"], named := ["loop.example/g00321/impl.turns", "loop.example/g00321/impl.roundConstants"], apart := false, laid := [("loop.example/g00321/impl.roundConstants", laid_loop_example_g00321_impl_roundConstants), ("loop.example/g00321/impl.turns", laid_loop_example_g00321_impl_turns)], narrowed := true }
def FnExactAllSigOkUptoSaid : Prop := fnExactAllSigOkUptoRow.holds Tryd.pinned (OpenSpec.upto fnExactAllSigOkSpec)

end Rows
end Go.Proofs.YtkdmplfldfagnaaDoor
